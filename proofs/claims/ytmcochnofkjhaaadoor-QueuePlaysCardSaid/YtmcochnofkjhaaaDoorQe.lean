import Derived.Test.YtmcochnofkjhaaaDoorWWords
import Derived.Maps.OwnSet
import Derived.Test.YtmcochnofkjhaaaDoorPAllx7
import Derived.Deep.MidRow
import Derived.StillTailTactics
import Derived.Deep.Upon
import Derived.Lib.SliceRun
import Derived.IntWalk
import Derived.Carry
/- A map from numbers to counts, in memory: what did not come in. By hand; no program in sight. -/
namespace Go.Proofs.YtmcochnofkjhaaaDoor.QU
open Go.RowKit Go.Proofs.YtmcochnofkjhaaaDoorW.PrintWords
set_option linter.unusedVariables false
set_option linter.unusedSimpArgs false
set_option linter.unusedSectionVars false
set_option maxRecDepth 100000
section
open Go.Maps
variable {P : Program} {kt et mt : TypeId} {w w' : World} {b N : Nat} {os : List Int}
/-- The map in block b: each number with how often it stands in the list. -/
def OvAt (P : Program) (kt et : TypeId) (w : World) (b N : Nat) (os : List Int) : Prop := os.length ≤ 1000000 ∧ ∃ D : DataW Nat, w.ownsMap P kt (plainElem P et) b N D ∧ ∀ k : Int, D.atKey (.int .i64 k) (.lit (.int .i64 0)) = .lit (.int .i64 (os.count k))
theorem OvAt.lt (h : OvAt P kt et w b N os) : b < w.heap.size := by obtain ⟨_, D, h1, _⟩ := h; exact h1.lt
theorem OvAt.form (h : OvAt P kt et w b N os) : ∃ es c, w.heap[b]? = some (.map es c) := by obtain ⟨_, D, ⟨es, c, hb, _⟩, _⟩ := h; exact ⟨es, c, hb⟩
theorem OvAt.other (h : OvAt P kt et w b N os) (hm : w'.heap[b]? = w.heap[b]?) : OvAt P kt et w' b N os := by
  obtain ⟨hl, D, ⟨es, c, hb, r⟩, hD⟩ := h
  exact ⟨hl, D, ⟨es, c, hm.trans hb, r⟩, hD⟩
theorem ov_new (P : Program) (kt et : TypeId) (w : World) : OvAt P kt et (w.alloc (.map #[] 0)) w.heap.size 0 [] :=
  ⟨Nat.zero_le _, .map [], World.ownsMap_made w P kt _, fun _ => rfl⟩
variable (hk : P.underlying kt = some (.int .i64)) (he : P.underlying et = some (.int .i64)) (ht : P.underlying mt = some (.map kt et))
include hk he ht
/-- 'm[k]'. -/
theorem OvAt.look (h : OvAt P kt et w b N os) (hz : (zeroValue et).run P w = .ok (.int .i64 0) w) {k : Int} (hw : (Lit.int .i64 k).wf = true) : (Instr.lookup mt (.map (some b)) (.int .i64 k) false).run P w = .ok (.int .i64 (os.count k)) w := by
  obtain ⟨hL, D, h1, h2⟩ := h
  obtain ⟨c, hr, hc, _⟩ := h1.lookup_int (int_keyed hk) ht he hz (keyOf_int_mk hk hw)
  rw [h2 k] at hc
  injection hc with hc
  injection hc with _ hc
  rw [hr, ← hc]
/-- 'm[k] = c + 1'. -/
theorem OvAt.more (h : OvAt P kt et w b N os) {k : Int} (hw : (Lit.int .i64 k).wf = true) (hl : os.length < 1000000) (hN : N ≤ 1000000) :
    ∃ w', (Instr.mapUpdate mt (.map (some b)) (.int .i64 k) (.int .i64 ((os.count k : Nat) + 1))).run P w = .ok () w' ∧ OvAt P kt et w' b (N + 1) (os ++ [k]) ∧ w.grownBy w' (some b) ∧ w'.heap.size = w.heap.size := by
  obtain ⟨hL, D, h1, h2⟩ := h
  have hcl : os.count k ≤ os.length := List.count_le_length
  have hwc : (Lit.int .i64 ((os.count k : Nat) + 1)).wf = true := WalkArith.wf_i64 ⟨by omega, by omega⟩
  have hi := h1.isMap
  obtain ⟨w', hr, ho, hg⟩ := h1.store (int_keyed hk) ht (by unfold maxLen; omega) (keyOf_int_mk hk hw) (plainElem_int he hwc)
  refine ⟨w', hr, ⟨by rw [List.length_append]; show _ + 1 ≤ _; omega, _, ho, fun j => ?_⟩, hg.grown, by obtain ⟨_, _, _, _, _, rfl⟩ := hg; simp [Go.ChangeMaps.setBlock]⟩
  by_cases e : j = k
  · subst e
    rw [atKey_put_same hi (by trivial), List.count_append, List.count_singleton_self]
    simp
  · rw [atKey_put_other (by simpa using e), h2 j, List.count_append]
    have : List.count j [k] = 0 := List.count_eq_zero.2 (by simpa using e)
    rw [this]
    simp
/-- 'delete(m, k)'. -/
theorem OvAt.drop (h : OvAt P kt et w b N os) {k : Int} (hw : (Lit.int .i64 k).wf = true) (ty : TypeId) :
    ∃ w', (Builtin.delete_ #[mt, kt] ty #[.map (some b), .int .i64 k]).run P w = .ok (.tuple #[]) w' ∧ OvAt P kt et w' b N (os.filter (· != k)) ∧ w.grownBy w' (some b) ∧ w'.heap.size = w.heap.size := by
  obtain ⟨hL, D, h1, h2⟩ := h
  obtain ⟨w', hr, ho, hg⟩ := h1.drop (int_keyed hk) ht (keyOf_int_mk hk hw) ty
  refine ⟨w', hr, ⟨Nat.le_trans (List.length_filter_le _ _) hL, _, ho, fun j => ?_⟩, hg.grown, by obtain ⟨_, _, _, _, _, rfl⟩ := hg; simp [Go.ChangeMaps.setBlock]⟩
  by_cases e : j = k
  · subst e
    rw [Maps.atKey_of_not_has (D := D.del (.int .i64 j)) (k := .int .i64 j) has_del_same]
    have : List.count j (os.filter (· != j)) = 0 := List.count_eq_zero.2 (by simp)
    rw [this]
    rfl
  · rw [atKey_del_other (by simpa using e), h2 j]
    rw [List.count_filter (by simpa using e)]
end
end Go.Proofs.YtmcochnofkjhaaaDoor.QU
/- General words for what is done by hand: what an act may turn (Mods), rows that are read (RW), a row with its length by another name. -/
namespace Go.Proofs.YtmcochnofkjhaaaDoor.QU
open Go.RowKit Go.Proofs.YtmcochnofkjhaaaDoorW.PrintWords Go.Proofs.YtmcochnofkjhaaaDoorW.PrintLast Go.Proofs.YtmcochnofkjhaaaDoorW.PrintMore Go.Proofs.YtmcochnofkjhaaaDoor.PAll
set_option linter.unusedVariables false
set_option linter.unusedSimpArgs false
set_option maxRecDepth 100000
theorem below_setRow {B : Nat} {w w1 : World} (h : Below B w w1) {g : Nat} (hg : B ≤ g) (cs : Array Value) : Below B w (w1.setRow g cs) := by
  refine ⟨h.os, h.tape, h.output, ?_, fun k hk => ?_⟩
  · exact Nat.le_trans h.size (by simp [World.setRow])
  · rw [setRow_other w1 g k cs (by omega)]; exact h.block k hk
/-- Outside of the region F all is as it was; the streams, too. -/
structure Mods (F : Nat → Prop) (w w' : World) : Prop where
  os : w'.os = w.os
  tape : w'.tape = w.tape
  output : w'.output = w.output
  size : w.heap.size ≤ w'.heap.size
  block : ∀ k, k < w.heap.size → ¬ F k → w'.heap[k]? = w.heap[k]?
theorem Mods.refl (F : Nat → Prop) (w : World) : Mods F w w := ⟨rfl, rfl, rfl, Nat.le_refl _, fun _ _ _ => rfl⟩
theorem Mods.trans {F G : Nat → Prop} {a b c : World} (h : Mods F a b) (k : Mods G b c) (hG : ∀ i, i < a.heap.size → G i → F i) : Mods F a c :=
  ⟨k.os.trans h.os, k.tape.trans h.tape, k.output.trans h.output, Nat.le_trans h.size k.size, fun i hi hF => (k.block i (Nat.lt_of_lt_of_le hi h.size) (fun e => hF (hG i hi e))).trans (h.block i hi hF)⟩
theorem Mods.of_below {F : Nat → Prop} {w w' : World} (h : Below w.heap.size w w') : Mods F w w' := ⟨h.os, h.tape, h.output, h.size, fun k hk _ => h.block k hk⟩
theorem Mods.mono {F G : Nat → Prop} {w w' : World} (h : Mods F w w') (hG : ∀ k, k < w.heap.size → F k → G k) : Mods G w w' := ⟨h.os, h.tape, h.output, h.size, fun k hk e => h.block k hk (fun hf => e (hG k hk hf))⟩
theorem Mods.below {F : Nat → Prop} {w w' : World} {B : Nat} (h : Mods F w w') (hB : B ≤ w.heap.size) (hF : ∀ k, F k → B ≤ k) : Below B w w' := ⟨h.os, h.tape, h.output, h.size, fun k hk => h.block k (by omega) (fun e => by have := hF k e; omega)⟩
theorem Mods.then_below {F : Nat → Prop} {a b c : World} (h : Mods F a b) (k : Below b.heap.size b c) : Mods F a c := h.trans (Mods.of_below (F := fun _ => False) k) (fun _ _ e => e.elim)
theorem Mods.set {F : Nat → Prop} {a b : World} (h : Mods F a b) {p : Addr} (hp : F p.block ∨ a.heap.size ≤ p.block) (v : Value) : Mods F a (b.setCell p v) :=
  h.trans (G := fun k => k = p.block) ⟨rfl, rfl, rfl, by simp [World.setCell], fun k _ e => Below.heap_setCell b p v k e⟩ (fun i hi e => by subst e; exact hp.elim id (fun e => absurd e (by omega)))
theorem Mods.setRow {F : Nat → Prop} {a b : World} (h : Mods F a b) {g : Nat} (hg : F g ∨ a.heap.size ≤ g) (cs : Array Value) : Mods F a (b.setRow g cs) :=
  h.trans (G := fun k => k = g) ⟨rfl, rfl, rfl, by simp [World.setRow], fun k _ e => setRow_other b g k cs e⟩ (fun i hi e => by subst e; exact hg.elim id (fun e => absurd e (by omega)))
theorem Mods.grown {F : Nat → Prop} {a b c : World} (h : Mods F a b) {row : Option Nat} (hg : b.grownBy c row) (hr : ∀ k, row = some k → F k ∨ a.heap.size ≤ k) : Mods F a c :=
  h.trans (G := fun k => row = some k) ⟨hg.os, hg.tape, hg.output, hg.size, fun k hk e => hg.block k hk (fun e' => e e'.symm)⟩ (fun i hi e => (hr i e).elim id (fun e => absurd e (by omega)))
theorem Mods.drew {F : Nat → Prop} {a b : World} (h : Mods F a b) : Mods F a b.drew := ⟨h.os, h.tape, h.output, h.size, h.block⟩
theorem Mods.drewN {F : Nat → Prop} {a b : World} (h : Mods F a b) (n : Nat) : Mods F a (b.drewN n) := ⟨h.os, h.tape, h.output, h.size, h.block⟩
theorem Mods.alloc {F : Nat → Prop} {a b : World} (h : Mods F a b) (o : Obj) : Mods F a (b.alloc o) := h.then_below (below_alloc (Below.refl _ _) o)
theorem below_cell {B : Nat} {w w1 : World} (h : Below B w w1) {p : Addr} (hp : B ≤ p.block) (v : Value) : Below B w (w1.setCell p v) :=
  ⟨h.os, h.tape, h.output, Nat.le_trans h.size (by simp [World.setCell]), fun k hk => (Below.heap_setCell w1 p v k (by omega)).trans (h.block k hk)⟩
theorem keepB {w W : World} {g : Nat} {o : Obj} (h : w.heap[g]? = some o) (hb : Below w.heap.size w W) : W.heap[g]? = some o := (hb.block g (blk_lt h)).trans h
/-- The store of a whole row, as a step of a region that draws. -/
theorem storeRow_ {P : Program} {ops : Array Oper} {oi : Oper} {a : Act} {w : World} {K : Act → World → Prop} {Q : Exit → Act → World → Prop} (hw : Region.wanted oi (yielded ops a.tmps) = true) (ty : TypeId) (x y : Operand) (ho : oi.op = .store ty x y) (hN : oi.dst = none)
    (g : Nat) (cells : Array Value) (hx : a.eval x = .pointer (some ⟨g, 0, none⟩)) (hy : a.eval y = .agg cells) (t : TypeId) (old : Array Value) (hg : w.heap[g]? = some (.cells old t (0, 0))) (hi : (P.info? ty).map (·.size) = some cells.size)
    (hold : old.size = cells.size) (h1 : cells.all (·.oneCell') = true) (h : K a (w.setRow g cells)) : if Region.wanted oi (yielded ops a.tmps) = true then Oper.wp P oi a w K Q else K (a.put none undef) w := by
  rw [if_pos hw]
  exact wp_store_row ty x y ho g cells hx hy t old hg hi hold h1 (by rw [hN]; exact h)
theorem wrapId {x : Int} (h0 : -4611686018427387904 ≤ x) (h1 : x ≤ 4611686018427387904) : wrap64 x = x := by unfold wrap64; omega
theorem update_run {P : Program} {o : Oper} {a : Act} {W W' : World} {t : TypeId} {m x y : Operand} {M X Y : Value} (ho : o.op = .mapUpdate t m x y) (hm : a.eval m = M) (hx : a.eval x = X) (hy : a.eval y = Y) (hr : (Instr.mapUpdate t M X Y).run P W = .ok () W') : (execOp a.eval o).run P W = .ok .skip W' := by
  unfold execOp
  simp only [ho, hm, hx, hy, Sem.run_bind, hr, Result.andThen_ok, Sem.run_pure]
theorem delete_run {P : Program} {o : Oper} {a : Act} {W w1 : World} {t k : TypeId} {s x : Operand} {v u v' : Value} (ho : o.op = .call { callee := .builtin .delete, args := #[s, x], argTypes := #[t, k] }) (hs : a.eval s = v) (hx : a.eval x = u) (hr : (Builtin.delete_ #[t, k] o.type #[v, u]).run P W = .ok v' w1) : (execOp a.eval o).run P W = .ok (.value v') w1 := by
  unfold execOp
  simp only [ho, resolve, invoke, builtin, Sem.run_bind, Sem.run_pure, Result.andThen_ok, List.map_toArray, List.map_cons, List.map_nil, hs, hx, hr]
theorem mods_keep {w w' : World} {g b : Nat} {o : Obj} (h : w.heap[b]? = some o) (hm : Mods (fun k => k = g) w w') (hb : b ≠ g) : w'.heap[b]? = some o := (hm.block b (blk_lt h) hb).trans h
/-- A row is read, out of blocks of which ok holds. -/
def RW {α : Type} (d : Kd α) (W : World) (ok : Nat → Prop) (v : Value) (xs : List α) : Prop := ∃ A c, v = .slice A xs.length c ∧ xs.length ≤ c ∧ Kd.F d W ok A xs.length xs
section
variable {α : Type} {d : Kd α} {W W1 : World} {ok ok' : Nat → Prop} {v : Value} {xs : List α}
theorem RW.mono (h : RW d W ok v xs) (hk : ∀ k, ok k → ok' k) : RW d W ok' v xs := by
  obtain ⟨A, c, e, hc, hf⟩ := h
  exact ⟨A, c, e, hc, Kd.F_mono hf hk⟩
theorem RW.bound (h : RW d W ok v xs) : RW d W (fun k => ok k ∧ k < W.heap.size) v xs := by
  obtain ⟨A, c, e, hc, hf⟩ := h
  exact ⟨A, c, e, hc, Kd.F_bound hf⟩
theorem RW.step (h : RW d W ok v xs) (hm : ∀ k, ok k → k < W.heap.size → W1.heap[k]? = W.heap[k]?) : RW d W1 ok v xs := by
  obtain ⟨A, c, e, hc, hf⟩ := h
  exact ⟨A, c, e, hc, Kd.F_step hf hm⟩
theorem RW.below (h : RW d W ok v xs) (hb : Below W.heap.size W W1) : RW d W1 ok v xs := h.step (fun k _ hk => hb.block k hk)
theorem RW.of_R {e base : Nat} (h : d.R e W base ok v xs) : RW d W (fun k => base ≤ k) v xs := by
  have h2 := Kd.R_bound h
  obtain ⟨A, c, rfl, hc, _⟩ := Kd.R_reads h
  exact ⟨A, c, rfl, hc, Kd.F_mono (Kd.R_F h2) (fun k hk => hk.2.1)⟩
theorem RW.nil (d : Kd α) (W : World) (ok : Nat → Prop) : RW d W ok (.slice none 0 0) [] := ⟨none, 0, rfl, Nat.le_refl _, Kd.F_nil d W ok⟩
theorem R_setRow {e base : Nat} (h : d.R e W base ok v xs) {g t : Nat} {cells : Array Value} (hb : W.heap[g]? = some (.cells cells t (0, 0))) (ht : ∀ q, q ∈ e :: d.E → q ≠ t) (cs : Array Value) : d.R e (W.setRow g cs) base ok v xs := by
  have h2 : d.R e W base (fun k => ok k ∧ k ≠ g) v xs := Kd.R_mono (Kd.R_bound h) (fun k hk => ⟨hk.1, fun eg => by
    obtain ⟨_, _, _, q, hq, cells', hc⟩ := hk
    rw [eg, hb] at hc
    injection hc with hc
    injection hc with _ hc2 _
    exact ht q hq hc2.symm⟩)
  exact Kd.R_mono (Kd.R_step h2 (fun k hk _ => setRow_other W g k cs hk.2)) (fun k hk => hk.1)
end
/-- A row of a box's value: its slice, its length by another name. -/
theorem R_named {α : Type} {d : Kd α} {e base n : Nat} {w : World} {ok : Nat → Prop} {v : Value} {xs : List α} (h : d.R e w base ok v xs) (hn : xs.length = n) : ∃ A c, v = .slice A n c ∧ n ≤ c ∧ d.R e w base ok (.slice A n c) xs := by
  obtain ⟨A, c, rfl, hc, _⟩ := Kd.R_reads h
  subst hn
  exact ⟨A, c, rfl, hc, h⟩
theorem C_named {α : Type} {d : Kd α} {e base n c : Nat} {w : World} {ok : Nat → Prop} {A : Option Addr} {xs : List α} (h : d.R e w base ok (.slice A n c) xs) : xs.length ≤ c ∧ d.C w A xs.length xs := by
  obtain ⟨a, b, c⟩ := Kd.R_reads' h
  exact ⟨by omega, c⟩
end Go.Proofs.YtmcochnofkjhaaaDoor.QU
/- A queue in memory; what is given, cloned; New, Len, Room, Over; a nil queue. By hand. -/
namespace Go.Proofs.YtmcochnofkjhaaaDoor.QU
open Go.RowKit Go.Proofs.YtmcochnofkjhaaaDoorW.PrintWords Go.Proofs.YtmcochnofkjhaaaDoorW.PrintLast Go.Proofs.YtmcochnofkjhaaaDoorW.PrintMore Go.Proofs.YtmcochnofkjhaaaDoor.PAll
set_option linter.unusedVariables false
set_option linter.unusedSimpArgs false
set_option maxRecDepth 100000
/-! ### rows of what is given -/
theorem info36p : (Tryd.prog.info? 36).map (fun i => (i.zero, i.size, i.bytes)) = some (some (.agg #[.int .i64 0, .string ⟨#[]⟩, .int .i64 0, .int .i64 0, .int .i64 0, .string ⟨#[]⟩, .slice none 0 0]), k36.sz, 88) := by kernel_rfl
theorem info36s : (Tryd.prog.info? 36).map (·.size) = some 7 := by kernel_rfl
theorem k36_types {t : Nat} (h1 : 36 ≠ t) (h2 : 87 ≠ t) : ∀ q, q ∈ (36 : Nat) :: k36.E → q ≠ t := by
  intro q hq
  have : q = 36 ∨ q = 87 := by simpa [k36, k33, k30, k87, k85, Kd.iso, Kd.pair, Kd.slice, Kd.int, Kd.string, Kd.scalar] using hq
  rcases this with rfl | rfl
  · exact h1
  · exact h2
/-- Elements one behind the other, their rows in ok. -/
def GRow (w : World) (ok : Nat → Prop) (A : Option Addr) (n : Nat) (xs : List S36) : Prop := ReadsRow (k36.M w 0 ok) 7 w A n xs
theorem GRow.of_R {w : World} {ok : Nat → Prop} {A : Option Addr} {n c : Nat} {xs : List S36} (h : k36.R 36 w 0 ok (.slice A n c) xs) : n = xs.length ∧ n ≤ c ∧ GRow w ok A xs.length xs := by
  obtain ⟨A', c', e, hc, hr⟩ := h.2.reads
  injection e with e1 e2 e3
  subst e1 e2 e3
  exact ⟨rfl, hc, hr.1, hr.2.1, fun hn => by
    obtain ⟨ad, e, hcell⟩ := hr.2.2 hn
    exact ⟨ad, e, fun j p hp => by
      obtain ⟨cs, a, b, c⟩ := hcell j p hp
      exact ⟨cs, a, k36.M_mono (fun k hk => hk.1) b, c⟩⟩⟩
theorem GRow.C {w : World} {ok : Nat → Prop} {A : Option Addr} {n : Nat} {xs : List S36} (h : GRow w ok A n xs) : k36.C w A n xs :=
  ⟨h.1, h.2.1, fun hn => by
    obtain ⟨ad, e, hcell⟩ := h.2.2 hn
    exact ⟨ad, e, fun j p hp => by
      obtain ⟨cs, a, b, c⟩ := hcell j p hp
      exact ⟨cs, a, k36.K_of_M b, c⟩⟩⟩
theorem GRow.take {w : World} {ok : Nat → Prop} {A : Option Addr} {xs : List S36} {m : Nat} (h : GRow w ok A xs.length xs) (hm : m ≤ xs.length) : GRow w ok A (xs.take m).length (xs.take m) := by
  have hl : (xs.take m).length = m := by rw [List.length_take]; omega
  refine ⟨rfl, by rw [hl]; have := h.2.1; omega, fun hp => ?_⟩
  obtain ⟨ad, e, hc⟩ := h.2.2 (by omega)
  refine ⟨ad, e, fun j p hj => hc j p ?_⟩
  rw [List.getElem?_take] at hj
  split at hj
  · exact hj
  · cases hj
theorem GRow.drop {w : World} {ok : Nat → Prop} {A : Option Addr} {xs : List S36} {m c : Nat} (h : GRow w ok A xs.length xs) (hm : m ≤ xs.length) (hc : xs.length ≤ c) : GRow w ok (if c = m then A else A.map (·.add (m * 7))) (xs.drop m).length (xs.drop m) := by
  have hl : (xs.drop m).length = xs.length - m := List.length_drop
  refine ⟨rfl, by rw [hl]; have := h.2.1; omega, fun hp => ?_⟩
  rw [hl] at hp
  obtain ⟨ad, rfl, hcell⟩ := h.2.2 (by omega)
  rw [if_neg (by omega)]
  refine ⟨ad.add (m * 7), rfl, fun j p hj => ?_⟩
  rw [List.getElem?_drop] at hj
  obtain ⟨cs, h1, h2, h3⟩ := hcell (m + j) p hj
  refine ⟨cs, h1, h2, fun i u hu => ?_⟩
  rw [add_add, show m * 7 + (j * 7 + i) = (m + j) * 7 + i by rw [Nat.add_mul]; omega]
  exact h3 i u hu
theorem GRow.below {w w' : World} {ok : Nat → Prop} {A : Option Addr} {n : Nat} {xs : List S36} (h : GRow w ok A n xs) (hb : Below w.heap.size w w') : GRow w' ok A n xs :=
  ReadsRow.imp_ h hb (fun p c hp => Kd.M_step hp (fun k _ hlt => hb.block k hlt))
theorem R_lit1 {α : Type} (d : Kd α) (e : Nat) (w : World) (ok : Nat → Prop) (h : ok w.heap.size) : d.R e (w.alloc (.cells #[] e)) 0 ok (.slice (some ⟨w.heap.size, 0, none⟩) 0 0) [] := by
  refine ⟨fun k hk => ?_, [], ?_, Reps.none _ _⟩
  · have : w.heap.size = k := by simpa [Value.ownBlock] using hk
    exact this ▸ h
  · have h2 := World.ownsRow_lit (base := 0) (e := e) (size := d.sz) w #[] 0 (Nat.zero_le _) (by decide) (by simp)
    simpa using h2
theorem own_lit (b : Nat) {k : Nat} (h : (Value.slice (some ⟨b, 0, none⟩) 0 0).ownBlock = some k) : b = k := by simpa [Value.ownBlock] using h
set_option maxHeartbeats 4000000 in
theorem cloneG_is {w : World} {ok : Nat → Prop} {A : Option Addr} {n c : Nat} {xs : List S36} (hr : GRow w ok A xs.length xs) (hc : xs.length ≤ c) (hl : xs.length ≤ 100000) (hn : xs.length = n) :
    Calls Tryd.prog 27 #[.slice A n c] w fun e w' => ∃ v, e = .returned v ∧ k36.R 36 w' 0 (fun k => ok k ∨ w.heap.size ≤ k) v xs ∧ (∀ k, v.ownBlock = some k → w.heap.size ≤ k) ∧ Below w.heap.size w w' := by
  subst hn
  have hu36 := Tryd.underlying36
  have hnil := fun (W : World) (A : Option Addr) (n : Nat) => Lib.run_eql_slice_nil W 37 36 A n c 0 0 Tryd.underlying37
  have HR := Aside0.mk hr
  have HL := Aside0.mk hl
  clear hr hl
  cases A with
  | none =>
    obtain rfl : xs = [] := C_none_nil HR.out.C
    go_enter Tryd.func27, Tryd.ntmps27
    go_wp2
    go_ret
    exact ⟨_, rfl, Kd.R_nil _ _ _ _ _, fun k hk => by simp [Value.ownBlock] at hk, Below.refl _ _⟩
  | some ad =>
    have HO := Aside0.mk (R_lit1 k36 36 w (fun k => ok k ∨ w.heap.size ≤ k) (.inr (Nat.le_refl _)))
    have HB1 := Aside0.mk (below_alloc (Below.refl w.heap.size w) (.cells #[] 36))
    go_enter Tryd.func27, Tryd.ntmps27
    go_wp2_with ((with_reducible refine gate_builtin (b := .append) (xs := #[.tmp 5, .tmp 6]) rfl ?_); at_builtin; refine Kd.R_append_rows k36 (Rr := k36.M w 0 (fun k => ok k ∧ k < w.heap.size)) (w0 := w.alloc (.cells #[] 36)) 0 rfl (.tmp 5) (.tmp 6) 37 36 _ 88 rfl Tryd.underlying37 info36p rfl (by decide) (by omega) _ [] xs _ _ _ (fun k => ok k ∨ w.heap.size ≤ k) (fun k => ok k ∧ k < w.heap.size) rfl rfl HO.out ?rowR ?mM ?okp (fun k hk => .inr (Nat.le_trans HB1.out.size hk)) (Below.refl 0 _) (Nat.zero_le _) (by have := HL.out; simp; omega) ?_; (case rowR => exact ReadsRow.imp_ HR.out HB1.out (fun x cs hp => k36.M_mono (fun k hk => ⟨hk.1, hk.2.2.1⟩) (k36.M_bound hp))); (case mM => intro x cs hp; exact Kd.M_alloc hp _); (case okp => intro k hk; exact ⟨.inl hk.1, fun e => by have := own_lit _ e.symm; have := hk.2; omega⟩); intro v1 w1 h1 h2 h3 h4; have HV := Aside0.mk h1; have HB2 := Aside0.mk h3; have HA2 := Aside0.mk h4; clear h1 h2 h3 h4)
    go_ret
    refine ⟨v1, rfl, by simpa using HV.out, fun k hk => ?_, ?_⟩
    · rcases HA2.out with e | ⟨b, e, hb⟩
      · rw [e] at hk
        have := own_lit _ hk
        omega
      · rw [e] at hk
        injection hk with hk
        have : w.heap.size + 1 ≤ b := by simpa using hb
        omega
    · exact Mods.below (F := fun _ => False) ((Mods.alloc (Mods.refl _ w) _).grown HB2.out (fun k hk => .inr (by have := own_lit _ hk; omega))) (Nat.le_refl _) (fun _ h => h.elim)
end Go.Proofs.YtmcochnofkjhaaaDoor.QU
/- A queue in memory: New, Len, Room, Over; a nil queue. By hand. -/
namespace Go.Proofs.YtmcochnofkjhaaaDoor.QU
open Go.RowKit Go.Proofs.YtmcochnofkjhaaaDoorW.PrintWords Go.Proofs.YtmcochnofkjhaaaDoorW.PrintLast Go.Proofs.YtmcochnofkjhaaaDoorW.PrintMore Go.Proofs.YtmcochnofkjhaaaDoor.PAll
set_option linter.unusedVariables false
set_option linter.unusedSimpArgs false
set_option maxRecDepth 100000
/-- A queue: its room, what is there, what did not come in; how many turns its map has had. -/
structure Qu where
  room : Nat
  l : List S36
  os : List Int
  n : Nat
def qc (q : Qu) (v : Value) (m : Nat) : Array Value := #[.int .i64 q.room, v, .map (some m)]
/-- A queue in block g: its row's slice v, its map's block m. -/
structure QAt (w : World) (g : Nat) (q : Qu) (v : Value) (m : Nat) : Prop where
  blk : w.heap[g]? = some (.cells (qc q v m) 68 (0, 0))
  row : k36.R 36 w 0 (fun _ => True) v q.l
  ov : OvAt Tryd.prog 3 3 w m q.n q.os
/-- The bounds within which a queue stays, k turns on. -/
structure Bq (q : Qu) (k : Nat) : Prop where
  r1 : 1 ≤ q.room
  r : q.room ≤ 100
  l : q.l.length ≤ q.room
  o : q.os.length ≤ q.n
  n : q.n ≤ k
/-- The blocks of a queue that its acts turn. -/
def lf (g : Nat) (v : Value) (m : Nat) : Nat → Prop := fun k => k = g ∨ k = m ∨ v.ownBlock = some k
section
variable {w w' : World} {g m : Nat} {q : Qu} {v : Value}
theorem QAt.lt (h : QAt w g q v m) : g < w.heap.size := blk_lt h.blk
theorem QAt.own (h : QAt w g q v m) {k : Nat} (hk : v.ownBlock = some k) : ∃ cells, w.heap[k]? = some (.cells cells 36 (0, 0)) := by
  obtain ⟨inner, ho⟩ := Kd.R_own h.row
  exact own_typed ho k hk
theorem QAt.foot_lt (h : QAt w g q v m) {k : Nat} (hk : lf g v m k) : k < w.heap.size := by
  rcases hk with rfl | rfl | hk
  · exact h.lt
  · exact h.ov.lt
  · obtain ⟨c, hc⟩ := h.own hk; exact blk_lt hc
theorem QAt.ne_row (h : QAt w g q v m) : v.ownBlock ≠ some g := by
  intro e
  obtain ⟨c, hc⟩ := h.own e
  rw [h.blk] at hc
  injection hc with hc
  injection hc with _ hc
  cases hc
theorem QAt.ne_map (h : QAt w g q v m) : m ≠ g := by
  intro e
  obtain ⟨es, c, hc⟩ := h.ov.form
  rw [e, h.blk] at hc
  injection hc with hc
  cases hc
theorem QAt.row_map (h : QAt w g q v m) : v.ownBlock ≠ some m := by
  intro e
  obtain ⟨c, hc⟩ := h.own e
  obtain ⟨es, c2, hc2⟩ := h.ov.form
  rw [hc] at hc2
  injection hc2 with hc2
  cases hc2
theorem QAt.below (h : QAt w g q v m) (hb : Below w.heap.size w w') : QAt w' g q v m :=
  ⟨keepB h.blk hb, Kd.R_below h.row hb, h.ov.other (hb.block m h.ov.lt)⟩
/-- The row lies apart from the box and the map. -/
theorem QAt.apart (h : QAt w g q v m) : k36.R 36 w 0 (fun k => k ≠ g ∧ k ≠ m) v q.l :=
  Kd.R_mono (Kd.R_bound (Kd.R_types h.row h.blk (k36_types (by decide) (by decide)))) (fun k hk => ⟨hk.1.2, fun e => by
    obtain ⟨_, _, _, t, _, cells, hc⟩ := hk
    obtain ⟨es, c2, hc2⟩ := h.ov.form
    rw [e, hc2] at hc
    injection hc with hc
    cases hc⟩)
/-- The map alone has turned. -/
theorem QAt.map (h : QAt w g q v m) {os : List Int} {n : Nat} (hg : w.grownBy w' (some m)) (ho : OvAt Tryd.prog 3 3 w' m n os) : QAt w' g { q with os := os, n := n } v m :=
  ⟨(hg.block g h.lt (fun e => h.ne_map (Option.some.inj e).symm)).trans h.blk, Kd.R_mono (Kd.R_grown h.apart hg (fun k hk e => hk.2 (Option.some.inj e))) (fun _ _ => trivial), ho⟩
/-- What an act of a queue leaves. -/
structure QStep (w : World) (g : Nat) (v : Value) (m : Nat) (q' : Qu) (v' : Value) (w' : World) : Prop where
  qu : QAt w' g q' v' m
  own : ∀ k, v'.ownBlock = some k → v.ownBlock = some k ∨ w.heap.size ≤ k
  mods : Mods (lf g v m) w w'
theorem qstep_refl (h : QAt w g q v m) (hb : Below w.heap.size w w') : QStep w g v m q v w' := ⟨h.below hb, fun _ hk => .inl hk, Mods.of_below hb⟩
theorem len_is (h : QAt w g q v m) : Calls Tryd.prog 14 #[.pointer (some ⟨g, 0, none⟩)] w fun e w' => e = .returned (.int .i64 q.l.length) ∧ Below w.heap.size w w' := by
  obtain ⟨A, c, rfl, hcl, hC⟩ := Kd.R_reads h.row
  have c1 := (blk_cell h.blk 1).trans (show (qc q (.slice A q.l.length c) m)[1]? = some (.slice A q.l.length c) from rfl)
  clear h hC
  go_enter Tryd.func14, Tryd.ntmps14
  go_wp2
  go_ret
  exact ⟨rfl, Below.refl _ _⟩
theorem room_is (h : QAt w g q v m) : Calls Tryd.prog 15 #[.pointer (some ⟨g, 0, none⟩)] w fun e w' => e = .returned (.int .i64 q.room) ∧ Below w.heap.size w w' := by
  have c0 := (blk_cell h.blk 0).trans (show (qc q v m)[0]? = some (.int .i64 q.room) from rfl)
  clear h
  go_enter Tryd.func15, Tryd.ntmps15
  go_wp2
  go_ret
  exact ⟨rfl, Below.refl _ _⟩
theorem zero3 (w : World) : (zeroValue 3).run Tryd.prog w = .ok (.int .i64 0) w := by
  with_unfolding_all rfl
theorem over_is (h : QAt w g q v m) (k : Int) (hk : (Lit.int .i64 k).wf = true) : Calls Tryd.prog 13 #[.pointer (some ⟨g, 0, none⟩), .int .i64 k] w fun e w' => e = .returned (.int .i64 (q.os.count k)) ∧ Below w.heap.size w w' := by
  have c2 := (blk_cell h.blk 2).trans (show (qc q v m)[2]? = some (.map (some m)) from rfl)
  have hl := h.ov.look (mt := 66) Tryd.underlying3 Tryd.underlying3 Tryd.underlying66 (zero3 w) hk
  clear h
  go_enter Tryd.func13, Tryd.ntmps13
  go_wp2
  go_ret
  exact ⟨rfl, Below.refl _ _⟩
end
section
variable (w : World)
end
theorem new_no (w : World) (x : Int) (h : x < 1 ∨ 100 < x) : Calls Tryd.prog 7 #[.int .i64 x] w fun e w' => e = .returned (.pointer none) ∧ Below w.heap.size w w' := by
  by_cases h1 : x < 1
  · have d1 : decide (x < 1) = true := decide_eq_true h1
    go_enter Tryd.func7, Tryd.ntmps7
    go_wp2
    go_ret
    exact ⟨rfl, Below.refl _ _⟩
  · have d1 : decide (x < 1) = false := decide_eq_false h1
    have d2 : decide (100 < x) = true := decide_eq_true (by omega)
    go_enter Tryd.func7, Tryd.ntmps7
    go_wp2
    go_ret
    exact ⟨rfl, Below.refl _ _⟩
theorem new_yes (w : World) (x : Nat) (h1 : 1 ≤ x) (h2 : x ≤ 100) : Calls Tryd.prog 7 #[.int .i64 x] w fun e w' => ∃ g m, e = .returned (.pointer (some ⟨g, 0, none⟩)) ∧ QAt w' g ⟨x, [], [], 0⟩ (.slice none 0 0) m ∧ w.heap.size ≤ g ∧ w.heap.size ≤ m ∧ Below w.heap.size w w' := by
  have hu68 := Tryd.underlying68
  have d1 : decide ((x : Int) < 1) = false := decide_eq_false (by omega)
  have d2 : decide (100 < (x : Int)) = false := decide_eq_false (by omega)
  have hmm := @run_makeMap Tryd.prog
  go_enter Tryd.func7, Tryd.ntmps7
  go_wp2
  go_ret
  have s1 : (w.alloc (.map #[] 0)).heap.size = w.heap.size + 1 := by simp
  have hn := blk_new (w.alloc (.map #[] 0)) (.cells #[.int .i64 x, .slice none 0 0, .map (some w.heap.size)] 68)
  rw [s1] at hn
  have he := ov_new Tryd.prog 3 3 w
  exact ⟨w.heap.size + 1, w.heap.size, rfl, ⟨hn, Kd.R_nil _ _ _ _ _, he.other ((below_alloc (Below.refl _ _) _).block _ he.lt)⟩, by omega, by omega, below_alloc (below_alloc (Below.refl _ _) _) _⟩
end Go.Proofs.YtmcochnofkjhaaaDoor.QU
/- What is taken from a queue: Poll. By hand. -/
namespace Go.Proofs.YtmcochnofkjhaaaDoor.QU
open Go.RowKit Go.Proofs.YtmcochnofkjhaaaDoorW.PrintWords Go.Proofs.YtmcochnofkjhaaaDoorW.PrintLast Go.Proofs.YtmcochnofkjhaaaDoorW.PrintMore Go.Proofs.YtmcochnofkjhaaaDoor.PAll
set_option linter.unusedVariables false
set_option linter.unusedSimpArgs false
set_option maxRecDepth 100000
theorem QAt.cell1 {w : World} {g m n c : Nat} {q : Qu} {A : Option Addr} (h : QAt w g q (.slice A n c) m) : w.cell? ⟨g, 1, none⟩ = some (.slice A n c) := (blk_cell h.blk 1).trans rfl
theorem QAt.G {w : World} {g m n c : Nat} {q : Qu} {A : Option Addr} (h : QAt w g q (.slice A n c) m) : q.l.length ≤ c ∧ GRow w (fun _ => True) A q.l.length q.l := by
  obtain ⟨h1, h2, h3⟩ := GRow.of_R h.row
  exact ⟨by omega, h3⟩
/-- The queue's row is another one. -/
theorem QAt.row_set {w W : World} {g m n c n2 c2 : Nat} {q : Qu} {A A2 : Option Addr} {l : List S36} {ok : Nat → Prop} (h : QAt w g q (.slice A n c) m) (hb : Below w.heap.size w W) (hr : k36.R 36 W 0 ok (.slice A2 n2 c2) l) (ho : ∀ k, (Value.slice A2 n2 c2).ownBlock = some k → w.heap.size ≤ k) :
    QStep w g (.slice A n c) m { q with l := l } (.slice A2 n2 c2) (W.setCell ⟨g, 1, none⟩ (.slice A2 n2 c2)) := by
  have e1 := keepB h.blk hb
  refine ⟨⟨blk_set e1 1 _, Kd.R_mono (Kd.R_set hr e1 (k36_types (by decide) (by decide)) 1 _) (fun _ _ => trivial), ?_⟩, fun k hk => .inr (ho k hk), (Mods.of_below hb).set (.inl (.inl rfl)) _⟩
  refine (h.below hb).ov.other ?_
  rw [Below.heap_setCell _ _ _ _ h.ne_map]
/-- How many are taken. -/
def pollN (q : Qu) (most : Int) : Nat := (min (max most 0) (q.l.length : Int)).toNat
def PollOut (w : World) (g : Nat) (q : Qu) (v : Value) (m : Nat) (most : Int) (e : Ending) (w' : World) : Prop :=
  ∃ o v', e = .returned o ∧ k36.R 36 w' 0 (fun _ => True) o (q.l.take (pollN q most)) ∧ QStep w g v m { q with l := q.l.drop (pollN q most) } v' w'
theorem info36ex : ∃ i, Tryd.prog.info? 36 = some i ∧ i.size = 7 := by
  have h := info36s
  cases e : Tryd.prog.info? 36 with
  | none => rw [e] at h; cases h
  | some i => rw [e] at h; exact ⟨i, rfl, Option.some.inj h⟩
set_option maxHeartbeats 4000000 in
theorem poll_is {w : World} {g m : Nat} {q : Qu} {v : Value} (h : QAt w g q v m) {k : Nat} (hq : Bq q k) (most : Int) :
    Calls Tryd.prog 11 #[.pointer (some ⟨g, 0, none⟩), .int .i64 most] w (PollOut w g q v m most) := by
  obtain ⟨b1, b2, b3, _, _⟩ := hq
  obtain ⟨A, c, rfl, hcl, hC⟩ := Kd.R_reads h.row
  clear hC
  have HL := Aside0.mk h
  clear h
  by_cases h0 : min (max most 0) (q.l.length : Int) = 0
  · have d1 : (min (max most 0) (q.l.length : Int) == 0) = true := beq_iff_eq.2 h0
    go_enter Tryd.func11, Tryd.ntmps11
    go_wp2_with (((with_reducible refine gate_dst (N := 10) rfl ?_); refine goesL_ (some 10) rfl rfl Tryd.func14 (by kernel_rfl) rfl #[.pointer (some ⟨g, 0, none⟩)] rfl (by first | (simp only [List.map_toArray, List.map_cons, List.map_nil]; rfl) | rfl) ?_; refine (len_is HL.out).mono ?_; rintro e w1 ⟨rfl, hb⟩; have HB := Aside0.mk hb; clear hb; refine ⟨_, rfl, ?_⟩))
    go_ret
    have e0 : pollN q most = 0 := by unfold pollN; rw [h0]; rfl
    refine ⟨_, .slice A q.l.length c, rfl, ?_, ?_⟩
    · rw [e0]; exact Kd.R_nil _ _ _ _ _
    · rw [e0]; exact qstep_refl HL.out HB.out
  · have d1 : (min (max most 0) (q.l.length : Int) == 0) = false := by simpa using h0
    obtain ⟨i, hi, hsz⟩ := info36ex
    have hN : (pollN q most : Int) = min (max most 0) (q.l.length : Int) := by unfold pollN; omega
    have hN1 : pollN q most ≤ q.l.length := by omega
    have hc1 := cut_to (P := Tryd.prog) 37 36 .i64 Tryd.underlying37 hi A q.l.length c (min (max most 0) (q.l.length : Int)) (by omega) (by omega) hcl
    have hc2 := cut_from (P := Tryd.prog) 37 36 .i64 Tryd.underlying37 hi 7 hsz A q.l.length c (min (max most 0) (q.l.length : Int)) (by omega) (by omega)
    rw [show (min (max most 0) (q.l.length : Int)).toNat = pollN q most from rfl] at hc1 hc2
    obtain ⟨A3, hA3⟩ : ∃ A3, A3 = (if c = pollN q most then A else A.map (·.add (pollN q most * 7))) := ⟨_, rfl⟩
    rw [← hA3] at hc2
    have HA3 := Aside0.mk hA3
    clear hA3
    have hl1 : (q.l.take (pollN q most)).length = pollN q most := by rw [List.length_take]; omega
    have hl2 : (q.l.drop (pollN q most)).length = q.l.length - pollN q most := List.length_drop
    go_enter Tryd.func11, Tryd.ntmps11
    go_wp2_with (first
      | ((with_reducible refine gate_dst (N := 10) rfl ?_); refine goesL_ (some 10) rfl rfl Tryd.func14 (by kernel_rfl) rfl #[.pointer (some ⟨g, 0, none⟩)] rfl (by first | (simp only [List.map_toArray, List.map_cons, List.map_nil]; rfl) | rfl) ?_; refine (len_is HL.out).mono ?_; rintro e w1 ⟨rfl, hb⟩; have HB := Aside0.mk hb; have H1 := Aside0.mk (HL.out.below hb); clear hb; have c1 := H1.out.cell1; refine ⟨_, rfl, ?_⟩)
      | ((with_reducible refine gate_dst (N := 20) rfl ?_); refine goesL_ (some 20) rfl rfl Tryd.func27 (by kernel_rfl) rfl #[.slice A (pollN q most) c] rfl (by first | (simp only [List.map_toArray, List.map_cons, List.map_nil]; rfl) | rfl) ?_; refine (cloneG_is (GRow.take H1.out.G.2 hN1) (by omega) (by omega) hl1).mono ?_; rintro e w2 ⟨v1, rfl, hr, ho, hb⟩; have HR1 := Aside0.mk hr; have HB2 := Aside0.mk (HB.out.trans (hb.mono HB.out.size)); clear hr ho hb; have H2 := Aside0.mk (HL.out.below HB2.out); have c2 := H2.out.cell1; refine ⟨_, rfl, ?_⟩)
      | ((with_reducible refine gate_dst (N := 28) rfl ?_); refine goesL_ (some 28) rfl rfl Tryd.func27 (by kernel_rfl) rfl #[.slice A3 (q.l.length - pollN q most) (c - pollN q most)] rfl (by first | (simp only [List.map_toArray, List.map_cons, List.map_nil]; rfl) | rfl) ?_; refine (cloneG_is (HA3.out ▸ GRow.drop H2.out.G.2 hN1 hcl) (by omega) (by omega) hl2).mono ?_; rintro e w3 ⟨v2, rfl, hr, ho, hb⟩; obtain ⟨A2, c2_, rfl⟩ := Kd.R_slice hr; rw [hl2] at hr ho; have HR2 := Aside0.mk hr; have HO2 := Aside0.mk ho; have HB3 := Aside0.mk (HB2.out.trans (hb.mono HB2.out.size)); have HR3 := Aside0.mk (Kd.R_below HR1.out hb); clear hr ho hb; have H3 := Aside0.mk (HL.out.below HB3.out); have c3 := H3.out.cell1; have f3 := blk_frozen H3.out.blk 1; refine ⟨_, rfl, ?_⟩))
    go_ret
    refine ⟨v1, .slice A2 (q.l.length - pollN q most) c2_, rfl, Kd.R_mono (Kd.R_set HR3.out H3.out.blk (k36_types (by decide) (by decide)) 1 _) (fun _ _ => trivial), ?_⟩
    exact HL.out.row_set HB3.out HR2.out (fun k hk => Nat.le_trans HB2.out.size (HO2.out k hk))
/-- The cells of what is given. -/
def gc (G : S36) (v : Value) : Array Value := #[.int .i64 G.f0, .string G.f1, .int .i64 G.f2.f0.f0, .int .i64 G.f2.f0.f1, .int .i64 G.f2.f0.f2, .string G.f2.f1, v]
theorem own_is (w : World) (G : S36) {A : Option Addr} {c : Nat} (hC : k87.C w A G.f2.f2.length G.f2.f2) (hc : G.f2.f2.length ≤ c) (hl : G.f2.f2.length ≤ 1000000) :
    Calls Tryd.prog 26 #[.agg (gc G (.slice A G.f2.f2.length c))] w fun e w' => ∃ v, e = .returned (.agg (gc G v)) ∧ k87.R 87 w' w.heap.size (fun _ => True) v G.f2.f2 ∧ Below w.heap.size w w' :=
  queue_own.calls G.f0 G.f1 G.f2.f0.f0 G.f2.f0.f1 G.f2.f0.f2 G.f2.f1 A c G.f2.f2 _ _ _ _ _ _ _ w hC hc (by unfold queue_own.f api_Attr.f; rw [if_pos (by omega)]; rfl)
end Go.Proofs.YtmcochnofkjhaaaDoor.QU
