/- General words for what is done by hand: what an act may turn (Mods), rows that are read (RW), a row with its length by another name. -/
import Derived.Test.YtmcochnofkjhaaaDoorPAllx7
import Derived.Deep.MidRow
import Derived.StillTailTactics
import Derived.Deep.Upon
import Derived.Lib.SliceRun
import Derived.IntWalk
import Derived.Test.YtmcochnofkjhaaaDoorQa
namespace Go.Proofs.YtmcochnofkjhaaaDoor.QU
open Go.RowKit Go.Proofs.YtmcochnofkjhaaaDoorW.PrintWords Go.Proofs.YtmcochnofkjhaaaDoorW.PrintLast Go.Proofs.YtmcochnofkjhaaaDoorW.PrintMore Go.Proofs.YtmcochnofkjhaaaDoor.PAll
set_option linter.unusedVariables false
set_option linter.unusedSimpArgs false
set_option maxRecDepth 100000
theorem below_setRow {B : Nat} {w w1 : World} (h : Below B w w1) {g : Nat} (hg : B ≤ g) (cs : Array Value) : Below B w (w1.setRow g cs) := by
  refine ⟨h.os, h.tape, h.output, ?_, fun k hk => ?_⟩
  · exact Nat.le_trans h.size (by simp [World.setRow])
  · rw [setRow_other w1 g k cs (by omega)]; exact h.block k hk
/-- Outside of the region F all is as it was; the streams, too. -/
structure Mods (F : Nat → Prop) (w w' : World) : Prop where
  os : w'.os = w.os
  tape : w'.tape = w.tape
  output : w'.output = w.output
  size : w.heap.size ≤ w'.heap.size
  block : ∀ k, k < w.heap.size → ¬ F k → w'.heap[k]? = w.heap[k]?
theorem Mods.refl (F : Nat → Prop) (w : World) : Mods F w w := ⟨rfl, rfl, rfl, Nat.le_refl _, fun _ _ _ => rfl⟩
theorem Mods.trans {F G : Nat → Prop} {a b c : World} (h : Mods F a b) (k : Mods G b c) (hG : ∀ i, i < a.heap.size → G i → F i) : Mods F a c :=
  ⟨k.os.trans h.os, k.tape.trans h.tape, k.output.trans h.output, Nat.le_trans h.size k.size, fun i hi hF => (k.block i (Nat.lt_of_lt_of_le hi h.size) (fun e => hF (hG i hi e))).trans (h.block i hi hF)⟩
theorem Mods.of_below {F : Nat → Prop} {w w' : World} (h : Below w.heap.size w w') : Mods F w w' := ⟨h.os, h.tape, h.output, h.size, fun k hk _ => h.block k hk⟩
theorem Mods.mono {F G : Nat → Prop} {w w' : World} (h : Mods F w w') (hG : ∀ k, k < w.heap.size → F k → G k) : Mods G w w' := ⟨h.os, h.tape, h.output, h.size, fun k hk e => h.block k hk (fun hf => e (hG k hk hf))⟩
theorem Mods.below {F : Nat → Prop} {w w' : World} {B : Nat} (h : Mods F w w') (hB : B ≤ w.heap.size) (hF : ∀ k, F k → B ≤ k) : Below B w w' := ⟨h.os, h.tape, h.output, h.size, fun k hk => h.block k (by omega) (fun e => by have := hF k e; omega)⟩
theorem Mods.then_below {F : Nat → Prop} {a b c : World} (h : Mods F a b) (k : Below b.heap.size b c) : Mods F a c := h.trans (Mods.of_below (F := fun _ => False) k) (fun _ _ e => e.elim)
theorem Mods.after_below {F : Nat → Prop} {a b c : World} (h : Below a.heap.size a b) (k : Mods F b c) : Mods F a c := (Mods.of_below h).trans k (fun _ _ e => e)
theorem Mods.set {F : Nat → Prop} {a b : World} (h : Mods F a b) {p : Addr} (hp : F p.block ∨ a.heap.size ≤ p.block) (v : Value) : Mods F a (b.setCell p v) :=
  h.trans (G := fun k => k = p.block) ⟨rfl, rfl, rfl, by simp [World.setCell], fun k _ e => Below.heap_setCell b p v k e⟩ (fun i hi e => by subst e; exact hp.elim id (fun e => absurd e (by omega)))
theorem Mods.setRow {F : Nat → Prop} {a b : World} (h : Mods F a b) {g : Nat} (hg : F g ∨ a.heap.size ≤ g) (cs : Array Value) : Mods F a (b.setRow g cs) :=
  h.trans (G := fun k => k = g) ⟨rfl, rfl, rfl, by simp [World.setRow], fun k _ e => setRow_other b g k cs e⟩ (fun i hi e => by subst e; exact hg.elim id (fun e => absurd e (by omega)))
theorem Mods.grown {F : Nat → Prop} {a b c : World} (h : Mods F a b) {row : Option Nat} (hg : b.grownBy c row) (hr : ∀ k, row = some k → F k ∨ a.heap.size ≤ k) : Mods F a c :=
  h.trans (G := fun k => row = some k) ⟨hg.os, hg.tape, hg.output, hg.size, fun k hk e => hg.block k hk (fun e' => e e'.symm)⟩ (fun i hi e => (hr i e).elim id (fun e => absurd e (by omega)))
theorem Mods.drew {F : Nat → Prop} {a b : World} (h : Mods F a b) : Mods F a b.drew := ⟨h.os, h.tape, h.output, h.size, h.block⟩
theorem Mods.drewN {F : Nat → Prop} {a b : World} (h : Mods F a b) (n : Nat) : Mods F a (b.drewN n) := ⟨h.os, h.tape, h.output, h.size, h.block⟩
theorem Mods.alloc {F : Nat → Prop} {a b : World} (h : Mods F a b) (o : Obj) : Mods F a (b.alloc o) := h.then_below (below_alloc (Below.refl _ _) o)
theorem append_run {P : Program} {o : Oper} {a : Act} {W w1 : World} {t : TypeId} {s x : Operand} {v u v' : Value} (ho : o.op = .call { callee := .builtin .append, args := #[s, x], argTypes := #[t, t] }) (hs : a.eval s = v) (hx : a.eval x = u) (hr : (Builtin.append_ #[t, t] o.type #[v, u]).run P W = .ok v' w1) : (execOp a.eval o).run P W = .ok (.value v') w1 := by
  unfold execOp
  simp only [ho, resolve, invoke, builtin, Sem.run_bind, Sem.run_pure, Result.andThen_ok, List.map_toArray, List.map_cons, List.map_nil, hs, hx, hr]
theorem below_cell {B : Nat} {w w1 : World} (h : Below B w w1) {p : Addr} (hp : B ≤ p.block) (v : Value) : Below B w (w1.setCell p v) :=
  ⟨h.os, h.tape, h.output, Nat.le_trans h.size (by simp [World.setCell]), fun k hk => (Below.heap_setCell w1 p v k (by omega)).trans (h.block k hk)⟩
theorem keepB {w W : World} {g : Nat} {o : Obj} (h : w.heap[g]? = some o) (hb : Below w.heap.size w W) : W.heap[g]? = some o := (hb.block g (blk_lt h)).trans h
/-- The store of a whole row, as a step of a region that draws. -/
theorem storeRow_ {P : Program} {ops : Array Oper} {oi : Oper} {a : Act} {w : World} {K : Act → World → Prop} {Q : Exit → Act → World → Prop} (hw : Region.wanted oi (yielded ops a.tmps) = true) (ty : TypeId) (x y : Operand) (ho : oi.op = .store ty x y) (hN : oi.dst = none)
    (g : Nat) (cells : Array Value) (hx : a.eval x = .pointer (some ⟨g, 0, none⟩)) (hy : a.eval y = .agg cells) (t : TypeId) (old : Array Value) (hg : w.heap[g]? = some (.cells old t (0, 0))) (hi : (P.info? ty).map (·.size) = some cells.size)
    (hold : old.size = cells.size) (h1 : cells.all (·.oneCell') = true) (h : K a (w.setRow g cells)) : if Region.wanted oi (yielded ops a.tmps) = true then Oper.wp P oi a w K Q else K (a.put none undef) w := by
  rw [if_pos hw]
  exact wp_store_row ty x y ho g cells hx hy t old hg hi hold h1 (by rw [hN]; exact h)
theorem wrapId {x : Int} (h0 : -4611686018427387904 ≤ x) (h1 : x ≤ 4611686018427387904) : wrap64 x = x := by unfold wrap64; omega
theorem alloc1 (w : World) (o : Obj) : ∃ w1, w1 = w.alloc o ∧ Below w.heap.size w w1 ∧ w1.heap[w.heap.size]? = some o ∧ w1.heap.size = w.heap.size + 1 := ⟨_, rfl, below_alloc (Below.refl _ _) o, blk_new w o, by simp⟩
theorem skipL_ {P : Program} {ops : Array Oper} {rest : List Oper} {o : Oper} {a : Act} {W w1 : World} {Q : Exit → Act → World → Prop} (hgd : o.guard = none) (hN : o.dst = none) (hrun : (execOp a.eval o).run P W = .ok .skip w1) (h : wpList P ops Q rest a w1) : wpList P ops Q (o :: rest) a W := by
  refine wpList_plain hgd fun K hK => ?_
  unfold Oper.wp
  rw [hrun]
  refine hK _ _ ?_
  rw [hN]
  exact h
theorem look_run {P : Program} {o : Oper} {a : Act} {W : World} {t : TypeId} {m x : Operand} {M X v : Value} (ho : o.op = .lookup t m x true) (hm : a.eval m = M) (hx : a.eval x = X) (hr : (Instr.lookup t M X true).run P W = .ok v W) : (execOp a.eval o).run P W = .ok (.value v) W := by
  unfold execOp
  simp only [ho, hm, hx, Sem.run_bind, hr, Result.andThen_ok, Sem.run_pure]
theorem update_run {P : Program} {o : Oper} {a : Act} {W W' : World} {t : TypeId} {m x y : Operand} {M X Y : Value} (ho : o.op = .mapUpdate t m x y) (hm : a.eval m = M) (hx : a.eval x = X) (hy : a.eval y = Y) (hr : (Instr.mapUpdate t M X Y).run P W = .ok () W') : (execOp a.eval o).run P W = .ok .skip W' := by
  unfold execOp
  simp only [ho, hm, hx, hy, Sem.run_bind, hr, Result.andThen_ok, Sem.run_pure]
theorem delete_run {P : Program} {o : Oper} {a : Act} {W w1 : World} {t k : TypeId} {s x : Operand} {v u v' : Value} (ho : o.op = .call { callee := .builtin .delete, args := #[s, x], argTypes := #[t, k] }) (hs : a.eval s = v) (hx : a.eval x = u) (hr : (Builtin.delete_ #[t, k] o.type #[v, u]).run P W = .ok v' w1) : (execOp a.eval o).run P W = .ok (.value v') w1 := by
  unfold execOp
  simp only [ho, resolve, invoke, builtin, Sem.run_bind, Sem.run_pure, Result.andThen_ok, List.map_toArray, List.map_cons, List.map_nil, hs, hx, hr]
theorem string_types {t : Nat} (ht : 9 ≠ t) : ∀ q, q ∈ (9 : Nat) :: Kd.string.E → q ≠ t := by
  intro q hq
  have : q = 9 := by simpa [Kd.string, Kd.scalar] using hq
  subst this
  exact ht
theorem mods_keep {w w' : World} {g b : Nat} {o : Obj} (h : w.heap[b]? = some o) (hm : Mods (fun k => k = g) w w') (hb : b ≠ g) : w'.heap[b]? = some o := (hm.block b (blk_lt h) hb).trans h
/-- A row is read, out of blocks of which ok holds. -/
def RW {α : Type} (d : Kd α) (W : World) (ok : Nat → Prop) (v : Value) (xs : List α) : Prop := ∃ A c, v = .slice A xs.length c ∧ xs.length ≤ c ∧ Kd.F d W ok A xs.length xs
section
variable {α : Type} {d : Kd α} {W W1 : World} {ok ok' : Nat → Prop} {v : Value} {xs : List α}
theorem RW.mono (h : RW d W ok v xs) (hk : ∀ k, ok k → ok' k) : RW d W ok' v xs := by
  obtain ⟨A, c, e, hc, hf⟩ := h
  exact ⟨A, c, e, hc, Kd.F_mono hf hk⟩
theorem RW.bound (h : RW d W ok v xs) : RW d W (fun k => ok k ∧ k < W.heap.size) v xs := by
  obtain ⟨A, c, e, hc, hf⟩ := h
  exact ⟨A, c, e, hc, Kd.F_bound hf⟩
theorem RW.step (h : RW d W ok v xs) (hm : ∀ k, ok k → k < W.heap.size → W1.heap[k]? = W.heap[k]?) : RW d W1 ok v xs := by
  obtain ⟨A, c, e, hc, hf⟩ := h
  exact ⟨A, c, e, hc, Kd.F_step hf hm⟩
theorem RW.below (h : RW d W ok v xs) (hb : Below W.heap.size W W1) : RW d W1 ok v xs := h.step (fun k _ hk => hb.block k hk)
theorem RW.of_R {e base : Nat} (h : d.R e W base ok v xs) : RW d W (fun k => base ≤ k) v xs := by
  have h2 := Kd.R_bound h
  obtain ⟨A, c, rfl, hc, _⟩ := Kd.R_reads h
  exact ⟨A, c, rfl, hc, Kd.F_mono (Kd.R_F h2) (fun k hk => hk.2.1)⟩
theorem RW.nil (d : Kd α) (W : World) (ok : Nat → Prop) : RW d W ok (.slice none 0 0) [] := ⟨none, 0, rfl, Nat.le_refl _, Kd.F_nil d W ok⟩
theorem R_setRow {e base : Nat} (h : d.R e W base ok v xs) {g t : Nat} {cells : Array Value} (hb : W.heap[g]? = some (.cells cells t (0, 0))) (ht : ∀ q, q ∈ e :: d.E → q ≠ t) (cs : Array Value) : d.R e (W.setRow g cs) base ok v xs := by
  have h2 : d.R e W base (fun k => ok k ∧ k ≠ g) v xs := Kd.R_mono (Kd.R_bound h) (fun k hk => ⟨hk.1, fun eg => by
    obtain ⟨_, _, _, q, hq, cells', hc⟩ := hk
    rw [eg, hb] at hc
    injection hc with hc
    injection hc with _ hc2 _
    exact ht q hq hc2.symm⟩)
  exact Kd.R_mono (Kd.R_step h2 (fun k hk _ => setRow_other W g k cs hk.2)) (fun k hk => hk.1)
end
/-- A row of a box's value: its slice, its length by another name. -/
theorem R_named {α : Type} {d : Kd α} {e base n : Nat} {w : World} {ok : Nat → Prop} {v : Value} {xs : List α} (h : d.R e w base ok v xs) (hn : xs.length = n) : ∃ A c, v = .slice A n c ∧ n ≤ c ∧ d.R e w base ok (.slice A n c) xs := by
  obtain ⟨A, c, rfl, hc, _⟩ := Kd.R_reads h
  subst hn
  exact ⟨A, c, rfl, hc, h⟩
theorem C_named {α : Type} {d : Kd α} {e base n c : Nat} {w : World} {ok : Nat → Prop} {A : Option Addr} {xs : List α} (h : d.R e w base ok (.slice A n c) xs) : xs.length ≤ c ∧ d.C w A xs.length xs := by
  obtain ⟨a, b, c⟩ := Kd.R_reads' h
  exact ⟨by omega, c⟩
theorem RW_C {α : Type} {d : Kd α} {W : World} {ok : Nat → Prop} {A : Option Addr} {n c : Nat} {xs : List α} (h : RW d W ok (.slice A n c) xs) : xs.length ≤ c ∧ d.C W A xs.length xs := by
  obtain ⟨A', c', e, hc, hF⟩ := h
  injection e with e1 e2 e3
  subst e1 e3
  exact ⟨hc, Kd.F_now hF⟩
end Go.Proofs.YtmcochnofkjhaaaDoor.QU
