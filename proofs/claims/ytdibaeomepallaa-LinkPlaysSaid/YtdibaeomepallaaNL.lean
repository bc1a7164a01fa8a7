import Derived.Test.YtdibaeomepallaaPAllx3
import Derived.Deep.MidRow
import Derived.StillTailTactics
import Derived.Deep.Upon
import Derived.Lib.SliceRun
import Derived.IntWalk
/- The net, by hand: Len, Cut, New, Count; rows of the array. -/
namespace Go.Proofs.Ytdibaeomepallaa.NW
open Go.RowKit Go.Proofs.YtdibaeomepallaaW.PrintWords Go.Proofs.YtdibaeomepallaaW.PrintLast Go.Proofs.YtdibaeomepallaaW.PrintMore Go.Proofs.Ytdibaeomepallaa.PAll
set_option linter.unusedVariables false
set_option linter.unusedSimpArgs false
theorem len_yes (g : Nat) (a b : Int) (w : World) (A : Option Addr) (n : Nat) (c : Nat) (ha : 1 ≤ a) (ha2 : a ≤ 15) (hb : 1 ≤ b) (hb2 : b ≤ 15) (hne : a ≠ b) (hc : w.cell? ⟨g, a.toNat * 16 + b.toNat, none⟩ = some (.slice A n c)) : 
    Calls Try.prog 28 #[.pointer (some ⟨g, 0, none⟩), .agg #[.int .i64 a, .int .i64 b]] w fun e w' => e = .returned (.int .i64 n) ∧ Below w.heap.size w w' := by
  have hu32 := Try.underlying32
  have hg := World.block_lt_of_cell? w _ hc
  have hn1 : (a != b) = true := bne_iff_ne.mpr hne
  have hn2 : (!a != b) = false := by rw [hn1]; rfl
  have d1 : decide (a ≤ 15) = true := decide_eq_true ha2
  have d2 : decide (b ≤ 15) = true := decide_eq_true hb2
  have d3 : decide (1 ≤ a) = true := decide_eq_true ha
  have d4 : decide (1 ≤ b) = true := decide_eq_true hb
  have hB := below_alloc (below_alloc (Below.refl w.heap.size w) (Obj.cells #[Value.int IntKind.i64 a, Value.int IntKind.i64 b] 32)) (Obj.cells #[Value.int IntKind.i64 a, Value.int IntKind.i64 b] 32)
  have hc' := (hB.cell hg).trans hc
  have hu117 := Try.underlying117
  have hu113 := Try.underlying113
  have hu112 := Try.underlying112
  go_enter Try.func28, Try.ntmps28
  go_wp2
  go_quiet (fail)
  go_wp2
  go_ret
  exact ⟨rfl, pw_below_drewN hB _⟩
theorem run_index_rows (w : World) (cs : Array Value) (a : Nat) (ha : a < 16) : (Instr.index 113 (.agg cs) (.int .i64 a)).run Try.prog w = .ok (.agg (cs.extract (a * 16) (a * 16 + 16))) w := by
  have hu113 := Try.underlying113
  have hu112 := Try.underlying112
  have hi : (Try.prog.info? 112).map (·.size) = some 16 := by kernel_rfl
  cases hq : Try.prog.info? 112 with
  | none => simp [hq] at hi
  | some i =>
    have hs : i.size = 16 := by simpa [hq] using hi
    have h2 : (0 : Int) ≤ a ∧ (a : Int) < 16 := by omega
    simp [Instr.index, Sem.run_bind, asIntOf, run_underlying hu113, h2.2, part, isAgg, run_underlying hu112, sizeOf, typeInfo, hq, hs]
    exact fun h => absurd h (by omega)
theorem run_index_row (w : World) (cs : Array Value) (a : Nat) (v : Value) (ha : a < 16) (hv : cs[a]? = some v) : (Instr.index 112 (.agg cs) (.int .i64 a)).run Try.prog w = .ok v w := by
  have hu112 := Try.underlying112
  have hu50 := Try.underlying50
  have hi : (Try.prog.info? 50).map (·.size) = some 1 := by kernel_rfl
  cases hq : Try.prog.info? 50 with
  | none => simp [hq] at hi
  | some i =>
    have hs : i.size = 1 := by simpa [hq] using hi
    have h2 : (0 : Int) ≤ a ∧ (a : Int) < 16 := by omega
    simp [Instr.index, Sem.run_bind, asIntOf, run_underlying hu112, h2.2, part, isAgg, run_underlying hu50, sizeOf, typeInfo, hq, hs, hv]
    exact fun h => absurd h (by omega)
section
variable {ops : Array Oper} {rest : List Oper} {o : Oper} {a : Act} {w : World} {Q : Exit → Act → World → Prop}
theorem wpList_index_rows (hg : o.guard = none) (x i : Operand) (ho : o.op = .index 113 x i) {cs : Array Value} {n : Nat} (hx : a.eval x = .agg cs) (hi : a.eval i = .int .i64 n) (hn : n < 16) (h : wpList Try.prog ops Q rest (a.put o.dst (.agg (cs.extract (n * 16) (n * 16 + 16)))) w) : wpList Try.prog ops Q (o :: rest) a w := by
  refine Kd.event_run hg ?_ h
  unfold execOp
  simp only [ho, hx, hi, Sem.run_bind, run_index_rows w cs n hn, Result.andThen_ok, Sem.run_pure]
theorem wpList_index_row (hg : o.guard = none) (x i : Operand) (ho : o.op = .index 112 x i) {cs : Array Value} {n : Nat} {v : Value} (hx : a.eval x = .agg cs) (hi : a.eval i = .int .i64 n) (hn : n < 16) (hv : cs[n]? = some v) (h : wpList Try.prog ops Q rest (a.put o.dst v) w) : wpList Try.prog ops Q (o :: rest) a w := by
  refine Kd.event_run hg ?_ h
  unfold execOp
  simp only [ho, hx, hi, Sem.run_bind, run_index_row w cs n v hn hv, Result.andThen_ok, Sem.run_pure]
end
theorem below_setRow {B : Nat} {w w1 : World} (h : Below B w w1) {g : Nat} (hg : B ≤ g) (cs : Array Value) : Below B w (w1.setRow g cs) := by
  refine ⟨h.os, h.tape, h.output, ?_, fun k hk => ?_⟩
  · exact Nat.le_trans h.size (by simp [World.setRow])
  · rw [setRow_other w1 g k cs (by omega)]; exact h.block k hk
def lenOf : Value → Nat
  | .slice _ n _ => n
  | _ => 0
/-- The packets of the first n rows. -/
def tot (vs : List Value) (n : Nat) : Nat := ((vs.take n).map lenOf).sum
theorem tot_succ (vs : List Value) (n : Nat) (h : n < vs.length) : tot vs (n + 1) = tot vs n + lenOf vs[n] := by
  unfold tot
  rw [List.take_succ_eq_append_getElem h, List.map_append, List.sum_append]
  simp
theorem tot_mono (vs : List Value) (n : Nat) : tot vs n ≤ tot vs vs.length := by
  unfold tot
  rw [List.take_length]
  conv => rhs; rw [← List.take_append_drop n vs, List.map_append, List.sum_append]
  omega
theorem info_rows : (Try.prog.info? 112).map (·.size) = some 16 := by kernel_rfl
theorem count_is (g : Nat) (w : World) (vs : List Value) (hl : vs.length = 256) (hr : w.rangeAt g 0 vs) (hv : ∀ v ∈ vs, ∃ A n c, v = .slice A n c) (ht : tot vs 256 ≤ 1000) :
    Calls Try.prog 21 #[.pointer (some ⟨g, 0, none⟩)] w fun e w' => e = .returned (.int .i64 (tot vs 256)) ∧ Below w.heap.size w w' := by
  have hu117 := Try.underlying117
  have hu113 := Try.underlying113
  have hu112 := Try.underlying112
  have hi113 : (Try.prog.info? 113).map (·.size) = some vs.length := by rw [hl]; kernel_rfl
  go_enter Try.func21, Try.ntmps21
  go_wp2_with (first | ((with_reducible refine gate_dst (N := 13) rfl ?_); refine wpList_load_mid rfl 113 (.tmp 12) rfl g 0 rfl vs _ hr hu113 rfl hi113 ?_))
  go_loopg [3, 14] 16 (fun kq v3 v14 w' => ∃ a : Nat, v14 = .int .i64 a ∧ v3 = .int .i64 (tot vs (a * 16)) ∧ Aside0 (a + kq = 16) ∧ Aside0 (Below w.heap.size w w'))
  case atStart => exact ⟨0, rfl, rfl, ⟨rfl⟩, ⟨Below.refl _ _⟩⟩
  case round =>
    obtain ⟨a, rfl, rfl, HK, HB⟩ := hrel
    cases gk with
    | zero => 
      have e : a = 16 := by have := HK.out; omega
      subst e
      go_wp2
      go_ret
      exact ⟨rfl, HB.out⟩
    | succ k1 =>
      have ha : a < 16 := by have := HK.out; omega
      have d1 : decide ((a : Int) < 16) = true := decide_eq_true (by omega)
      obtain ⟨rl, hrl⟩ : ∃ rl, rl = (vs.drop (a * 16)).take 16 := ⟨_, rfl⟩
      have hrl' : vs.toArray.extract (a * 16) (a * 16 + 16) = rl.toArray := by rw [hrl]; simp
      have hx : rl.toArray.size = 16 := by simp [hrl, hl]; omega
      have hj : ∀ j, j < 16 → rl[j]? = vs[a * 16 + j]? := by intro j hj; rw [hrl, List.getElem?_take, if_pos hj, List.getElem?_drop]
      have h1 : rl.toArray.all (·.oneCell') = true := by
        rw [List.all_toArray, List.all_eq_true]
        intro v hm
        rw [hrl] at hm
        obtain ⟨A, n, c, rfl⟩ := hv v (List.mem_of_mem_drop (List.mem_of_mem_take hm))
        rfl
      clear hrl
      go_wp2_with (first | ((with_reducible refine gate_dst (N := 16) rfl ?_); refine wpList_index_rows rfl (.tmp 13) (.tmp 14) rfl rfl rfl ha ?_; rw [hrl']) | ((with_reducible refine gate_dst (N := 5) rfl ?_); refine box_event ?hg (N := 5) ?hd (cs := Array.replicate 16 (.slice none 0 0)) (t := 112) ?hr ?_; (case hd => rfl); (case hg => rfl); (case hr => go_simp; rfl); intro g5 hg5 w5 hbox hb) | ((with_reducible refine gate_store (t := 112) (p := 5) rfl ?_); refine wpList_store_row rfl 112 (.tmp 5) (.tmp 16) rfl g5 _ rfl rfl 112 _ hbox (by rw [hx]; exact info_rows) (by rw [hx]; rfl) h1 ?_) | ((with_reducible refine gate_dst (N := 17) rfl ?_); refine wpList_load_row rfl 112 (.tmp 5) rfl g5 rfl 112 _ (0, 0) _ (setRow_heap _ _ _ _ _ _ hbox) hu112 rfl (by rw [hx]; exact info_rows) ?_))
      have HB5 := Aside0.mk (below_setRow (HB.out.trans (hb.mono HB.out.size)) (g := g5) (by rw [hg5]; exact HB.out.size) rl.toArray)
      clear HB
      have HB := HB5
      clear HB5
      go_loopg [3, 18] 16 (fun kq v3 v18 w' => ∃ b : Nat, v18 = .int .i64 b ∧ v3 = .int .i64 (tot vs (a * 16 + b)) ∧ Aside0 (b + kq = 16) ∧ Aside0 (Below w.heap.size w w'))
      case atStart => exact ⟨0, rfl, rfl, ⟨rfl⟩, ⟨by have h := HB.out; rw [hg5] at h; exact h⟩⟩
      case round =>
        obtain ⟨b, rfl, rfl, HKb, HB⟩ := hrel
        cases gk with
        | zero =>
          have e : b = 16 := by have := HKb.out; omega
          subst e
          go_wp2
          go_roundg k1
          case measure => omega
          case rel => exact ⟨a + 1, by first | rfl | simp, by rw [show (a + 1) * 16 = a * 16 + 16 from by omega], ⟨by have := HK.out; omega⟩, HB⟩
        | succ k2 =>
          have hb : b < 16 := by have := HKb.out; omega
          have d2 : decide ((b : Int) < 16) = true := decide_eq_true (by omega)
          have hbl : a * 16 + b < vs.length := by omega
          obtain ⟨A, n, c, hv2⟩ := hv _ (List.getElem_mem hbl)
          have hv3 : rl.toArray[b]? = some (.slice A n c) := by rw [List.getElem?_toArray, hj b hb, List.getElem?_eq_getElem hbl, hv2]
          have hts := tot_succ vs (a * 16 + b) hbl
          have htm := tot_mono vs (a * 16 + b + 1)
          rw [hl] at htm
          rw [hv2] at hts
          have hts2 : tot vs (a * 16 + b + 1) = tot vs (a * 16 + b) + n := hts
          go_wp2_with (first | ((with_reducible refine gate_dst (N := 20) rfl ?_); refine wpList_index_row rfl (.tmp 17) (.tmp 18) rfl rfl rfl hb hv3 ?_))
          go_roundg k2
          case measure => omega
          case rel => exact ⟨b + 1, by first | rfl | simp, by rw [← Nat.add_assoc, hts2, Int.natCast_add], ⟨by have := HKb.out; omega⟩, HB⟩
end Go.Proofs.Ytdibaeomepallaa.NW
/- What a state owns (a region F of blocks), and what an act may turn: Mods; the net's state in memory: NetAt, NetW. -/
namespace Go.Proofs.Ytdibaeomepallaa.NW
open Go.RowKit Go.Proofs.YtdibaeomepallaaW.PrintWords Go.Proofs.YtdibaeomepallaaW.PrintLast Go.Proofs.YtdibaeomepallaaW.PrintMore Go.Proofs.Ytdibaeomepallaa.PAll
set_option linter.unusedVariables false
set_option linter.unusedSimpArgs false
/-- Outside of the region F all is as it was; the streams, too. -/
structure Mods (F : Nat → Prop) (w w' : World) : Prop where
  os : w'.os = w.os
  tape : w'.tape = w.tape
  output : w'.output = w.output
  size : w.heap.size ≤ w'.heap.size
  block : ∀ k, k < w.heap.size → ¬ F k → w'.heap[k]? = w.heap[k]?
/-- The region, and what was made since. -/
def grow (F : Nat → Prop) (w w' : World) : Nat → Prop := fun k => F k ∨ (w.heap.size ≤ k ∧ k < w'.heap.size)
theorem Mods.refl (F : Nat → Prop) (w : World) : Mods F w w := ⟨rfl, rfl, rfl, Nat.le_refl _, fun _ _ _ => rfl⟩
theorem Mods.trans {F G : Nat → Prop} {a b c : World} (h : Mods F a b) (k : Mods G b c) (hG : ∀ i, i < a.heap.size → G i → F i) : Mods F a c :=
  ⟨k.os.trans h.os, k.tape.trans h.tape, k.output.trans h.output, Nat.le_trans h.size k.size, fun i hi hF => (k.block i (Nat.lt_of_lt_of_le hi h.size) (fun e => hF (hG i hi e))).trans (h.block i hi hF)⟩
theorem grow_old {F : Nat → Prop} {w w' : World} {i : Nat} (hi : i < w.heap.size) (h : grow F w w' i) : F i := h.elim id (fun e => absurd e.1 (by omega))
theorem Mods.step {F : Nat → Prop} {a b c : World} (h : Mods F a b) (k : Mods (grow F a b) b c) : Mods F a c := h.trans k (fun _ hi e => grow_old hi e)
theorem Mods.of_below {F : Nat → Prop} {w w' : World} (h : Below w.heap.size w w') : Mods F w w' := ⟨h.os, h.tape, h.output, h.size, fun k hk _ => h.block k hk⟩
theorem Mods.mono {F G : Nat → Prop} {w w' : World} (h : Mods F w w') (hG : ∀ k, k < w.heap.size → F k → G k) : Mods G w w' := ⟨h.os, h.tape, h.output, h.size, fun k hk e => h.block k hk (fun hf => e (hG k hk hf))⟩
theorem Mods.below {F : Nat → Prop} {w w' : World} {B : Nat} (h : Mods F w w') (hB : B ≤ w.heap.size) (hF : ∀ k, F k → B ≤ k) : Below B w w' := ⟨h.os, h.tape, h.output, h.size, fun k hk => h.block k (by omega) (fun e => by have := hF k e; omega)⟩
theorem Mods.then_below {F : Nat → Prop} {a b c : World} (h : Mods F a b) (k : Below b.heap.size b c) : Mods F a c := h.trans (Mods.of_below (F := fun _ => False) k) (fun _ _ e => e.elim)
theorem Mods.after_below {F : Nat → Prop} {a b c : World} (h : Below a.heap.size a b) (k : Mods F b c) : Mods F a c := (Mods.of_below h).trans k (fun _ _ e => e)
theorem Mods.set {F : Nat → Prop} {a b : World} (h : Mods F a b) {p : Addr} (hp : F p.block ∨ a.heap.size ≤ p.block) (v : Value) : Mods F a (b.setCell p v) :=
  h.trans (G := fun k => k = p.block) ⟨rfl, rfl, rfl, by simp [World.setCell], fun k _ e => Below.heap_setCell b p v k e⟩ (fun i hi e => by subst e; exact hp.elim id (fun e => absurd e (by omega)))
theorem Mods.setRow {F : Nat → Prop} {a b : World} (h : Mods F a b) {g : Nat} (hg : F g ∨ a.heap.size ≤ g) (cs : Array Value) : Mods F a (b.setRow g cs) :=
  h.trans (G := fun k => k = g) ⟨rfl, rfl, rfl, by simp [World.setRow], fun k _ e => setRow_other b g k cs e⟩ (fun i hi e => by subst e; exact hg.elim id (fun e => absurd e (by omega)))
theorem Mods.grown {F : Nat → Prop} {a b c : World} (h : Mods F a b) {row : Option Nat} (hg : b.grownBy c row) (hr : ∀ k, row = some k → F k ∨ a.heap.size ≤ k) : Mods F a c :=
  h.trans (G := fun k => row = some k) ⟨hg.os, hg.tape, hg.output, hg.size, fun k hk e => hg.block k hk (fun e' => e e'.symm)⟩ (fun i hi e => (hr i e).elim id (fun e => absurd e (by omega)))
theorem Mods.drew {F : Nat → Prop} {a b : World} (h : Mods F a b) : Mods F a b.drew := ⟨h.os, h.tape, h.output, h.size, h.block⟩
theorem Mods.drewN {F : Nat → Prop} {a b : World} (h : Mods F a b) (n : Nat) : Mods F a (b.drewN n) := ⟨h.os, h.tape, h.output, h.size, h.block⟩
theorem Mods.alloc {F : Nat → Prop} {a b : World} (h : Mods F a b) (o : Obj) : Mods F a (b.alloc o) := h.then_below (below_alloc (Below.refl _ _) o)
abbrev Pk := S28
def pk (p : Pk) : List Value := [.int .i64 p.f0, .int .i64 p.f1, .int .i64 p.f2, .int .i64 p.f3, .int .i64 p.f4, .int .i64 p.f5, .string p.f6]
def flat (xs : List Pk) : List Value := xs.flatMap pk
theorem flat_len (xs : List Pk) : (flat xs).length = xs.length * 7 := by
  induction xs with
  | nil => rfl
  | cons x r ih => unfold flat at *; rw [List.flatMap_cons, List.length_append, ih, List.length_cons]; simp [pk]; omega
theorem flat_append (xs ys : List Pk) : flat (xs ++ ys) = flat xs ++ flat ys := by unfold flat; simp
theorem flat_one (xs : List Pk) : ∀ u ∈ flat xs, u.oneCell' = true := by
  intro u hu
  unfold flat at hu
  obtain ⟨p, _, hp⟩ := List.mem_flatMap.1 hu
  simp only [pk, List.mem_cons, List.not_mem_nil, or_false] at hp
  rcases hp with rfl | rfl | rfl | rfl | rfl | rfl | rfl <;> rfl
/-- A hop's row: nil, or its cells in a block of its own, which is full or has room to the block's end. -/
def Row (w : World) (v : Value) (xs : List Pk) : Prop :=
  (xs = [] ∧ ∃ A, v = .slice A 0 0 ∧ ∀ a, A = some a → a.off = 0 ∧ ∃ cur, w.heap[a.block]? = some (.cells cur 28 (0, 0))) ∨
  ∃ g cap cur, v = .slice (some ⟨g, 0, none⟩) xs.length cap ∧ w.heap[g]? = some (.cells cur 28 (0, 0)) ∧ xs.length ≤ cap ∧ cap ≤ maxLen ∧ (cur.size = cap * 7 ∨ xs.length = cap) ∧ cur.toList.take (xs.length * 7) = flat xs
theorem row_of_own {w : World} {base : Nat} {v : Value} {xs : List Pk} (h : w.ownsRow base 28 7 v xs.length (flat xs)) : Row w v xs := by
  obtain ⟨_, ⟨rfl, h0⟩ | ⟨g, cap, cur, h1, h2, h3, h4, h5, h6, h7⟩⟩ := h
  · exact .inl ⟨List.eq_nil_of_length_eq_zero h0, none, rfl, fun a ha => by cases ha⟩
  · exact .inr ⟨g, cap, cur, h1, h3, h4, h5, .inl h6, h7⟩
theorem row_cells {w : World} {g n : Nat} {cur : Array Value} {xs : List Pk} (hh : w.heap[g]? = some (.cells cur 28 (0, 0))) (ht : cur.toList.take (xs.length * 7) = flat xs) : ∀ j u, (flat xs)[j]? = some u → w.cell? ((⟨g, 0, none⟩ : Addr).add j) = some u := by
  intro j u hu
  rw [← ht, List.getElem?_take] at hu
  split at hu
  · rw [Addr.add_mid, Nat.zero_add]
    unfold World.cell?
    simp only [hh]
    simpa using hu
  · cases hu
theorem info28 : (Try.prog.info? 28).map (fun i => (i.zero, i.size, i.bytes)) = some (some (.agg #[.int .i64 0, .int .i64 0, .int .i64 0, .int .i64 0, .int .i64 0, .int .i64 0, .string ⟨#[]⟩]), 7, 64) := by kernel_rfl
theorem row_lt {w : World} {v : Value} {xs : List Pk} (h : Row w v xs) : ∀ k, v.ownBlock = some k → k < w.heap.size ∧ ∃ cur, w.heap[k]? = some (.cells cur 28 (0, 0)) := by
  intro k hk
  rcases h with ⟨rfl, A, rfl, hA⟩ | ⟨g, cap, cur, rfl, hh, h2, h3, h4, h5⟩
  · cases A with
    | none => cases hk
    | some a =>
      obtain ⟨_, cur, hh⟩ := hA a rfl
      have e : a.block = k := by simpa [Value.ownBlock] using hk
      subst e
      exact ⟨(Array.getElem?_eq_some_iff.1 hh).1, cur, hh⟩
  · have e : g = k := by simpa [Value.ownBlock] using hk
    subst e
    exact ⟨(Array.getElem?_eq_some_iff.1 hh).1, cur, hh⟩
/-- A packet is appended. 'F': where the row may lie. -/
theorem row_append {w : World} {v : Value} {xs : List Pk} (p : Pk) (HR : Row w v xs) (hlen : xs.length ≤ 1000) (ty : TypeId) (a : Addr) (c : Nat) (hn : ∀ j u, (pk p)[j]? = some u → w.cell? (a.add j) = some u) :
    ∃ v' w', (Builtin.append_ #[50, 50] ty #[v, .slice (some a) 1 c]).run Try.prog w = .ok v' w' ∧ Row w' v' (xs ++ [p]) ∧ w.grownBy w' v.ownBlock ∧ (v'.ownBlock = v.ownBlock ∨ ∃ b, v'.ownBlock = some b ∧ w.heap.size ≤ b) := by
  obtain ⟨i, hi, he⟩ := Option.map_eq_some_iff.1 info28
  have hz : i.zero = some _ := congrArg (·.1) he
  have hsz : i.size = 7 := congrArg (·.2.1) he
  have hby : i.bytes = 64 := congrArg (·.2.2) he
  have ht := Try.underlying50
  have hfp : flat (xs ++ [p]) = flat xs ++ pk p := by rw [flat_append]; simp [flat]
  have hl1 : (xs ++ [p]).length = xs.length + 1 := by simp
  have h1 : ∀ u ∈ pk p, u.oneCell' = true := fun u hu => flat_one [p] u (by simpa [flat] using hu)
  have hmax : xs.length + 1 ≤ maxLen := by unfold maxLen; omega
  have own : w.ownsRow 0 28 7 v xs.length (flat xs) → ∃ v' w', (Builtin.append_ #[50, 50] ty #[v, .slice (some a) 1 c]).run Try.prog w = .ok v' w' ∧ Row w' v' (xs ++ [p]) ∧ w.grownBy w' v.ownBlock ∧ (v'.ownBlock = v.ownBlock ∨ ∃ b, v'.ownBlock = some b ∧ w.heap.size ≤ b) := by
    intro ho
    obtain ⟨v', w', hr, ho', hg, _, hat⟩ := run_append_own_at (P := Try.prog) w 0 50 ty 28 i _ 7 64 ht hi hz hsz hby rfl (by omega) v xs.length (flat xs) ho a 1 c (pk p) rfl hn h1 hmax (by omega) (Nat.zero_le _)
    refine ⟨v', w', hr, row_of_own (by rw [hl1, hfp]; exact ho'), hg, ?_⟩
    rcases hat with hat | hat
    · exact .inl hat
    · exact .inr ⟨_, hat, Nat.le_refl _⟩
  have grow : ∀ (b : Addr) (cap : Nat), v = .slice (some b) xs.length cap → cap ≤ xs.length → (∀ j u, (flat xs)[j]? = some u → w.cell? (b.add j) = some u) → ∃ v' w', (Builtin.append_ #[50, 50] ty #[v, .slice (some a) 1 c]).run Try.prog w = .ok v' w' ∧ Row w' v' (xs ++ [p]) ∧ w.grownBy w' v.ownBlock ∧ (v'.ownBlock = v.ownBlock ∨ ∃ b, v'.ownBlock = some b ∧ w.heap.size ≤ b) := by
    intro b cap hv hcap hold
    obtain ⟨v', w', hr, ho, hg⟩ := run_append_arg_grows (P := Try.prog) (w := w) 50 ty 28 i _ 7 64 ht hi hz hsz hby rfl (by omega) b xs.length cap (flat xs) (flat_len xs) hold a 1 c (pk p) rfl hn (by omega) hmax (by omega)
    refine ⟨v', w', by rw [hv]; exact hr, row_of_own (by rw [hl1, hfp]; exact own_weaken ho (Nat.zero_le _)), ⟨hg.os, hg.tape, hg.output, hg.size, fun k hk _ => hg.block k hk (by simp)⟩, ?_⟩
    obtain ⟨g', cap', he, hb, _⟩ := ho.form (by omega)
    exact .inr ⟨g', by rw [he]; simp [Value.ownBlock], hb⟩
  rcases HR with ⟨rfl, A, rfl, hA⟩ | ⟨g, cap, cur, rfl, hh, h2, h3, h4, h5⟩
  · cases A with
    | none => exact own (World.ownsRow_nil w 0 28 7)
    | some b => exact grow b 0 rfl (Nat.le_refl _) (fun j u hu => by simp [flat] at hu)
  · rcases h4 with h4 | h4
    · exact own ⟨flat_len xs, .inr ⟨g, cap, cur, rfl, Nat.zero_le _, hh, h2, h3, h4, h5⟩⟩
    · exact grow _ cap rfl (by omega) (row_cells hh h5 (n := 0))
/-- The net in a block: its 256 rows' values, and its bools. -/
structure NetAt (w : World) (g : Nat) (vs : List Value) (q : List (List Pk)) (ap : List Bool) : Prop where
  blk : w.heap[g]? = some (.cells (vs ++ ap.map Value.bool).toArray 117 (0, 0))
  lv : vs.length = 256
  la : ap.length = 256
  lq : q.length = 256
  row : ∀ (i : Nat) (v : Value) (xs : List Pk), vs[i]? = some v → q[i]? = some xs → Row w v xs
  apart : ∀ (i j : Nat) (u v : Value), i ≠ j → vs[i]? = some u → vs[j]? = some v → ∀ k, u.ownBlock = some k → v.ownBlock ≠ some k
/-- The net's blocks lie in F. -/
def NetIn (F : Nat → Prop) (g : Nat) (vs : List Value) : Prop := F g ∧ ∀ (i : Nat) (v : Value), vs[i]? = some v → ∀ k, v.ownBlock = some k → F k
/-- A net, with all its blocks in F. -/
def NetW (w : World) (F : Nat → Prop) (g : Nat) (q : List (List Pk)) (ap : List Bool) : Prop := ∃ vs, NetAt w g vs q ap ∧ NetIn F g vs
theorem row_other {w w1 : World} {v : Value} {xs : List Pk} (h : Row w v xs) (hk : ∀ k, v.ownBlock = some k → w1.heap[k]? = w.heap[k]?) : Row w1 v xs := by
  rcases h with ⟨rfl, A, rfl, hA⟩ | ⟨g, cap, cur, rfl, hh, h2⟩
  · refine .inl ⟨rfl, A, rfl, fun a ha => ?_⟩
    obtain ⟨x1, cur, x3⟩ := hA a ha
    subst ha
    exact ⟨x1, cur, (hk a.block rfl).trans x3⟩
  · exact .inr ⟨g, cap, cur, rfl, (hk g rfl).trans hh, h2⟩
theorem row_below {w w1 : World} {v : Value} {xs : List Pk} (h : Row w v xs) (hb : Below w.heap.size w w1) : Row w1 v xs := row_other h (fun k hk => hb.block k (row_lt h k hk).1)
theorem NetAt.glt {w : World} {g : Nat} {vs : List Value} {q : List (List Pk)} {ap : List Bool} (h : NetAt w g vs q ap) : g < w.heap.size := (Array.getElem?_eq_some_iff.1 h.blk).1
theorem NetAt.below {w w1 : World} {g : Nat} {vs : List Value} {q : List (List Pk)} {ap : List Bool} (h : NetAt w g vs q ap) (hb : Below w.heap.size w w1) : NetAt w1 g vs q ap :=
  ⟨(hb.block _ h.glt).trans h.blk, h.lv, h.la, h.lq, fun i v xs a b => row_below (h.row i v xs a b) hb, h.apart⟩
theorem NetW.below {w w1 : World} {F : Nat → Prop} {g : Nat} {q : List (List Pk)} {ap : List Bool} (h : NetW w F g q ap) (hb : Below w.heap.size w w1) : NetW w1 F g q ap := by
  obtain ⟨vs, h1, h2⟩ := h
  exact ⟨vs, h1.below hb, h2⟩
theorem NetW.mono {w : World} {F G : Nat → Prop} {g : Nat} {q : List (List Pk)} {ap : List Bool} (h : NetW w F g q ap) (hG : ∀ k, k < w.heap.size → F k → G k) : NetW w G g q ap := by
  obtain ⟨vs, h1, h2⟩ := h
  refine ⟨vs, h1, hG _ h1.glt h2.1, fun i v hv k hk => ?_⟩
  obtain ⟨xs, hq⟩ : ∃ xs, q[i]? = some xs := ⟨_, List.getElem?_eq_getElem (by rw [h1.lq, ← h1.lv]; exact (List.getElem?_eq_some_iff.1 hv).1)⟩
  exact hG k (row_lt (h1.row i v xs hv hq) k hk).1 (h2.2 i v hv k hk)
/-- Other blocks have turned. -/
theorem NetW.mods {w w1 : World} {F G : Nat → Prop} {g : Nat} {q : List (List Pk)} {ap : List Bool} (h : NetW w F g q ap) (hm : Mods G w w1) (hd : ∀ k, k < w.heap.size → F k → ¬ G k) : NetW w1 F g q ap := by
  obtain ⟨vs, h1, h2⟩ := h
  refine ⟨vs, ⟨(hm.block _ h1.glt (hd _ h1.glt h2.1)).trans h1.blk, h1.lv, h1.la, h1.lq, fun i v xs hv hq => ?_, h1.apart⟩, h2⟩
  have hr := h1.row i v xs hv hq
  exact row_other hr (fun k hk => hm.block k (row_lt hr k hk).1 (hd k (row_lt hr k hk).1 (h2.2 i v hv k hk)))
theorem NetAt.cell {w : World} {g : Nat} {vs : List Value} {q : List (List Pk)} {ap : List Bool} (h : NetAt w g vs q ap) {i : Nat} {v : Value} (hi : vs[i]? = some v) : w.cell? ⟨g, i, none⟩ = some v := by
  unfold World.cell?
  simp only [h.blk]
  have := (List.getElem?_eq_some_iff.1 hi).1
  simp [List.getElem?_append_left this, hi]
theorem NetAt.slice {w : World} {g : Nat} {vs : List Value} {q : List (List Pk)} {ap : List Bool} (h : NetAt w g vs q ap) {i : Nat} {v : Value} {xs : List Pk} (hi : vs[i]? = some v) (hq : q[i]? = some xs) : ∃ A c, v = .slice A xs.length c := by
  rcases h.row i v xs hi hq with ⟨rfl, A, rfl, _⟩ | ⟨g, cap, cur, rfl, _⟩
  · exact ⟨A, 0, rfl⟩
  · exact ⟨_, _, rfl⟩
theorem NetAt.range {w : World} {g : Nat} {vs : List Value} {q : List (List Pk)} {ap : List Bool} (h : NetAt w g vs q ap) : w.rangeAt g 0 vs := by
  intro j v hj
  rw [Nat.zero_add]
  exact h.cell hj
/-- How many packets a net has. -/
def cnt (q : List (List Pk)) : Nat := (q.map List.length).sum
theorem NetAt.tot {w : World} {g : Nat} {vs : List Value} {q : List (List Pk)} {ap : List Bool} (h : NetAt w g vs q ap) : tot vs 256 = cnt q := by
  unfold NW.tot cnt
  rw [List.take_of_length_le (by rw [h.lv]; omega)]
  congr 1
  apply List.ext_getElem?
  intro i
  simp only [List.getElem?_map]
  by_cases hi : i < 256
  · have hv := List.getElem?_eq_getElem (l := vs) (i := i) (by rw [h.lv]; exact hi)
    have hq := List.getElem?_eq_getElem (l := q) (i := i) (by rw [h.lq]; exact hi)
    obtain ⟨A, c, e⟩ := h.slice hv hq
    rw [hv, hq, e]
    rfl
  · rw [List.getElem?_eq_none (by rw [h.lv]; omega), List.getElem?_eq_none (by rw [h.lq]; omega)]
    rfl
theorem count_net {w : World} {F : Nat → Prop} {g : Nat} {q : List (List Pk)} {ap : List Bool} (h : NetW w F g q ap) (hc : cnt q ≤ 1000) : Calls Try.prog 21 #[.pointer (some ⟨g, 0, none⟩)] w fun e w' => e = .returned (.int .i64 (cnt q)) ∧ Below w.heap.size w w' := by
  obtain ⟨vs, h, _⟩ := h
  have ht := h.tot
  rw [← ht] at hc ⊢
  refine count_is g w vs h.lv h.range (fun v hv => ?_) hc
  obtain ⟨i, hi⟩ := List.getElem?_of_mem hv
  have hq := List.getElem?_eq_getElem (l := q) (i := i) (by rw [h.lq, ← h.lv]; exact (List.getElem?_eq_some_iff.1 hi).1)
  obtain ⟨A, c, e⟩ := h.slice hi hq
  exact ⟨A, _, c, e⟩
def pkV (p : Pk) : Value := .agg (pk p).toArray
theorem NetAt.row_ne {w : World} {g : Nat} {vs : List Value} {q : List (List Pk)} {ap : List Bool} (h : NetAt w g vs q ap) {i : Nat} {v : Value} (hv : vs[i]? = some v) : v.ownBlock ≠ some g := by
  intro e
  obtain ⟨hi, _⟩ := List.getElem?_eq_some_iff.1 hv
  obtain ⟨xs, hq⟩ : ∃ xs, q[i]? = some xs := ⟨_, List.getElem?_eq_getElem (by rw [h.lq, ← h.lv]; exact hi)⟩
  obtain ⟨_, cur, hh⟩ := row_lt (h.row i v xs hv hq) g e
  rw [h.blk] at hh
  injection hh with hh
  injection hh with _ hh
  cases hh
/-- A row has been turned (its own block, or a new one), and its value is stored in its place. -/
theorem NetAt.put {w w1 : World} {g : Nat} {vs : List Value} {q : List (List Pk)} {ap : List Bool} (h : NetAt w g vs q ap) {i : Nat} {v v' : Value} {xs : List Pk} (hv : vs[i]? = some v) (hg : w.grownBy w1 v.ownBlock) (HR : Row w1 v' xs) (hat : v'.ownBlock = none ∨ v'.ownBlock = v.ownBlock ∨ ∃ b, v'.ownBlock = some b ∧ w.heap.size ≤ b) : NetAt (w1.setCell ⟨g, i, none⟩ v') g (vs.set i v') (q.set i xs) ap := by
  have hi := (List.getElem?_eq_some_iff.1 hv).1
  have hgl := h.glt
  have hblk1 : w1.heap[g]? = some (.cells (vs ++ ap.map Value.bool).toArray 117 (0, 0)) := (hg.block g hgl (fun e => h.row_ne hv e.symm)).trans h.blk
  have hne' : v'.ownBlock ≠ some g := by
    intro e
    obtain ⟨_, cur, hh⟩ := row_lt HR g e
    rw [hblk1] at hh
    injection hh with hh
    injection hh with _ hh
    cases hh
  refine ⟨?_, by simp [h.lv], h.la, by simp [h.lq], ?_, ?_⟩
  · rw [blk_set hblk1 i v']
    congr 2
    simp [List.set_append_left _ _ hi]
  · intro j u ys hu hys
    by_cases hij : i = j
    · subst hij
      rw [List.getElem?_set_self hi] at hu
      rw [List.getElem?_set_self (by rw [h.lq, ← h.lv]; exact hi)] at hys
      injection hu with hu
      injection hys with hys
      subst hu
      subst hys
      exact row_other HR (fun k hk => Below.heap_setCell w1 ⟨g, i, none⟩ v' k (fun e => hne' (by rw [hk, e])))
    · rw [List.getElem?_set_ne hij] at hu hys
      have hr := h.row j u ys hu hys
      refine row_other hr (fun k hk => ?_)
      obtain ⟨hkl, _⟩ := row_lt hr k hk
      rw [Below.heap_setCell w1 ⟨g, i, none⟩ v' k (fun e => h.row_ne hu (by rw [hk, e]))]
      exact hg.block k hkl (fun e => h.apart j i u v (fun e => hij e.symm) hu hv k hk e.symm)
  · intro a b u u' hab hu hu' k hk
    have key : ∀ (j : Nat) (y : Value), j ≠ i → vs[j]? = some y → ∀ m, y.ownBlock = some m → v'.ownBlock ≠ some m := by
      intro j y hj hy m hm e
      rcases hat with hat | hat | ⟨b, hat, hb⟩
      · rw [hat] at e; cases e
      · rw [hat] at e; exact h.apart j i y v hj hy hv m hm e
      · rw [hat] at e
        injection e with e
        obtain ⟨ys, hq⟩ : ∃ ys, q[j]? = some ys := ⟨_, List.getElem?_eq_getElem (by rw [h.lq, ← h.lv]; exact (List.getElem?_eq_some_iff.1 hy).1)⟩
        have := (row_lt (h.row j y ys hy hq) m hm).1
        omega
    by_cases ha : i = a
    · subst ha
      rw [List.getElem?_set_self hi] at hu
      rw [List.getElem?_set_ne hab] at hu'
      injection hu with hu
      subst hu
      intro e
      exact key b u' (fun e => hab e.symm) hu' k e hk
    · by_cases hb : i = b
      · subst hb
        rw [List.getElem?_set_self hi] at hu'
        rw [List.getElem?_set_ne ha] at hu
        injection hu' with hu'
        subst hu'
        exact key a u (fun e => ha e.symm) hu k hk
      · rw [List.getElem?_set_ne ha] at hu
        rw [List.getElem?_set_ne hb] at hu'
        exact h.apart a b u u' hab hu hu' k hk
theorem NetIn.put {F F' : Nat → Prop} {g : Nat} {vs : List Value} {i : Nat} {v' : Value} (h : NetIn F g vs) (hF : ∀ k, F k → F' k) (hv : ∀ k, v'.ownBlock = some k → F' k) : NetIn F' g (vs.set i v') := by
  refine ⟨hF _ h.1, fun j u hu k hk => ?_⟩
  by_cases hij : i = j
  · subst hij
    by_cases hl : i < vs.length
    · rw [List.getElem?_set_self hl] at hu
      injection hu with hu
      subst hu
      exact hv k hk
    · rw [List.getElem?_eq_none (by simpa using Nat.le_of_not_lt hl)] at hu
      cases hu
  · rw [List.getElem?_set_ne hij] at hu
    exact hF _ (h.2 j u hu k hk)
end Go.Proofs.Ytdibaeomepallaa.NW
/- The net, by hand: Send. -/
namespace Go.Proofs.Ytdibaeomepallaa.NW
open Go.RowKit Go.Proofs.YtdibaeomepallaaW.PrintWords Go.Proofs.YtdibaeomepallaaW.PrintLast Go.Proofs.YtdibaeomepallaaW.PrintMore Go.Proofs.Ytdibaeomepallaa.PAll
set_option linter.unusedVariables false
set_option linter.unusedSimpArgs false
theorem append_run {P : Program} {o : Oper} {a : Act} {W w1 : World} {t : TypeId} {s x : Operand} {v u v' : Value} (ho : o.op = .call { callee := .builtin .append, args := #[s, x], argTypes := #[t, t] }) (hs : a.eval s = v) (hx : a.eval x = u) (hr : (Builtin.append_ #[t, t] o.type #[v, u]).run P W = .ok v' w1) : (execOp a.eval o).run P W = .ok (.value v') w1 := by
  unfold execOp
  simp only [ho, resolve, invoke, builtin, Sem.run_bind, Sem.run_pure, Result.andThen_ok, List.map_toArray, List.map_cons, List.map_nil, hs, hx, hr]
theorem below_cell {B : Nat} {w w1 : World} (h : Below B w w1) {p : Addr} (hp : B ≤ p.block) (v : Value) : Below B w (w1.setCell p v) :=
  ⟨h.os, h.tape, h.output, Nat.le_trans h.size (by simp [World.setCell]), fun k hk => (Below.heap_setCell w1 p v k (by omega)).trans (h.block k hk)⟩
theorem in_true {a b c : Int} (h : wire_in.f a b c = some true) : b ≤ a ∧ a ≤ c := by
  unfold wire_in.f at h
  split at h
  · injection h with h
    exact ⟨by omega, of_decide_eq_true h⟩
  · injection h with h
    cases h
theorem bind_true {x : Option Bool} {y : Option Bool} (h : (x.bind fun t => if t = true then y else some false) = some true) : x = some true ∧ y = some true := by
  cases x with
  | none => cases h
  | some t => cases t with
    | false => cases h
    | true => exact ⟨rfl, h⟩
theorem check_parts {a b c d e f : Int} {s : ByteArray} (h : wire_CheckPacket.f a b c d e f s = some true) : (1 ≤ a ∧ a ≤ 15) ∧ (1 ≤ b ∧ b ≤ 15) ∧ a ≠ b := by
  unfold wire_CheckPacket.f at h
  obtain ⟨h1, h⟩ := bind_true h
  obtain ⟨h2, h⟩ := bind_true h
  refine ⟨in_true h1, in_true h2, fun e => ?_⟩
  rw [if_pos e] at h
  cases h
theorem cnt_row {q : List (List Pk)} {i : Nat} {row : List Pk} (h : q[i]? = some row) : row.length ≤ cnt q := by
  unfold cnt
  have hm := List.mem_of_getElem? h
  clear h
  induction q with
  | nil => cases hm
  | cons x r ih =>
    rw [List.map_cons, List.sum_cons]
    rcases List.mem_cons.1 hm with rfl | hm
    · omega
    · have := ih hm; omega
theorem row_form {w : World} {v : Value} {xs : List Pk} (h : Row w v xs) : ∃ A c, v = .slice A xs.length c := by
  rcases h with ⟨rfl, A, rfl, _⟩ | ⟨g, cap, cur, rfl, _⟩
  · exact ⟨A, 0, rfl⟩
  · exact ⟨_, _, rfl⟩
theorem info28s : (Try.prog.info? 28).map (·.size) = some 7 := by kernel_rfl
theorem send_full {w : World} {F : Nat → Prop} {g : Nat} {q : List (List Pk)} {ap : List Bool} (p : Pk) (h : NetW w F g q ap) (hc : cnt q ≤ 1000) (hf : 400 ≤ cnt q) (hck : wire_CheckPacket.f p.f0 p.f1 p.f2 p.f3 p.f4 p.f5 p.f6 = some true) :
    Calls Try.prog 17 #[.pointer (some ⟨g, 0, none⟩), pkV p] w fun e w' => e = .returned (.int .i64 6) ∧ Below w.heap.size w w' := by
  have hu28 := Try.underlying28
  obtain ⟨vs, h, hin⟩ := h
  have d1 : decide ((400 : Int) ≤ (cnt q : Int)) = true := decide_eq_true (by omega)
  unfold pkV
  go_enter Try.func17, Try.ntmps17
  go_wp2_with (first | ((with_reducible refine gate_dst (N := 3) rfl ?_); refine box_event ?hg (N := 3) ?hd (cs := (pk p).toArray) (t := 28) ?hr ?_; (case hd => rfl); (case hg => rfl); (case hr => first | (go_simp; done) | (go_simp; rfl)); intro g3 hg3 w3 hbox hb; have HG3 := Aside0.mk hg3; clear hg3) | ((with_reducible refine gate_dst (N := 10) rfl ?_); refine gate_guard (by rfl) ?_; dsimp only; refine wpList_load_row rfl 28 (.tmp 3) rfl g3 rfl 28 _ (0, 0) _ hbox hu28 rfl info28s ?_) | ((with_reducible refine gate_callee (f := 59) rfl ?_); refine gate_guard (by rfl) ?_; dsimp only; refine goesL_ (some 11) rfl rfl Try.func59 (by kernel_rfl) rfl #[.agg (pk p).toArray] rfl (by (try simp only [List.map_toArray, List.map_cons, List.map_nil]); rfl) ?_; refine (wire_CheckPacket.calls _ _ _ _ _ _ _ true _ hck).mono ?_; rintro e w11 ⟨rfl, hb11⟩; refine ⟨_, rfl, ?_⟩) | ((with_reducible refine gate_callee (f := 21) rfl ?_); refine goesL_ (some 16) rfl rfl Try.func21 (by kernel_rfl) rfl #[.pointer (some ⟨g, 0, none⟩)] rfl (by (try simp only [List.map_toArray, List.map_cons, List.map_nil]); rfl) ?_; refine (count_net (w := w11) (F := F) (q := q) (ap := ap) ⟨vs, (h.below hb).below hb11, hin⟩ hc).mono ?_; rintro e w16 ⟨rfl, hb16⟩; refine ⟨_, rfl, ?_⟩))
  go_ret
  exact ⟨rfl, ((hb.trans (hb11.mono hb.size)).trans (hb16.mono (Nat.le_trans hb.size hb11.size)))⟩
set_option maxRecDepth 100000 in
theorem send_ok {w : World} {F : Nat → Prop} {g : Nat} {q : List (List Pk)} {ap : List Bool} (p : Pk) (h : NetW w F g q ap) (hc : cnt q ≤ 1000) (hf : cnt q < 400) {row : List Pk} (hrow : q[p.f0.toNat * 16 + p.f1.toNat]? = some row) (hck : wire_CheckPacket.f p.f0 p.f1 p.f2 p.f3 p.f4 p.f5 p.f6 = some true) :
    Calls Try.prog 17 #[.pointer (some ⟨g, 0, none⟩), pkV p] w fun e w' => e = .returned (.int .i64 0) ∧ NetW w' (grow F w w') g (q.set (p.f0.toNat * 16 + p.f1.toNat) (row ++ [p])) ap ∧ Mods F w w' := by
  have hu28 := Try.underlying28
  obtain ⟨vs, h, hin⟩ := h
  have d1 : decide ((400 : Int) ≤ (cnt q : Int)) = false := decide_eq_false (by omega)
  unfold pkV
  go_enter Try.func17, Try.ntmps17
  go_wp2_with (first | ((with_reducible refine gate_dst (N := 3) rfl ?_); refine box_event ?hg (N := 3) ?hd (cs := (pk p).toArray) (t := 28) ?hr ?_; (case hd => rfl); (case hg => rfl); (case hr => first | (go_simp; done) | (go_simp; rfl)); intro g3 hg3 w3 hbox hb; have HG3 := Aside0.mk hg3; clear hg3) | ((with_reducible refine gate_dst (N := 10) rfl ?_); refine gate_guard (by rfl) ?_; dsimp only; refine wpList_load_row rfl 28 (.tmp 3) rfl g3 rfl 28 _ (0, 0) _ hbox hu28 rfl info28s ?_) | ((with_reducible refine gate_callee (f := 59) rfl ?_); refine gate_guard (by rfl) ?_; dsimp only; refine goesL_ (some 11) rfl rfl Try.func59 (by kernel_rfl) rfl #[.agg (pk p).toArray] rfl (by (try simp only [List.map_toArray, List.map_cons, List.map_nil]); rfl) ?_; refine (wire_CheckPacket.calls _ _ _ _ _ _ _ true _ hck).mono ?_; rintro e w11 ⟨rfl, hb11⟩; refine ⟨_, rfl, ?_⟩) | ((with_reducible refine gate_callee (f := 21) rfl ?_); refine goesL_ (some 16) rfl rfl Try.func21 (by kernel_rfl) rfl #[.pointer (some ⟨g, 0, none⟩)] rfl (by (try simp only [List.map_toArray, List.map_cons, List.map_nil]); rfl) ?_; refine (count_net (w := w11) (F := F) (q := q) (ap := ap) ⟨vs, (h.below hb).below hb11, hin⟩ hc).mono ?_; rintro e w16 ⟨rfl, hb16⟩; refine ⟨_, rfl, ?_⟩))
  have hu117 := Try.underlying117
  have hu113 := Try.underlying113
  have hu112 := Try.underlying112
  have hB := (hb11.trans (hb16.mono hb11.size))
  have h3lt := (Array.getElem?_eq_some_iff.1 hbox).1
  have hbox16 := (hB.block g3 h3lt).trans hbox
  have c0 : w16.cell? ⟨g3, 0, none⟩ = some (.int .i64 p.f0) := (blk_cell hbox16 0).trans rfl
  have c1 : w16.cell? ⟨g3, 1, none⟩ = some (.int .i64 p.f1) := (blk_cell hbox16 1).trans rfl
  obtain ⟨hfr, hto, _⟩ := check_parts hck
  obtain ⟨hfr1, hfr2⟩ := hfr
  obtain ⟨hto1, hto2⟩ := hto
  have hidx : p.f0.toNat * 16 + p.f1.toNat < 256 := by omega
  obtain ⟨v, hv⟩ : ∃ v, vs[p.f0.toNat * 16 + p.f1.toNat]? = some v := ⟨_, List.getElem?_eq_getElem (by rw [h.lv]; exact hidx)⟩
  obtain ⟨A, c, rfl⟩ := h.slice hv hrow
  go_quiet (fail)
  go_wp2
  have hBa : Below w.heap.size w (w16.drewN nq) := pw_below_drewN ((hb.trans (hb11.mono hb.size)).trans (hb16.mono (Nat.le_trans hb.size hb11.size))) nq
  have h17 := h.below hBa
  have hbox17 : (w16.drewN nq).heap[g3]? = some (.cells (pk p).toArray 28 (0, 0)) := hbox16
  clear c0 c1 hbox16 hB
  generalize w16.drewN nq = w17 at hBa h17 hbox17 ⊢
  have hv17 := h17.cell hv
  have e0 : w17.drew.cell? ⟨g3, 0, none⟩ = some (.int .i64 p.f0) := (blk_cell (blk_drew hbox17) 0).trans rfl
  have e1 : w17.drew.cell? ⟨g3, 1, none⟩ = some (.int .i64 p.f1) := (blk_cell (blk_drew hbox17) 1).trans rfl
  have e2 : w17.drew.cell? ⟨g3, 2, none⟩ = some (.int .i64 p.f2) := (blk_cell (blk_drew hbox17) 2).trans rfl
  have e3 : w17.drew.cell? ⟨g3, 3, none⟩ = some (.int .i64 p.f3) := (blk_cell (blk_drew hbox17) 3).trans rfl
  have e4 : w17.drew.cell? ⟨g3, 4, none⟩ = some (.int .i64 p.f4) := (blk_cell (blk_drew hbox17) 4).trans rfl
  have e5 : w17.drew.cell? ⟨g3, 5, none⟩ = some (.int .i64 p.f5) := (blk_cell (blk_drew hbox17) 5).trans rfl
  have e6 : w17.drew.cell? ⟨g3, 6, none⟩ = some (.string p.f6) := (blk_cell (blk_drew hbox17) 6).trans rfl
  refine start_ (n := 9) (S := fun w' => w'.cell? ⟨g, p.f0.toNat * 16 + p.f1.toNat, none⟩ = some (.slice A row.length c) ∧ w'.cell? ⟨g3, 0, none⟩ = some (.int .i64 p.f0) ∧ w'.cell? ⟨g3, 1, none⟩ = some (.int .i64 p.f1) ∧ w'.cell? ⟨g3, 2, none⟩ = some (.int .i64 p.f2) ∧ w'.cell? ⟨g3, 3, none⟩ = some (.int .i64 p.f3) ∧ w'.cell? ⟨g3, 4, none⟩ = some (.int .i64 p.f4) ∧ w'.cell? ⟨g3, 5, none⟩ = some (.int .i64 p.f5) ∧ w'.cell? ⟨g3, 6, none⟩ = some (.string p.f6)) (ds := [8]) #[false, false, false, false, false, false, false, false, false] (by kernel_rfl) rfl rfl ⟨hv17, e0, e1, e2, e3, e4, e5, e6⟩ (fun hHeld => ?_)
  clear e0 e1 e2 e3 e4 e5 e6 hv17
  have h18 := h17.below (w1 := w17.drew) (below_drew1 (Below.refl _ _))
  have hbox18 := blk_drew hbox17
  have hB18 := below_drew1 hBa
  clear hBa h17 hbox17
  generalize w17.drew = w18 at *
  refine pure_ (i := 0) (N := some 27) (v := ?_) (a' := ?_) #[true, false, false, false, false, false, false, false, false] rfl rfl (by kernel_rfl) (fun _ _ _ h => h) (Or.inl ⟨by rfl, ?_⟩) ?_ ?_
  rotate_left
  · intro w'; go_simp; with_reducible rfl
  rotate_left
  · simp only [Act.put, List.setIfInBounds_toArray, List.set_cons_zero, List.set_cons_succ, i64_w, i32_w]; rfl
  refine pure_ (i := 1) (N := some 28) (v := ?_) (a' := ?_) #[true, true, false, false, false, false, false, false, false] rfl rfl (by kernel_rfl) (fun _ _ _ h => h) (Or.inl ⟨by rfl, ?_⟩) ?_ ?_
  rotate_left
  · intro w'; go_simp; with_reducible rfl
  rotate_left
  · simp only [Act.put, List.setIfInBounds_toArray, List.set_cons_zero, List.set_cons_succ, i64_w, i32_w]; rfl
  refine pure_ (i := 2) (N := some 29) (v := ?_) (a' := ?_) #[true, true, true, false, false, false, false, false, false] rfl rfl (by kernel_rfl) (fun _ _ _ h => h) (Or.inl ⟨by rfl, ?_⟩) ?_ ?_
  rotate_left
  · intro w'; go_simp; with_reducible rfl
  rotate_left
  · simp only [Act.put, List.setIfInBounds_toArray, List.set_cons_zero, List.set_cons_succ, i64_w, i32_w]; rfl
  refine take_ (i := 3) (N := some 30) (v := ?_) (a' := ?_) #[true, true, true, true, false, false, false, false, false] rfl rfl (by kernel_rfl) (fun _ _ _ h => h) (Or.inl ⟨by rfl, ?_⟩) hHeld ?_ ?_
  rotate_left
  · rintro w' ⟨s0, s1, s2, s3, s4, s5, s6, s7⟩; go_simp; with_reducible rfl
  rotate_left
  · simp only [Act.put, List.setIfInBounds_toArray, List.set_cons_zero, List.set_cons_succ, i64_w, i32_w]; rfl
  refine take_ (i := 4) (N := some 31) (v := ?_) (a' := ?_) #[true, true, true, true, true, false, false, false, false] rfl rfl (by kernel_rfl) (fun _ _ _ h => h) (Or.inl ⟨by rfl, ?_⟩) hHeld ?_ ?_
  rotate_left
  · rintro w' ⟨s0, s1, s2, s3, s4, s5, s6, s7⟩; go_simp; with_reducible rfl
  rotate_left
  · simp only [Act.put, List.setIfInBounds_toArray, List.set_cons_zero, List.set_cons_succ, i64_w, i32_w]; rfl
  refine one_ (i := 5) (N := some 32) #[true, true, true, true, true, true, false, false, false] rfl rfl (by kernel_rfl) (by decide) (fun K hK => ?_)
  refine event_step (v := .slice (some ⟨w18.heap.size, 0, none⟩) 1 1) (w1 := w18.alloc (.cells (pk p).toArray 28 (0, 0))) (by rfl) (by go_simp; rfl) ?_
  have hba := below_alloc (Below.refl w18.heap.size w18) (.cells (pk p).toArray 28 (0, 0))
  have h19 := h18.below hba
  have hbox19 := blk_alloc hbox18 (.cells (pk p).toArray 28 (0, 0))
  have hnew := blk_new w18 (.cells (pk p).toArray 28 (0, 0))
  have hB19 := below_alloc hB18 (.cells (pk p).toArray 28 (0, 0))
  refine hK.out _ _ ⟨h19.cell hv, (blk_cell hbox19 0).trans rfl, (blk_cell hbox19 1).trans rfl, (blk_cell hbox19 2).trans rfl, (blk_cell hbox19 3).trans rfl, (blk_cell hbox19 4).trans rfl, (blk_cell hbox19 5).trans rfl, (blk_cell hbox19 6).trans rfl⟩ (fun hHeld => ?_)
  clear hK K
  refine norm_ (a' := ?_) ?_ ?_
  rotate_left
  · show Act.put _ (some 32) _ = _
    simp only [Act.put, List.setIfInBounds_toArray, List.set_cons_zero, List.set_cons_succ, i64_w, i32_w]
    rfl
  refine one_ (i := 6) (N := some 33) #[true, true, true, true, true, true, true, false, false] rfl rfl (by kernel_rfl) (by decide) (fun K hK => ?_)
  obtain ⟨v', w20, hr, HR', hg20, hat⟩ := row_append p (h19.row _ _ _ hv hrow) (by have := cnt_row hrow; omega) 50 ⟨w18.heap.size, 0, none⟩ 1 (fun j u hu => by rw [Addr.add_mid, Nat.zero_add]; unfold World.cell?; simp only [hnew]; simpa using hu)
  refine event_step (v := v') (w1 := w20) (by rfl) ?_ ?_
  · exact append_run rfl rfl rfl hr
  have hgl := (Array.getElem?_eq_some_iff.1 h19.blk).1
  have hg20b := (hg20.block g hgl (fun e => h19.row_ne hv e.symm)).trans h19.blk
  have h3ne : ∀ k, (Value.slice A row.length c).ownBlock = some k → k < w.heap.size := fun k hk => (row_lt (h.row _ _ _ hv hrow) k hk).1
  have hbox20 := (hg20.block g3 (Array.getElem?_eq_some_iff.1 hbox19).1 (fun e => by have := h3ne g3 e.symm; have := HG3.out; omega)).trans hbox19
  have hidl := (List.getElem?_eq_some_iff.1 hv).1
  have hc20 : w20.cell? ⟨g, p.f0.toNat * 16 + p.f1.toNat, none⟩ = some (.slice A row.length c) := (World.cell?_of_block (hg20.block g hgl (fun e => h19.row_ne hv e.symm))).trans (h19.cell hv)
  have hput := h19.put hv hg20 HR' (.inr hat)
  have hM20 : Mods F w w20 := (Mods.of_below hB19).grown hg20 (fun k hk => .inl (hin.2 _ _ hv k hk))
  have hfoot : ∀ k, v'.ownBlock = some k → F k ∨ (w.heap.size ≤ k ∧ k < w20.heap.size) := by
    intro k hk
    rcases hat with hat | ⟨b, hat, hb⟩
    · exact .inl (hin.2 _ _ hv k (by rw [← hat]; exact hk))
    · rw [hat] at hk
      injection hk with hk
      subst hk
      exact .inr ⟨Nat.le_trans hB19.size hb, (row_lt HR' _ hat).1⟩
  obtain ⟨A', c', rfl⟩ := row_form HR'
  refine hK.out _ _ ⟨hc20, (blk_cell hbox20 0).trans rfl, (blk_cell hbox20 1).trans rfl, (blk_cell hbox20 2).trans rfl, (blk_cell hbox20 3).trans rfl, (blk_cell hbox20 4).trans rfl, (blk_cell hbox20 5).trans rfl, (blk_cell hbox20 6).trans rfl⟩ (fun hHeld => ?_)
  clear hK K
  refine norm_ (a' := ?_) ?_ ?_
  rotate_left
  · show Act.put _ (some 33) _ = _
    simp only [Act.put, List.setIfInBounds_toArray, List.set_cons_zero, List.set_cons_succ, i64_w, i32_w]
    rfl
  refine pure_ (i := 7) (N := some 34) (v := ?_) (a' := ?_) #[true, true, true, true, true, true, true, true, false] rfl rfl (by kernel_rfl) (fun _ _ _ h => h) (Or.inl ⟨by rfl, ?_⟩) ?_ ?_
  rotate_left
  · intro w'; go_simp; with_reducible rfl
  rotate_left
  · simp only [Act.put, List.setIfInBounds_toArray, List.set_cons_zero, List.set_cons_succ, i64_w, i32_w]; rfl
  refine last_ (i := 8) (N := none) #[true, true, true, true, true, true, true, true, true] rfl rfl (by kernel_rfl) (by decide) (fun K hK => ?_)
  have hf20 : w20.frozen? ⟨g, p.f0.toNat * 16 + p.f1.toNat, none⟩ = false := blk_frozen hg20b _
  refine skip_ (w1 := ?_) (by rfl) rfl ?_ ?_
  rotate_left
  · go_simp
    rfl
  refine hK.out _ _ ?_
  clear hK K
  refine done_ (by kernel_rfl) ?_
  go_wp2
  go_ret
  have hl1 : (row ++ [p]).length = row.length + 1 := by simp
  rw [hl1] at hput hfoot
  exact ⟨rfl, ⟨_, hput, hin.put (fun k hk => .inl hk) (fun k hk => (hfoot k hk).elim .inl (fun e => .inr ⟨e.1, by simpa [World.setCell] using e.2⟩))⟩, hM20.set (.inl hin.1) _⟩
theorem send_bad (w : World) (g : Nat) (p : Pk) (hck : wire_CheckPacket.f p.f0 p.f1 p.f2 p.f3 p.f4 p.f5 p.f6 = some false) :
    Calls Try.prog 17 #[.pointer (some ⟨g, 0, none⟩), pkV p] w fun e w' => e = .returned (.int .i64 1) ∧ Below w.heap.size w w' := by
  have hu28 := Try.underlying28
  unfold pkV
  go_enter Try.func17, Try.ntmps17
  go_wp2_with (first | ((with_reducible refine gate_dst (N := 3) rfl ?_); refine box_event ?hg (N := 3) ?hd (cs := (pk p).toArray) (t := 28) ?hr ?_; (case hd => rfl); (case hg => rfl); (case hr => first | (go_simp; done) | (go_simp; rfl)); intro g3 hg3 w3 hbox hb; have HG3 := Aside0.mk hg3; clear hg3) | ((with_reducible refine gate_dst (N := 10) rfl ?_); refine gate_guard (by rfl) ?_; dsimp only; refine wpList_load_row rfl 28 (.tmp 3) rfl g3 rfl 28 _ (0, 0) _ hbox hu28 rfl info28s ?_) | ((with_reducible refine gate_callee (f := 59) rfl ?_); refine gate_guard (by rfl) ?_; dsimp only; refine goesL_ (some 11) rfl rfl Try.func59 (by kernel_rfl) rfl #[.agg (pk p).toArray] rfl (by (try simp only [List.map_toArray, List.map_cons, List.map_nil]); rfl) ?_; refine (wire_CheckPacket.calls _ _ _ _ _ _ _ false _ hck).mono ?_; rintro e w11 ⟨rfl, hb11⟩; refine ⟨_, rfl, ?_⟩))
  go_ret
  exact ⟨rfl, hb.trans (hb11.mono hb.size)⟩
/-- May a packet be? -/
def okP (p : Pk) : Bool := decide (1 ≤ p.f0 ∧ p.f0 ≤ 15) && decide (1 ≤ p.f1 ∧ p.f1 ≤ 15) && decide (p.f0 ≠ p.f1) && decide (1 ≤ p.f2 ∧ p.f2 ≤ 1099511627775) && decide (1 ≤ p.f3 ∧ p.f3 ≤ 1099511627775) && decide (0 ≤ p.f4 ∧ p.f4 ≤ 1099511627775) && decide (0 ≤ p.f5 ∧ p.f5 ≤ 1099511627775) && decide (p.f6.size ≤ 32768) && (decide (0 < p.f4) || decide (p.f6.size = 0))
theorem in_is (a b c : Int) : wire_in.f a b c = some (decide (b ≤ a ∧ a ≤ c)) := by
  unfold wire_in.f
  by_cases h : a ≥ b
  · rw [if_pos h]
    congr 1
    exact decide_eq_decide.2 ⟨fun e => ⟨h, e⟩, fun e => e.2⟩
  · rw [if_neg h]
    congr 1
    exact (decide_eq_false (fun e => h e.1)).symm
theorem size_nil (s : ByteArray) : (s.toList == ([] : List UInt8)) = decide (s.size = 0) := by
  have hl : s.toList.length = s.size := by rw [ByteArray.toList_eq]; simp
  rw [← hl]
  cases h : s.toList with
  | nil => rfl
  | cons a l => rfl
theorem check_is (p : Pk) : wire_CheckPacket.f p.f0 p.f1 p.f2 p.f3 p.f4 p.f5 p.f6 = some (okP p) := by
  unfold wire_CheckPacket.f okP
  simp only [in_is, Option.bind_some]
  by_cases h1 : 1 ≤ p.f0 ∧ p.f0 ≤ 15 <;> by_cases h2 : 1 ≤ p.f1 ∧ p.f1 ≤ 15 <;> by_cases h3 : p.f0 = p.f1 <;> by_cases h4 : 1 ≤ p.f2 ∧ p.f2 ≤ 1099511627775 <;> by_cases h5 : 1 ≤ p.f3 ∧ p.f3 ≤ 1099511627775 <;> by_cases h6 : 0 ≤ p.f4 ∧ p.f4 ≤ 1099511627775 <;> by_cases h7 : 0 ≤ p.f5 ∧ p.f5 ≤ 1099511627775 <;> simp only [h1, h2, h3, h4, h5, h6, h7, decide_true, decide_false, Bool.true_and, Bool.false_and, Bool.and_false, Bool.and_true, if_true, if_false, ne_eq, not_true_eq_false, not_false_eq_true, Bool.false_eq_true, reduceIte, and_self]
  by_cases h8 : (p.f6.size : Int) ≤ 32768
  · rw [if_pos h8, decide_eq_true (by omega : p.f6.size ≤ 32768)]
    by_cases h9 : p.f4 > 0
    · rw [if_pos h9, decide_eq_true (show 0 < p.f4 from h9)]
      rfl
    · rw [if_neg h9, decide_eq_false (show ¬ 0 < p.f4 from h9), size_nil]
      simp
  · rw [if_neg h8, decide_eq_false (by omega : ¬ p.f6.size ≤ 32768)]
    rfl
/-- Where a hop's row lies. -/
def at2 (a b : Int) : Nat := a.toNat * 16 + b.toNat
/-- The rows behind a Send. -/
def sendQ (p : Pk) (q : List (List Pk)) : List (List Pk) := if okP p = true ∧ cnt q < 400 then q.set (at2 p.f0 p.f1) (q.getD (at2 p.f0 p.f1) [] ++ [p]) else q
def sendE (p : Pk) (q : List (List Pk)) : Int := if okP p = true then (if cnt q < 400 then 0 else 6) else 1
theorem okP_parts {p : Pk} (h : okP p = true) : (1 ≤ p.f0 ∧ p.f0 ≤ 15) ∧ (1 ≤ p.f1 ∧ p.f1 ≤ 15) ∧ p.f0 ≠ p.f1 := by
  unfold okP at h
  simp only [Bool.and_eq_true, decide_eq_true_eq] at h
  exact ⟨h.1.1.1.1.1.1.1.1, h.1.1.1.1.1.1.1.2, h.1.1.1.1.1.1.2⟩
theorem NetW.lq {w : World} {F : Nat → Prop} {g : Nat} {q : List (List Pk)} {ap : List Bool} (h : NetW w F g q ap) : q.length = 256 := by
  obtain ⟨vs, h, _⟩ := h
  exact h.lq
theorem NetW.la {w : World} {F : Nat → Prop} {g : Nat} {q : List (List Pk)} {ap : List Bool} (h : NetW w F g q ap) : ap.length = 256 := by
  obtain ⟨vs, h, _⟩ := h
  exact h.la
theorem NetW.grow {w w' : World} {F : Nat → Prop} {g : Nat} {q : List (List Pk)} {ap : List Bool} (h : NetW w F g q ap) (hb : Below w.heap.size w w') : NetW w' (NW.grow F w w') g q ap := (h.below hb).mono (fun _ _ hk => .inl hk)
/-- Send, whatever comes. -/
theorem send_is {w : World} {F : Nat → Prop} {g : Nat} {q : List (List Pk)} {ap : List Bool} (p : Pk) (h : NetW w F g q ap) (hc : cnt q ≤ 1000) :
    Calls Try.prog 17 #[.pointer (some ⟨g, 0, none⟩), pkV p] w fun e w' => e = .returned (.int .i64 (sendE p q)) ∧ NetW w' (NW.grow F w w') g (sendQ p q) ap ∧ Mods F w w' := by
  have hck := check_is p
  unfold sendE sendQ
  cases hok : okP p with
  | false =>
    rw [hok] at hck
    rw [if_neg (by decide), if_neg (fun e => by cases e.1)]
    exact (send_bad w g p hck).mono fun e w' ⟨he, hb⟩ => ⟨he, h.grow hb, Mods.of_below hb⟩
  | true =>
    rw [hok] at hck
    by_cases hf : cnt q < 400
    · rw [if_pos rfl, if_pos hf, if_pos ⟨rfl, hf⟩]
      obtain ⟨h1, h2, h3⟩ := okP_parts hok
      have hrow : q[p.f0.toNat * 16 + p.f1.toNat]? = some (q.getD (at2 p.f0 p.f1) []) := by
        rw [List.getD_eq_getElem?_getD]
        unfold at2
        rw [List.getElem?_eq_getElem (by rw [h.lq]; omega)]
        rfl
      exact send_ok p h hc hf hrow hck
    · rw [if_pos rfl, if_neg hf, if_neg (fun e => hf e.2)]
      exact (send_full p h hc (by omega) hck).mono fun e w' ⟨he, hb⟩ => ⟨he, h.grow hb, Mods.of_below hb⟩
end Go.Proofs.Ytdibaeomepallaa.NW
/- The net, by hand: there, Take and Apart of what may not be; Apart. -/
namespace Go.Proofs.Ytdibaeomepallaa.NW
open Go.RowKit Go.Proofs.YtdibaeomepallaaW.PrintWords Go.Proofs.YtdibaeomepallaaW.PrintLast Go.Proofs.YtdibaeomepallaaW.PrintMore Go.Proofs.Ytdibaeomepallaa.PAll
set_option linter.unusedVariables false
set_option linter.unusedSimpArgs false
set_option maxRecDepth 100000
def pk0 : Pk := ⟨0, 0, 0, 0, 0, 0, ⟨#[]⟩⟩
theorem pk_one (p : Pk) : (pk p).toArray.all (·.oneCell') = true := by rw [List.all_toArray, List.all_eq_true]; exact fun u hu => flat_one [p] u (by simpa [flat] using hu)
theorem is_true {a b : Int} (ha : 1 ≤ a) (ha2 : a ≤ 15) (hb : 1 ≤ b) (hb2 : b ≤ 15) (hne : a ≠ b) : net_is.f a b = some true := by
  have h1 : ∀ n : Int, 1 ≤ n → n ≤ 15 → net_node.f n = some true := by
    intro n h1 h2
    unfold net_node.f
    rw [if_pos (by omega), decide_eq_true h2]
  unfold net_is.f
  rw [h1 a ha ha2, Option.bind_some, if_pos rfl, h1 b hb hb2, Option.bind_some, if_pos rfl, bne_iff_ne.mpr hne]
theorem there_yes {w : World} {F : Nat → Prop} {g : Nat} {q : List (List Pk)} {ap : List Bool} (h : NetW w F g q ap) (a b i : Int) {row : List Pk} (ha : 1 ≤ a) (ha2 : a ≤ 15) (hb : 1 ≤ b) (hb2 : b ≤ 15) (hne : a ≠ b) (hrow : q[a.toNat * 16 + b.toNat]? = some row) :
    Calls Try.prog 60 #[.pointer (some ⟨g, 0, none⟩), .agg #[.int .i64 a, .int .i64 b], .int .i64 i] w fun e w' => e = .returned (.int .i64 (if i < 0 ∨ (row.length : Int) ≤ i then 4 else 0)) ∧ Below w.heap.size w w' := by
  obtain ⟨vs, h, hin⟩ := h
  have hidx : a.toNat * 16 + b.toNat < 256 := by omega
  obtain ⟨v, hv⟩ : ∃ v, vs[a.toNat * 16 + b.toNat]? = some v := ⟨_, List.getElem?_eq_getElem (by rw [h.lv]; exact hidx)⟩
  obtain ⟨A, c, rfl⟩ := h.slice hv hrow
  have hu32 := Try.underlying32
  have info32 : (Try.prog.info? 32).map (·.size) = some 2 := by kernel_rfl
  have his := is_true ha ha2 hb hb2 hne
  have hB := below_alloc (Below.refl w.heap.size w) (Obj.cells #[Value.int IntKind.i64 a, Value.int IntKind.i64 b] 32)
  have hbox := blk_new w (Obj.cells #[Value.int IntKind.i64 a, Value.int IntKind.i64 b] 32)
  by_cases hi : i < 0
  · have di : decide (i < 0) = true := decide_eq_true hi
    rw [if_pos (.inl hi)]
    go_enter Try.func60, Try.ntmps60
    go_wp2_with ((with_reducible refine gate_callee (f := 71) rfl ?_); refine gate_guard (by rfl) ?_; dsimp only; refine goesL_ (some 12) rfl rfl Try.func71 (by kernel_rfl) rfl #[.agg #[.int .i64 a, .int .i64 b]] rfl (by (try simp only [List.map_toArray, List.map_cons, List.map_nil]); rfl) ?_; refine (net_is.calls a b true _ his).mono ?_; rintro e w12 ⟨rfl, hb12⟩; refine ⟨_, rfl, ?_⟩)
    go_ret
    exact ⟨rfl, hB.trans (hb12.mono hB.size)⟩
  · have di : decide (i < 0) = false := decide_eq_false hi
    by_cases hl : (row.length : Int) ≤ i
    · have dl : decide ((row.length : Int) ≤ i) = true := decide_eq_true hl
      rw [if_pos (.inr hl)]
      go_enter Try.func60, Try.ntmps60
      go_wp2_with (first | ((with_reducible refine gate_callee (f := 71) rfl ?_); refine gate_guard (by rfl) ?_; dsimp only; refine goesL_ (some 12) rfl rfl Try.func71 (by kernel_rfl) rfl #[.agg #[.int .i64 a, .int .i64 b]] rfl (by (try simp only [List.map_toArray, List.map_cons, List.map_nil]); rfl) ?_; refine (net_is.calls a b true _ his).mono ?_; rintro e w12 ⟨rfl, hb12⟩; refine ⟨_, rfl, ?_⟩) | ((with_reducible refine gate_dst (N := 21) rfl ?_); refine gate_guard (by rfl) ?_; dsimp only; refine wpList_load_row rfl 32 (.tmp 4) rfl w.heap.size rfl 32 _ (0, 0) _ ((hb12.block w.heap.size (by simp)).trans hbox) hu32 rfl info32 ?_) | ((with_reducible refine gate_callee (f := 28) rfl ?_); refine gate_guard (by rfl) ?_; dsimp only; refine goesL_ (some 22) rfl rfl Try.func28 (by kernel_rfl) rfl #[.pointer (some ⟨g, 0, none⟩), .agg #[.int .i64 a, .int .i64 b]] rfl (by (try simp only [List.map_toArray, List.map_cons, List.map_nil]); rfl) ?_; refine (len_yes g a b _ A row.length c ha ha2 hb hb2 hne ((h.below (hB.trans (hb12.mono hB.size))).cell hv)).mono ?_; rintro e w1 ⟨rfl, hb1⟩; refine ⟨_, rfl, ?_⟩))
      go_ret
      exact ⟨rfl, (hB.trans (hb12.mono hB.size)).trans (hb1.mono (Nat.le_trans hB.size hb12.size))⟩
    · have dl : decide ((row.length : Int) ≤ i) = false := decide_eq_false hl
      rw [if_neg (fun e => e.elim hi hl)]
      go_enter Try.func60, Try.ntmps60
      go_wp2_with (first | ((with_reducible refine gate_callee (f := 71) rfl ?_); refine gate_guard (by rfl) ?_; dsimp only; refine goesL_ (some 12) rfl rfl Try.func71 (by kernel_rfl) rfl #[.agg #[.int .i64 a, .int .i64 b]] rfl (by (try simp only [List.map_toArray, List.map_cons, List.map_nil]); rfl) ?_; refine (net_is.calls a b true _ his).mono ?_; rintro e w12 ⟨rfl, hb12⟩; refine ⟨_, rfl, ?_⟩) | ((with_reducible refine gate_dst (N := 21) rfl ?_); refine gate_guard (by rfl) ?_; dsimp only; refine wpList_load_row rfl 32 (.tmp 4) rfl w.heap.size rfl 32 _ (0, 0) _ ((hb12.block w.heap.size (by simp)).trans hbox) hu32 rfl info32 ?_) | ((with_reducible refine gate_callee (f := 28) rfl ?_); refine gate_guard (by rfl) ?_; dsimp only; refine goesL_ (some 22) rfl rfl Try.func28 (by kernel_rfl) rfl #[.pointer (some ⟨g, 0, none⟩), .agg #[.int .i64 a, .int .i64 b]] rfl (by (try simp only [List.map_toArray, List.map_cons, List.map_nil]); rfl) ?_; refine (len_yes g a b _ A row.length c ha ha2 hb hb2 hne ((h.below (hB.trans (hb12.mono hB.size))).cell hv)).mono ?_; rintro e w1 ⟨rfl, hb1⟩; refine ⟨_, rfl, ?_⟩))
      go_ret
      exact ⟨rfl, (hB.trans (hb12.mono hB.size)).trans (hb1.mono (Nat.le_trans hB.size hb12.size))⟩

theorem there_bad {w : World} (g : Nat) (a b i : Int) (his : net_is.f a b = some false) :
    Calls Try.prog 60 #[.pointer (some ⟨g, 0, none⟩), .agg #[.int .i64 a, .int .i64 b], .int .i64 i] w fun e w' => e = .returned (.int .i64 1) ∧ Below w.heap.size w w' := by
  have hu32 := Try.underlying32
  have hB := below_alloc (Below.refl w.heap.size w) (Obj.cells #[Value.int IntKind.i64 a, Value.int IntKind.i64 b] 32)
  go_enter Try.func60, Try.ntmps60
  go_wp2_with ((with_reducible refine gate_callee (f := 71) rfl ?_); refine gate_guard (by rfl) ?_; dsimp only; refine goesL_ (some 12) rfl rfl Try.func71 (by kernel_rfl) rfl #[.agg #[.int .i64 a, .int .i64 b]] rfl (by (try simp only [List.map_toArray, List.map_cons, List.map_nil]); rfl) ?_; refine (net_is.calls a b false _ his).mono ?_; rintro e w12 ⟨rfl, hb12⟩; refine ⟨_, rfl, ?_⟩)
  go_ret
  exact ⟨rfl, hB.trans (hb12.mono hB.size)⟩
theorem NetAt.bool {w : World} {g : Nat} {vs : List Value} {q : List (List Pk)} {ap : List Bool} (h : NetAt w g vs q ap) {i : Nat} {x : Bool} (hi : ap[i]? = some x) : w.cell? ⟨g, 256 + i, none⟩ = some (.bool x) := by
  unfold World.cell?
  simp only [h.blk]
  rw [List.getElem?_toArray, List.getElem?_append_right (by rw [h.lv]; omega), h.lv, Nat.add_sub_cancel_left, List.getElem?_map, hi]
  rfl
end Go.Proofs.Ytdibaeomepallaa.NW
/- The net, by hand: a packet of a row; Twice; a row without one. -/
namespace Go.Proofs.Ytdibaeomepallaa.NW
open Go.RowKit Go.Proofs.YtdibaeomepallaaW.PrintWords Go.Proofs.YtdibaeomepallaaW.PrintLast Go.Proofs.YtdibaeomepallaaW.PrintMore Go.Proofs.Ytdibaeomepallaa.PAll
set_option linter.unusedVariables false
set_option linter.unusedSimpArgs false
set_option maxRecDepth 100000
/-- A packet of a row: its cells. -/
theorem row_pk {w : World} {v : Value} {xs : List Pk} (h : Row w v xs) {i : Nat} {p : Pk} (hi : xs[i]? = some p) : ∃ b c, v = .slice (some ⟨b, 0, none⟩) xs.length c ∧ w.rangeAt b (i * 7) (pk p) := by
  rcases h with ⟨rfl, A, rfl, hA⟩ | ⟨g, cap, cur, rfl, hh, h2, h3, h4, h5⟩
  · cases hi
  · refine ⟨g, cap, rfl, ?_⟩
    intro j u hu
    have hj : j < 7 := by
      have := (List.getElem?_eq_some_iff.1 hu).1
      simpa [pk] using this
    have hil := (List.getElem?_eq_some_iff.1 hi).1
    have hf : (flat xs)[i * 7 + j]? = some u := by
      clear h2 h3 h4 h5
      induction xs generalizing i with
      | nil => cases hi
      | cons x r ih =>
        cases i with
        | zero =>
          rw [List.getElem?_cons_zero] at hi
          injection hi with hi
          subst hi
          unfold flat
          rw [List.flatMap_cons, List.getElem?_append_left (by simp [pk]; omega), Nat.zero_mul, Nat.zero_add]
          exact hu
        | succ i =>
          rw [List.getElem?_cons_succ] at hi
          unfold flat
          rw [List.flatMap_cons, List.getElem?_append_right (by simp [pk]; omega)]
          have hil' : i < r.length := (List.getElem?_eq_some_iff.1 hi).1
          have := ih hi hil'
          unfold flat at this
          rw [show (i + 1) * 7 + j - (pk x).length = i * 7 + j from by simp [pk]; omega]
          exact this
    rw [← h5, List.getElem?_take] at hf
    split at hf
    · unfold World.cell?
      simp only [hh]
      simpa using hf
    · cases hf
theorem row_erase (xs : List Pk) (i : Nat) : xs.eraseIdx i = xs.take i ++ xs.drop (i + 1) := by
  rw [List.eraseIdx_eq_take_drop_succ]
theorem nothing_run (w : World) (ty : TypeId) (b : Addr) (n c2 : Nat) (A : Option Addr) : (Builtin.append_ #[50, 50] ty #[.slice (some b) n n, .slice A 0 c2]).run Try.prog w = .ok (.slice (some b) n n) w := by
  obtain ⟨i, hi, he⟩ := Option.map_eq_some_iff.1 info28
  have ht := Try.underlying50
  refine run_append_nothing w 50 50 ty 28 i ht hi (some b) n n (Nat.le_refl _) (.slice A 0 c2) ⟨.inl ⟨28, ht⟩, ?_, ?_, ?_, by simp, by simp⟩
  · intro w'; cases A <;> simp [Builtin.lenOf]
  · cases A <;> simp [Builtin.firstCells, loadCells, loadCellsFrom]
  · cases A <;> simp [Builtin.firstCells, loadCells, loadCellsFrom]
/-- r[:i:i] with what stands behind i: the row without i. -/
theorem row_out {w : World} {bb c : Nat} {xs : List Pk} (HR : Row w (.slice (some ⟨bb, 0, none⟩) xs.length c) xs) {i : Nat} (hi : i < xs.length) (hlen : xs.length ≤ 1000) (ty : TypeId) (A : Option Addr) (c2 : Nat) (hA : i + 1 < xs.length → A = some ⟨bb, (i + 1) * 7, none⟩) :
    ∃ v' w', (Builtin.append_ #[50, 50] ty #[.slice (some ⟨bb, 0, none⟩) i i, .slice A (xs.length - (i + 1)) c2]).run Try.prog w = .ok v' w' ∧ Row w' v' (xs.eraseIdx i) ∧ w.grownBy w' none ∧ (v'.ownBlock = some bb ∨ ∃ b, v'.ownBlock = some b ∧ w.heap.size ≤ b) := by
  obtain ⟨inf, hinf, he⟩ := Option.map_eq_some_iff.1 info28
  have hz : inf.zero = some _ := congrArg (·.1) he
  have hsz : inf.size = 7 := congrArg (·.2.1) he
  have hby : inf.bytes = 64 := congrArg (·.2.2) he
  have ht := Try.underlying50
  rcases HR with ⟨h0, _⟩ | ⟨g, cap, cur, hv, hh, h2, h3, h4, h5⟩
  · subst h0; cases hi
  injection hv with hv1 _ hv2
  injection hv1 with hv1
  injection hv1 with hv1
  subst hv1
  subst hv2
  have htk : (xs.take i).length = i := by rw [List.length_take]; omega
  have hfl : flat (xs.take i) = (flat xs).take (i * 7) := by
    conv => rhs; rw [← List.take_append_drop i xs, flat_append]
    rw [List.take_left' (by rw [flat_len, htk])]
  have hcur : cur.toList.take (i * 7) = flat (xs.take i) := by
    rw [hfl, ← h5, List.take_take, Nat.min_eq_left (by omega)]
  by_cases hm : i + 1 < xs.length
  · obtain rfl := hA hm
    have hl2 : (xs.drop (i + 1)).length = xs.length - (i + 1) := List.length_drop
    have hfe : flat (xs.eraseIdx i) = flat (xs.take i) ++ flat (xs.drop (i + 1)) := by rw [row_erase, flat_append]
    have hle : (xs.eraseIdx i).length = i + (xs.length - (i + 1)) := by rw [row_erase, List.length_append, htk, hl2]
    obtain ⟨v', w', hr, ho, hg⟩ := run_append_arg_grows (P := Try.prog) (w := w) 50 ty 28 inf _ 7 64 ht hinf hz hsz hby rfl (by omega) ⟨bb, 0, none⟩ i i (flat (xs.take i)) (by rw [flat_len, htk]) (row_cells (n := 0) hh (by rw [htk]; exact hcur)) ⟨bb, (i + 1) * 7, none⟩ (xs.length - (i + 1)) c2 (flat (xs.drop (i + 1))) (by rw [flat_len, hl2]) (by
      intro j u hu
      have hj := (List.getElem?_eq_some_iff.1 hu).1
      rw [Addr.add_mid]
      have hx : (flat xs)[(i + 1) * 7 + j]? = some u := by
        conv => lhs; rw [← List.take_append_drop (i + 1) xs, flat_append]
        have hq : (flat (xs.take (i + 1))).length = (i + 1) * 7 := by rw [flat_len, List.length_take, Nat.min_eq_left (by omega)]
        rw [List.getElem?_append_right (by rw [hq]; omega), hq, Nat.add_sub_cancel_left]
        exact hu
      have := row_cells (n := 0) hh h5 ((i + 1) * 7 + j) u hx
      rw [Addr.add_mid, Nat.zero_add] at this
      exact this) (by omega) (by unfold maxLen; omega) (by omega)
    refine ⟨v', w', hr, row_of_own (by rw [hle, hfe]; exact own_weaken ho (Nat.zero_le _)), hg, ?_⟩
    obtain ⟨g', cap', he, hb', _⟩ := ho.form (by omega)
    exact .inr ⟨g', by rw [he]; simp [Value.ownBlock], hb'⟩
  · have h0 : xs.length - (i + 1) = 0 := by omega
    have he : xs.eraseIdx i = xs.take i := by rw [row_erase, List.drop_of_length_le (by omega), List.append_nil]
    refine ⟨_, w, by rw [h0]; exact nothing_run w ty _ _ _ _, ?_, ⟨rfl, rfl, rfl, Nat.le_refl _, fun _ _ _ => rfl⟩, .inl rfl⟩
    rw [he]
    refine .inr ⟨bb, i, cur, by rw [htk], hh, by rw [htk]; exact Nat.le_refl _, by omega, .inr htk, by rw [htk]; exact hcur⟩
end Go.Proofs.Ytdibaeomepallaa.NW
/- The net, by hand: out. -/
namespace Go.Proofs.Ytdibaeomepallaa.NW
open Go.RowKit Go.Proofs.YtdibaeomepallaaW.PrintWords Go.Proofs.YtdibaeomepallaaW.PrintLast Go.Proofs.YtdibaeomepallaaW.PrintMore Go.Proofs.Ytdibaeomepallaa.PAll
set_option linter.unusedVariables false
set_option linter.unusedSimpArgs false
set_option maxRecDepth 100000
theorem NetAt.far_row {w : World} {g : Nat} {vs : List Value} {q : List (List Pk)} {ap : List Bool} (h : NetAt w g vs q ap) {k : Nat} (cs : Array Value) (hk : k ≠ g) (hr : ∀ (i : Nat) (v : Value), vs[i]? = some v → v.ownBlock ≠ some k) : NetAt (w.setRow k cs) g vs q ap :=
  ⟨(setRow_other w k g cs (fun e => hk e.symm)).trans h.blk, h.lv, h.la, h.lq, fun i v xs hv hq => row_other (h.row i v xs hv hq) (fun m hm => setRow_other w k m cs (fun e => hr i v hv (by rw [hm, e]))), h.apart⟩
theorem out_ok {w : World} {F : Nat → Prop} {g : Nat} {q : List (List Pk)} {ap : List Bool} (h : NetW w F g q ap) (a b : Int) (i : Nat) {row : List Pk} {p : Pk} (ha : 1 ≤ a) (ha2 : a ≤ 15) (hb : 1 ≤ b) (hb2 : b ≤ 15) (hrow : q[a.toNat * 16 + b.toNat]? = some row) (hp : row[i]? = some p) (hlen : row.length ≤ 1000) :
    Calls Try.prog 69 #[.pointer (some ⟨g, 0, none⟩), .agg #[.int .i64 a, .int .i64 b], .int .i64 i] w fun e w' => e = .returned (pkV p) ∧ NetW w' (grow F w w') g (q.set (a.toNat * 16 + b.toNat) (row.eraseIdx i)) ap ∧ Mods (fun k => k = g) w w' := by
  have hil := (List.getElem?_eq_some_iff.1 hp).1
  obtain ⟨vs, h, hin⟩ := h
  have hidx : a.toNat * 16 + b.toNat < 256 := by omega
  obtain ⟨v, hv⟩ : ∃ v, vs[a.toNat * 16 + b.toNat]? = some v := ⟨_, List.getElem?_eq_getElem (by rw [h.lv]; exact hidx)⟩
  obtain ⟨bb, c, rfl, hpk⟩ := row_pk (h.row _ _ _ hv hrow) hp
  have hu32 := Try.underlying32
  have hu28 := Try.underlying28
  have hu117 := Try.underlying117
  have hu113 := Try.underlying113
  have hu112 := Try.underlying112
  have hu50 := Try.underlying50
  have hi2 : (i : Int) < (row.length : Int) := by omega
  have hi0 : (0 : Int) ≤ (i : Int) := by omega
  have a0 : (0 : Int) ≤ a := by omega
  have a16 : a < 16 := by omega
  have b0 : (0 : Int) ≤ b := by omega
  have b16 : b < 16 := by omega
  have hB := below_alloc (Below.refl w.heap.size w) (Obj.cells #[Value.int IntKind.i64 a, Value.int IntKind.i64 b] 32)
  have hB2 := below_alloc hB (Obj.cells (pk pk0).toArray 28)
  have h2 := h.below hB2
  have hc2 := h2.cell hv
  dsimp only [pk, pk0] at hc2
  go_enter Try.func69, Try.ntmps69
  go_wp2
  go_quiet (fail)
  have hbx : ((w.alloc (Obj.cells #[Value.int IntKind.i64 a, Value.int IntKind.i64 b] 32)).alloc (Obj.cells (pk pk0).toArray 28)).heap[w.heap.size]? = some (.cells #[.int .i64 a, .int .i64 b] 32 (0, 0)) := blk_alloc (blk_new w _) _
  have hb6 : ((w.alloc (Obj.cells #[Value.int IntKind.i64 a, Value.int IntKind.i64 b] 32)).alloc (Obj.cells (pk pk0).toArray 28)).heap[w.heap.size + 1]? = some (.cells (pk pk0).toArray 28 (0, 0)) := by
    have hn := blk_new (w.alloc (Obj.cells #[Value.int IntKind.i64 a, Value.int IntKind.i64 b] 32)) (Obj.cells (pk pk0).toArray 28)
    rwa [show (w.alloc (Obj.cells #[Value.int IntKind.i64 a, Value.int IntKind.i64 b] 32)).heap.size = w.heap.size + 1 from by simp] at hn
  clear hc2
  change Exit.then _ _ Exit.normal _ (((w.alloc (Obj.cells #[Value.int IntKind.i64 a, Value.int IntKind.i64 b] 32)).alloc (Obj.cells (pk pk0).toArray 28)).drewN nq)
  have hD := pw_below_drewN (Below.refl ((w.alloc (Obj.cells #[Value.int IntKind.i64 a, Value.int IntKind.i64 b] 32)).alloc (Obj.cells (pk pk0).toArray 28)).heap.size ((w.alloc (Obj.cells #[Value.int IntKind.i64 a, Value.int IntKind.i64 b] 32)).alloc (Obj.cells (pk pk0).toArray 28))) nq
  have h3 := h2.below hD
  have hBx := (hD.block _ (Array.getElem?_eq_some_iff.1 hbx).1).trans hbx
  have hB6 := (hD.block _ (Array.getElem?_eq_some_iff.1 hb6).1).trans hb6
  have hB3 := hB2.trans (hD.mono hB2.size)
  clear hD hbx hb6 h2 hB hB2
  generalize (((w.alloc (Obj.cells #[Value.int IntKind.i64 a, Value.int IntKind.i64 b] 32)).alloc (Obj.cells (pk pk0).toArray 28)).drewN nq) = w3 at *
  obtain ⟨_, _, he, hpk3⟩ := row_pk (h3.row _ _ _ hv hrow) hp
  cases he
  go_wp2_with (first | ((with_reducible refine gate_dst (N := 22) rfl ?_); refine wpList_load_mid rfl 28 (.tmp 21) rfl bb (i * 7) (by first | rfl | simp) (pk p) _ hpk3 hu28 rfl info28s ?_) | ((with_reducible refine gate_dst (N := 8) rfl ?_); refine box_event ?hg (N := 8) ?hd (cs := (pk pk0).toArray) (t := 28) ?hr ?_; (case hd => rfl); (case hg => rfl); (case hr => go_simp; rfl); intro g8 hg8 w8 hbox8 hb8; have HG8 := Aside0.mk hg8; clear hg8) | ((with_reducible refine gate_store (t := 28) (p := 8) rfl ?_); refine wpList_store_row rfl 28 (.tmp 8) (.tmp 22) rfl g8 (pk p).toArray rfl rfl 28 (pk pk0).toArray hbox8 info28s rfl (pk_one _) ?_))
  simp only [Act.put, List.setIfInBounds_toArray, List.set_cons_zero, List.set_cons_succ]
  have hD := below_setRow hb8 (g := g8) (by have := HG8.out; omega) (pk p).toArray
  have h9 := h3.below hD
  have hx9 := (hD.block _ (Array.getElem?_eq_some_iff.1 hBx).1).trans hBx
  have h69 := (hD.block _ (Array.getElem?_eq_some_iff.1 hB6).1).trans hB6
  have h89 := setRow_heap _ _ _ (pk p).toArray _ _ hbox8
  have hB9 := hB3.trans (hD.mono hB3.size)
  clear hD hBx hB6 hB3 h3 hb8 hbox8 hpk3
  generalize w8.setRow g8 (pk p).toArray = w9 at *
  have h10 := h9.below (w1 := w9.drew) (below_drew1 (Below.refl _ _))
  have c0 : w9.drew.cell? ⟨w.heap.size, 0, none⟩ = some (.int .i64 a) := (blk_cell (blk_drew hx9) 0).trans rfl
  have c1 : w9.drew.cell? ⟨w.heap.size, 1, none⟩ = some (.int .i64 b) := (blk_cell (blk_drew hx9) 1).trans rfl
  have hcap : row.length ≤ c := by
    rcases h9.row _ _ _ hv hrow with ⟨h0, _⟩ | ⟨_, _, _, he, _, h2, _⟩
    · subst h0; cases hil
    · injection he with _ _ he; subst he; exact h2
  have k1 : (i : Int) ≤ (c : Int) := by omega
  have k2 : (i : Int) + 1 ≤ (row.length : Int) := by omega
  have k3 : (row.length : Int) ≤ (c : Int) := by omega
  have k5 : (0 : Int) ≤ (i : Int) + 1 := by omega
  have k6 : wrap64 ((i : Int) + 1) = (i : Int) + 1 := by unfold wrap64; omega
  have k7 : ((i : Int) + 1).toNat = i + 1 := by omega
  refine start_ (n := 19) (S := fun w' => w'.cell? ⟨w.heap.size, 0, none⟩ = some (.int .i64 a) ∧ w'.cell? ⟨w.heap.size, 1, none⟩ = some (.int .i64 b)) (ds := [18]) #[false, false, false, false, false, false, false, false, false, false, false, false, false, false, false, false, false, false, false] (by kernel_rfl) rfl rfl ⟨c0, c1⟩ (fun hHeld => ?_)
  refine pure_ (i := 0) (N := some 23) (v := ?_) (a' := ?_) #[true, false, false, false, false, false, false, false, false, false, false, false, false, false, false, false, false, false, false] rfl rfl (by kernel_rfl) (fun _ _ _ h => h) (Or.inl ⟨by rfl, ?_⟩) ?_ ?_
  rotate_left
  · intro w'; go_simp; with_reducible rfl
  rotate_left
  · simp only [Act.put, List.setIfInBounds_toArray, List.set_cons_zero, List.set_cons_succ, i64_w, i32_w]; rfl
  refine pure_ (i := 1) (N := some 24) (v := ?_) (a' := ?_) #[true, true, false, false, false, false, false, false, false, false, false, false, false, false, false, false, false, false, false] rfl rfl (by kernel_rfl) (fun _ _ _ h => h) (Or.inl ⟨by rfl, ?_⟩) ?_ ?_
  rotate_left
  · intro w'; go_simp; with_reducible rfl
  rotate_left
  · simp only [Act.put, List.setIfInBounds_toArray, List.set_cons_zero, List.set_cons_succ, i64_w, i32_w]; rfl
  refine take_ (i := 2) (N := some 25) (v := ?_) (a' := ?_) #[true, true, true, false, false, false, false, false, false, false, false, false, false, false, false, false, false, false, false] rfl rfl (by kernel_rfl) (fun _ _ _ h => h) (Or.inl ⟨by rfl, ?_⟩) hHeld ?_ ?_
  rotate_left
  · rintro w' ⟨s0, s1⟩; go_simp; with_reducible rfl
  rotate_left
  · simp only [Act.put, List.setIfInBounds_toArray, List.set_cons_zero, List.set_cons_succ, i64_w, i32_w]; rfl
  refine pure_ (i := 3) (N := some 26) (v := ?_) (a' := ?_) #[true, true, true, true, false, false, false, false, false, false, false, false, false, false, false, false, false, false, false] rfl rfl (by kernel_rfl) (fun _ _ _ h => h) (Or.inl ⟨by rfl, ?_⟩) ?_ ?_
  rotate_left
  · intro w'; go_simp; with_reducible rfl
  rotate_left
  · simp only [Act.put, List.setIfInBounds_toArray, List.set_cons_zero, List.set_cons_succ, i64_w, i32_w]; rfl
  refine take_ (i := 4) (N := some 27) (v := ?_) (a' := ?_) #[true, true, true, true, true, false, false, false, false, false, false, false, false, false, false, false, false, false, false] rfl rfl (by kernel_rfl) (fun _ _ _ h => h) (Or.inl ⟨by rfl, ?_⟩) hHeld ?_ ?_
  rotate_left
  · rintro w' ⟨s0, s1⟩; go_simp; with_reducible rfl
  rotate_left
  · simp only [Act.put, List.setIfInBounds_toArray, List.set_cons_zero, List.set_cons_succ, i64_w, i32_w]; rfl
  refine pure_ (i := 5) (N := some 28) (v := ?_) (a' := ?_) #[true, true, true, true, true, true, false, false, false, false, false, false, false, false, false, false, false, false, false] rfl rfl (by kernel_rfl) (fun _ _ _ h => h) (Or.inl ⟨by rfl, ?_⟩) ?_ ?_
  rotate_left
  · intro w'; go_simp; with_reducible rfl
  rotate_left
  · simp only [Act.put, List.setIfInBounds_toArray, List.set_cons_zero, List.set_cons_succ, i64_w, i32_w]; rfl
  refine pure_ (i := 6) (N := some 29) (v := ?_) (a' := ?_) #[true, true, true, true, true, true, true, false, false, false, false, false, false, false, false, false, false, false, false] rfl rfl (by kernel_rfl) (fun _ _ _ h => h) (Or.inl ⟨by rfl, ?_⟩) ?_ ?_
  rotate_left
  · intro w'; go_simp; with_reducible rfl
  rotate_left
  · simp only [Act.put, List.setIfInBounds_toArray, List.set_cons_zero, List.set_cons_succ, i64_w, i32_w]; rfl
  refine pure_ (i := 7) (N := some 30) (v := ?_) (a' := ?_) #[true, true, true, true, true, true, true, true, false, false, false, false, false, false, false, false, false, false, false] rfl rfl (by kernel_rfl) (fun _ _ _ h => h) (Or.inl ⟨by rfl, ?_⟩) ?_ ?_
  rotate_left
  · intro w'; go_simp; with_reducible rfl
  rotate_left
  · simp only [Act.put, List.setIfInBounds_toArray, List.set_cons_zero, List.set_cons_succ, i64_w, i32_w]; rfl
  refine pure_ (i := 8) (N := some 31) (v := ?_) (a' := ?_) #[true, true, true, true, true, true, true, true, true, false, false, false, false, false, false, false, false, false, false] rfl rfl (by kernel_rfl) (fun _ _ _ h => h) (Or.inl ⟨by rfl, ?_⟩) ?_ ?_
  rotate_left
  · intro w'; go_simp; with_reducible rfl
  rotate_left
  · simp only [Act.put, List.setIfInBounds_toArray, List.set_cons_zero, List.set_cons_succ, i64_w, i32_w]; rfl
  refine pure_ (i := 9) (N := some 32) (v := ?_) (a' := ?_) #[true, true, true, true, true, true, true, true, true, true, false, false, false, false, false, false, false, false, false] rfl rfl (by kernel_rfl) (fun _ _ _ h => h) (Or.inl ⟨by rfl, ?_⟩) ?_ ?_
  rotate_left
  · intro w'; go_simp; with_reducible rfl
  rotate_left
  · simp only [Act.put, List.setIfInBounds_toArray, List.set_cons_zero, List.set_cons_succ, i64_w, i32_w]; rfl
  refine pure_ (i := 10) (N := some 33) (v := ?_) (a' := ?_) #[true, true, true, true, true, true, true, true, true, true, true, false, false, false, false, false, false, false, false] rfl rfl (by kernel_rfl) (fun _ _ _ h => h) (Or.inl ⟨by rfl, ?_⟩) ?_ ?_
  rotate_left
  · intro w'; go_simp; with_reducible rfl
  rotate_left
  · simp only [Act.put, List.setIfInBounds_toArray, List.set_cons_zero, List.set_cons_succ, i64_w, i32_w]; rfl
  refine pure_ (i := 11) (N := some 34) (v := ?_) (a' := ?_) #[true, true, true, true, true, true, true, true, true, true, true, true, false, false, false, false, false, false, false] rfl rfl (by kernel_rfl) (fun _ _ _ h => h) (Or.inl ⟨by rfl, ?_⟩) ?_ ?_
  rotate_left
  · intro w'; go_simp; with_reducible rfl
  rotate_left
  · simp only [Act.put, List.setIfInBounds_toArray, List.set_cons_zero, List.set_cons_succ, i64_w, i32_w]; rfl
  refine pure_ (i := 12) (N := some 35) (v := ?_) (a' := ?_) #[true, true, true, true, true, true, true, true, true, true, true, true, true, false, false, false, false, false, false] rfl rfl (by kernel_rfl) (fun _ _ _ h => h) (Or.inl ⟨by rfl, ?_⟩) ?_ ?_
  rotate_left
  · intro w'; go_simp; with_reducible rfl
  rotate_left
  · simp only [Act.put, List.setIfInBounds_toArray, List.set_cons_zero, List.set_cons_succ, i64_w, i32_w]; rfl
  refine pure_ (i := 14) (N := some 37) (v := ?_) (a' := ?_) #[true, true, true, true, true, true, true, true, true, true, true, true, true, false, true, false, false, false, false] rfl rfl (by kernel_rfl) (fun _ _ _ h => h) (Or.inl ⟨by rfl, ?_⟩) ?_ ?_
  rotate_left
  · intro w'; go_simp; with_reducible rfl
  rotate_left
  · simp only [Act.put, List.setIfInBounds_toArray, List.set_cons_zero, List.set_cons_succ, i64_w, i32_w]; rfl
  refine pure_ (i := 15) (N := some 38) (v := ?_) (a' := ?_) #[true, true, true, true, true, true, true, true, true, true, true, true, true, false, true, true, false, false, false] rfl rfl (by kernel_rfl) (fun _ _ _ h => h) (Or.inl ⟨by rfl, ?_⟩) ?_ ?_
  rotate_left
  · intro w'; go_simp; with_reducible rfl
  rotate_left
  · simp only [Act.put, List.setIfInBounds_toArray, List.set_cons_zero, List.set_cons_succ, i64_w, i32_w]; rfl
  refine pure_ (i := 16) (N := some 39) (v := ?_) (a' := ?_) #[true, true, true, true, true, true, true, true, true, true, true, true, true, false, true, true, true, false, false] rfl rfl (by kernel_rfl) (fun _ _ _ h => h) (Or.inl ⟨by rfl, ?_⟩) ?_ ?_
  rotate_left
  · intro w'; go_simp; with_reducible rfl
  rotate_left
  · simp only [Act.put, List.setIfInBounds_toArray, List.set_cons_zero, List.set_cons_succ, i64_w, i32_w]; rfl
  refine one_ (i := 13) (N := some 36) #[true, true, true, true, true, true, true, true, true, true, true, true, true, true, true, true, true, false, false] rfl rfl (by kernel_rfl) (by decide) (fun K hK => ?_)
  have hB10 := below_drew1 hB9
  obtain ⟨v', w20, hr, HR', hg20, hat⟩ := row_out (h10.row _ _ _ hv hrow) hil hlen 50 (if c = i + 1 then some ⟨bb, 0, none⟩ else some ⟨bb, (i + 1) * 7, none⟩) (c - (i + 1)) (fun hm => if_neg (by omega))
  refine event_step (v := v') (w1 := w20) (by rfl) ?_ ?_
  · exact append_run rfl rfl rfl hr
  have hgl := (Array.getElem?_eq_some_iff.1 h10.blk).1
  have hg20' : w9.drew.grownBy w20 (Value.slice (some ⟨bb, 0, none⟩) row.length c).ownBlock := ⟨hg20.os, hg20.tape, hg20.output, hg20.size, fun k hk _ => hg20.block k hk (by simp)⟩
  have hput := h10.put hv hg20' HR' (.inr hat)
  have hblk20 := (hg20.block g hgl (by simp)).trans h10.blk
  have hc20 := (World.cell?_of_block (a := ⟨g, a.toNat * 16 + b.toNat, none⟩) (hg20.block g hgl (by simp))).trans (h10.cell hv)
  have hf20 : w20.frozen? ⟨g, a.toNat * 16 + b.toNat, none⟩ = false := blk_frozen hblk20 _
  have hx20 := (hg20.block _ (Array.getElem?_eq_some_iff.1 (blk_drew hx9)).1 (by simp)).trans (blk_drew hx9)
  have h620 := (hg20.block _ (Array.getElem?_eq_some_iff.1 (blk_drew h69)).1 (by simp)).trans (blk_drew h69)
  have h820 := (hg20.block _ (Array.getElem?_eq_some_iff.1 (blk_drew h89)).1 (by simp)).trans (blk_drew h89)
  have hB20 : Below w.heap.size w w20 := hB10.trans ⟨hg20.os, hg20.tape, hg20.output, hg20.size, fun k hk => hg20.block k (by have := hB10.size; omega) (by simp)⟩
  obtain ⟨A', c', rfl⟩ := row_form HR'
  refine hK.out _ _ ⟨(blk_cell hx20 0).trans rfl, (blk_cell hx20 1).trans rfl⟩ (fun hHeld => ?_)
  clear hK K
  refine norm_ (a' := ?_) ?_ ?_
  rotate_left
  · show Act.put _ (some 36) _ = _
    simp only [Act.put, List.setIfInBounds_toArray, List.set_cons_zero, List.set_cons_succ, i64_w, i32_w]
    rfl
  refine pure_ (i := 17) (N := some 40) (v := ?_) (a' := ?_) #[true, true, true, true, true, true, true, true, true, true, true, true, true, true, true, true, true, true, false] rfl rfl (by kernel_rfl) (fun _ _ _ h => h) (Or.inl ⟨by rfl, ?_⟩) ?_ ?_
  rotate_left
  · intro w'; go_simp; with_reducible rfl
  rotate_left
  · simp only [Act.put, List.setIfInBounds_toArray, List.set_cons_zero, List.set_cons_succ, i64_w, i32_w]; rfl
  refine last_ (i := 18) (N := none) #[true, true, true, true, true, true, true, true, true, true, true, true, true, true, true, true, true, true, true] rfl rfl (by kernel_rfl) (by decide) (fun K hK => ?_)
  refine skip_ (w1 := ?_) (by rfl) rfl ?_ ?_
  rotate_left
  · go_simp
    rfl
  refine hK.out _ _ ?_
  clear hK K
  refine done_ (by kernel_rfl) ?_
  have hne8 : g8 ≠ g := by
    rintro rfl
    rw [hblk20] at h820
    injection h820 with h820
    injection h820 with _ h820
    cases h820
  have hgw : g < w.heap.size := (Array.getElem?_eq_some_iff.1 h.blk).1
  have hne6 : w.heap.size + 1 ≠ g := by omega
  have h821 := (Below.heap_setCell w20 ⟨g, a.toNat * 16 + b.toNat, none⟩ (.slice A' (row.eraseIdx i).length c') g8 hne8).trans h820
  have h621 := (Below.heap_setCell w20 ⟨g, a.toNat * 16 + b.toNat, none⟩ (.slice A' (row.eraseIdx i).length c') (w.heap.size + 1) hne6).trans h620
  have hB21 := (Mods.of_below (F := fun k => k = g) hB20).set (p := ⟨g, a.toNat * 16 + b.toNat, none⟩) (.inl rfl) (.slice A' (row.eraseIdx i).length c')
  have hrow6 : ∀ (j : Nat) (u : Value), (vs.set (a.toNat * 16 + b.toNat) (.slice A' (row.eraseIdx i).length c'))[j]? = some u → u.ownBlock ≠ some (w.heap.size + 1) := by
    intro j u hu e
    by_cases hj : a.toNat * 16 + b.toNat = j
    · subst hj
      rw [List.getElem?_set_self (List.getElem?_eq_some_iff.1 hv).1] at hu
      injection hu with hu
      subst hu
      rcases hat with hat | ⟨m, hat, hm⟩
      · rw [hat] at e
        have := (row_lt (h.row _ _ _ hv hrow) bb rfl).1
        injection e with e
        omega
      · rw [hat] at e
        injection e with e
        have := (Array.getElem?_eq_some_iff.1 (blk_drew h69)).1
        omega
    · rw [List.getElem?_set_ne hj] at hu
      obtain ⟨ys, hq⟩ : ∃ ys, q[j]? = some ys := ⟨_, List.getElem?_eq_getElem (by rw [h.lq, ← h.lv]; exact (List.getElem?_eq_some_iff.1 hu).1)⟩
      have := (row_lt (h.row j u ys hu hq) _ e).1
      omega
  have hfoot : ∀ k, (Value.slice A' (row.eraseIdx i).length c').ownBlock = some k → F k ∨ (w.heap.size ≤ k ∧ k < w20.heap.size) := by
    intro k hk
    rcases hat with hat | ⟨b, hat, hb⟩
    · rw [hat] at hk
      injection hk with hk
      subst hk
      exact .inl (hin.2 _ _ hv bb rfl)
    · rw [hat] at hk
      injection hk with hk
      subst hk
      exact .inr ⟨Nat.le_trans hB10.size hb, (row_lt HR' _ hat).1⟩
  have hnet := hput.far_row (k := w.heap.size + 1) (pk p).toArray hne6 hrow6
  have hB22 := hB21.setRow (g := w.heap.size + 1) (.inr (by omega)) (pk p).toArray
  go_wp2_with (first | ((with_reducible refine gate_dst (N := 41) rfl ?_); refine wpList_load_row rfl 28 (.tmp 8) rfl g8 rfl 28 _ (0, 0) _ h821 hu28 rfl info28s ?_) | ((with_reducible refine gate_store (t := 28) (p := 6) rfl ?_); refine wpList_store_row rfl 28 (.tmp 6) (.tmp 41) rfl (w.heap.size + 1) (pk p).toArray rfl rfl 28 (pk pk0).toArray h621 info28s rfl (pk_one _) ?_))
  all_goals
    refine bodyPost_ret (results_cell_row rfl _ _ (w.heap.size + 1) 28 (pk p).toArray (0, 0) _ rfl (setRow_heap _ _ _ _ _ _ h621) hu28 rfl info28s) rfl ?_
    exact ⟨rfl, ⟨_, hnet, hin.put (fun k hk => .inl hk) (fun k hk => (hfoot k hk).elim .inl (fun e => .inr ⟨e.1, by simpa [World.setCell, World.setRow] using e.2⟩))⟩, hB22⟩
end Go.Proofs.Ytdibaeomepallaa.NW
/- The net, by hand: Lose, Twice, Take. -/
namespace Go.Proofs.Ytdibaeomepallaa.NW
open Go.RowKit Go.Proofs.YtdibaeomepallaaW.PrintWords Go.Proofs.YtdibaeomepallaaW.PrintLast Go.Proofs.YtdibaeomepallaaW.PrintMore Go.Proofs.Ytdibaeomepallaa.PAll
set_option linter.unusedVariables false
set_option linter.unusedSimpArgs false
set_option maxRecDepth 100000
theorem info32s : (Try.prog.info? 32).map (·.size) = some 2 := by kernel_rfl
theorem take_err {w : World} {F : Nat → Prop} {g : Nat} (a b : Int) (i e0 : Int) (he : e0 ≠ 0) (hth : ∀ w1, Below w.heap.size w w1 → Calls Try.prog 60 #[.pointer (some ⟨g, 0, none⟩), .agg #[.int .i64 a, .int .i64 b], .int .i64 i] w1 fun e w' => e = .returned (.int .i64 e0) ∧ Below w1.heap.size w1 w') :
    Calls Try.prog 24 #[.pointer (some ⟨g, 0, none⟩), .agg #[.int .i64 a, .int .i64 b], .int .i64 i] w fun e w' => e = .returned (.tuple #[.agg (pk pk0).toArray, .int .i64 e0]) ∧ Below w.heap.size w w' := by
  have hu32 := Try.underlying32
  have hu28 := Try.underlying28
  have hd : (e0 != 0) = true := bne_iff_ne.mpr he
  have hb0 := below_alloc (Below.refl w.heap.size w) (Obj.cells #[Value.int IntKind.i64 a, Value.int IntKind.i64 b] 32)
  have hb2 := below_alloc hb0 (Obj.cells (pk pk0).toArray 28)
  have hbox : ((w.alloc (Obj.cells #[Value.int IntKind.i64 a, Value.int IntKind.i64 b] 32)).alloc (Obj.cells (pk pk0).toArray 28)).heap[w.heap.size + 1]? = some (.cells (pk pk0).toArray 28 (0, 0)) := by
    have hn := blk_new (w.alloc (Obj.cells #[Value.int IntKind.i64 a, Value.int IntKind.i64 b] 32)) (Obj.cells (pk pk0).toArray 28)
    rwa [show (w.alloc (Obj.cells #[Value.int IntKind.i64 a, Value.int IntKind.i64 b] 32)).heap.size = w.heap.size + 1 from by simp] at hn
  go_enter Try.func24, Try.ntmps24
  go_wp2_with (first | ((with_reducible refine gate_callee (f := 60) rfl ?_); refine goesL_ (some 12) rfl rfl Try.func60 (by kernel_rfl) rfl #[.pointer (some ⟨g, 0, none⟩), .agg #[.int .i64 a, .int .i64 b], .int .i64 i] rfl (by (try simp only [List.map_toArray, List.map_cons, List.map_nil]); rfl) ?_; refine (hth _ hb2).mono ?_; rintro e w1 ⟨rfl, hb1⟩; refine ⟨_, rfl, ?_⟩) | ((with_reducible refine gate_store (t := 28) (p := 6) rfl ?_); refine wpList_store_row rfl 28 (.tmp 6) (.tmp 15) rfl (w.heap.size + 1) (pk pk0).toArray rfl rfl 28 (pk pk0).toArray ((hb1.block _ (by simp)).trans hbox) info28s rfl (pk_one _) ?_))
  have h6 := (hb1.block (w.heap.size + 1) (by simp)).trans hbox
  refine bodyPost_ret (results_ct rfl _ _ (w.heap.size + 1) 28 (pk pk0).toArray (0, 0) _ rfl (setRow_heap _ _ _ _ _ _ h6) hu28 rfl info28s) rfl ?_
  exact ⟨rfl, below_setRow (hb2.trans (hb1.mono hb2.size)) (by omega) _⟩
theorem NetIn.lt {w : World} {F : Nat → Prop} {g : Nat} {vs : List Value} {q : List (List Pk)} {ap : List Bool} (h1 : NetAt w g vs q ap) (h2 : NetIn F g vs) : NetIn (fun k => F k ∧ k < w.heap.size) g vs := by
  refine ⟨⟨h2.1, h1.glt⟩, fun i v hv k hk => ⟨h2.2 i v hv k hk, ?_⟩⟩
  obtain ⟨xs, hq⟩ : ∃ xs, q[i]? = some xs := ⟨_, List.getElem?_eq_getElem (by rw [h1.lq, ← h1.lv]; exact (List.getElem?_eq_some_iff.1 hv).1)⟩
  exact (row_lt (h1.row i v xs hv hq) k hk).1
theorem take_ok {w : World} {F : Nat → Prop} {g : Nat} {q : List (List Pk)} {ap : List Bool} (h : NetW w F g q ap) (a b : Int) (i : Nat) {row : List Pk} {p : Pk} (x : Bool) (ha : 1 ≤ a) (ha2 : a ≤ 15) (hb : 1 ≤ b) (hb2 : b ≤ 15) (hne : a ≠ b) (hrow : q[a.toNat * 16 + b.toNat]? = some row) (hp : row[i]? = some p) (hlen : row.length ≤ 1000) (hx : ap[a.toNat * 16 + b.toNat]? = some x) :
    Calls Try.prog 24 #[.pointer (some ⟨g, 0, none⟩), .agg #[.int .i64 a, .int .i64 b], .int .i64 i] w fun e w' => e = .returned (.tuple #[if x = true then pkV pk0 else pkV p, .int .i64 (if x = true then 12 else 0)]) ∧ NetW w' (grow F w w') g (if x = true then q else q.set (a.toNat * 16 + b.toNat) (row.eraseIdx i)) ap ∧ Mods (fun k => k = g) w w' := by
  have hth := fun w1 (h1 : NetW w1 F g q ap) => there_yes h1 a b i ha ha2 hb hb2 hne hrow
  have hil := (List.getElem?_eq_some_iff.1 hp).1
  have h0 : (if (i : Int) < 0 ∨ (row.length : Int) ≤ (i : Int) then (4 : Int) else 0) = 0 := if_neg (by omega)
  rw [h0] at hth
  obtain ⟨vs, h, hin⟩ := h
  have hgl := h.glt
  have hwl : ∀ W : World, Below w.heap.size w W → Mods (fun k => k = g) w W := fun W hb => Mods.of_below hb
  have hu32 := Try.underlying32
  have hu28 := Try.underlying28
  have hu117 := Try.underlying117
  have hu115 := Try.underlying115
  have hu114 := Try.underlying114
  have a0 : (0 : Int) ≤ a := by omega
  have a16 : a < 16 := by omega
  have b0 : (0 : Int) ≤ b := by omega
  have b16 : b < 16 := by omega
  have hB0 := below_alloc (Below.refl w.heap.size w) (Obj.cells #[Value.int IntKind.i64 a, Value.int IntKind.i64 b] 32)
  have hB := below_alloc hB0 (Obj.cells (pk pk0).toArray 28)
  have hbx : ((w.alloc (Obj.cells #[Value.int IntKind.i64 a, Value.int IntKind.i64 b] 32)).alloc (Obj.cells (pk pk0).toArray 28)).heap[w.heap.size]? = some (.cells #[.int .i64 a, .int .i64 b] 32 (0, 0)) := blk_alloc (blk_new w _) _
  have hb6 : ((w.alloc (Obj.cells #[Value.int IntKind.i64 a, Value.int IntKind.i64 b] 32)).alloc (Obj.cells (pk pk0).toArray 28)).heap[w.heap.size + 1]? = some (.cells (pk pk0).toArray 28 (0, 0)) := by
    have hn := blk_new (w.alloc (Obj.cells #[Value.int IntKind.i64 a, Value.int IntKind.i64 b] 32)) (Obj.cells (pk pk0).toArray 28)
    rwa [show (w.alloc (Obj.cells #[Value.int IntKind.i64 a, Value.int IntKind.i64 b] 32)).heap.size = w.heap.size + 1 from by simp] at hn
  go_enter Try.func24, Try.ntmps24
  go_wp2_with (first | ((with_reducible refine gate_callee (f := 60) rfl ?_); refine goesL_ (some 12) rfl rfl Try.func60 (by kernel_rfl) rfl #[.pointer (some ⟨g, 0, none⟩), .agg #[.int .i64 a, .int .i64 b], .int .i64 i] rfl (by (try simp only [List.map_toArray, List.map_cons, List.map_nil]); rfl) ?_; refine (hth _ ⟨vs, h.below hB, hin⟩).mono ?_; rintro e w11 ⟨rfl, hb11⟩; refine ⟨_, rfl, ?_⟩))
  have h11 := (h.below hB).below hb11
  have hx11 := (hb11.block _ (Array.getElem?_eq_some_iff.1 hbx).1).trans hbx
  have h611 := (hb11.block _ (Array.getElem?_eq_some_iff.1 hb6).1).trans hb6
  have hB11 := hB.trans (hb11.mono hB.size)
  have c0 : w11.cell? ⟨w.heap.size, 0, none⟩ = some (.int .i64 a) := (blk_cell hx11 0).trans rfl
  have c1 : w11.cell? ⟨w.heap.size, 1, none⟩ = some (.int .i64 b) := (blk_cell hx11 1).trans rfl
  have cb := h11.bool hx
  rw [← Nat.add_assoc] at cb
  go_quiet (fail)
  have hD := pw_below_drewN (Below.refl w11.heap.size w11) nq
  have h12 := h11.below hD
  have hx12 := (hD.block _ (Array.getElem?_eq_some_iff.1 hx11).1).trans hx11
  have h612 := (hD.block _ (Array.getElem?_eq_some_iff.1 h611).1).trans h611
  have hB12 := hB11.trans (hD.mono hB11.size)
  clear cb c0 c1 hD
  generalize w11.drewN nq = w12 at *
  cases x with
  | true =>
    go_wp2_with ((with_reducible refine gate_store (t := 28) (p := 6) rfl ?_); refine wpList_store_row rfl 28 (.tmp 6) (.tmp 27) rfl (w.heap.size + 1) (pk pk0).toArray rfl rfl 28 (pk pk0).toArray h612 info28s rfl (pk_one _) ?_)
    refine bodyPost_ret (results_ct rfl _ _ (w.heap.size + 1) 28 (pk pk0).toArray (0, 0) _ rfl (setRow_heap _ _ _ _ _ _ h612) hu28 rfl info28s) rfl ?_
    have hB := below_setRow hB12 (g := w.heap.size + 1) (by omega) (pk pk0).toArray
    exact ⟨rfl, NetW.grow ⟨vs, h, hin⟩ hB, Mods.of_below hB⟩
  | false =>
    go_wp2_with (first | ((with_reducible refine gate_dst (N := 29) rfl ?_); refine wpList_load_row rfl 32 (.tmp 4) rfl w.heap.size rfl 32 _ (0, 0) _ hx12 hu32 rfl info32s ?_) | ((with_reducible refine gate_callee (f := 69) rfl ?_); refine goesL_ (some 31) rfl rfl Try.func69 (by kernel_rfl) rfl #[.pointer (some ⟨g, 0, none⟩), .agg #[.int .i64 a, .int .i64 b], .int .i64 i] rfl (by (try simp only [List.map_toArray, List.map_cons, List.map_nil]); rfl) ?_; refine (out_ok (w := w12) (F := fun k => F k ∧ k < w.heap.size) ⟨vs, h12, hin.lt h⟩ a b i ha ha2 hb hb2 hrow hp hlen).mono ?_; rintro e w31 ⟨rfl, hn31, hb31⟩; refine ⟨_, rfl, ?_⟩) | ((with_reducible refine gate_store (t := 28) (p := 6) rfl ?_); refine wpList_store_row rfl 28 (.tmp 6) (.tmp 31) rfl (w.heap.size + 1) (pk p).toArray rfl rfl 28 (pk pk0).toArray ((hb31.block _ (Array.getElem?_eq_some_iff.1 h612).1 (by omega)).trans h612) info28s rfl (pk_one _) ?_))
    have h631 := (hb31.block _ (Array.getElem?_eq_some_iff.1 h612).1 (by omega)).trans h612
    refine bodyPost_ret (results_ct rfl _ _ (w.heap.size + 1) 28 (pk p).toArray (0, 0) _ rfl (setRow_heap _ _ _ _ _ _ h631) hu28 rfl info28s) rfl ?_
    have hM := (Mods.after_below hB12 hb31).setRow (g := w.heap.size + 1) (.inr (by omega)) (pk p).toArray
    refine ⟨rfl, ?_, hM⟩
    have hw : w.heap.size + 1 < w12.heap.size := (Array.getElem?_eq_some_iff.1 h612).1
    have hn := hn31.mods (w1 := w31.setRow (w.heap.size + 1) (pk p).toArray) (G := fun k => k = w.heap.size + 1) (Mods.setRow (Mods.refl (fun k => k = w.heap.size + 1) w31) (.inl rfl) _) (fun k _ hk e => by rcases hk with hk | hk <;> omega)
    exact hn.mono (fun k hk e => e.elim (fun e => .inl e.1) (fun e => .inr ⟨Nat.le_trans hB12.size e.1, hk⟩))
end Go.Proofs.Ytdibaeomepallaa.NW
/- The net, by hand: slices.Clone, Row. -/
namespace Go.Proofs.Ytdibaeomepallaa.NW
open Go.RowKit Go.Proofs.YtdibaeomepallaaW.PrintWords Go.Proofs.YtdibaeomepallaaW.PrintLast Go.Proofs.YtdibaeomepallaaW.PrintMore Go.Proofs.Ytdibaeomepallaa.PAll
set_option linter.unusedVariables false
set_option linter.unusedSimpArgs false
set_option maxRecDepth 100000
end Go.Proofs.Ytdibaeomepallaa.NW
/- The net, by hand: Len of any hop, Row. -/
namespace Go.Proofs.Ytdibaeomepallaa.NW
open Go.RowKit Go.Proofs.YtdibaeomepallaaW.PrintWords Go.Proofs.YtdibaeomepallaaW.PrintLast Go.Proofs.YtdibaeomepallaaW.PrintMore Go.Proofs.Ytdibaeomepallaa.PAll
set_option linter.unusedVariables false
set_option linter.unusedSimpArgs false
set_option maxRecDepth 100000
/-- May a hop be? -/
def hopB (a b : Int) : Bool := decide (1 ≤ a ∧ a ≤ 15) && decide (1 ≤ b ∧ b ≤ 15) && decide (a ≠ b)
theorem hopB_iff {a b : Int} : hopB a b = true ↔ (1 ≤ a ∧ a ≤ 15) ∧ (1 ≤ b ∧ b ≤ 15) ∧ a ≠ b := by
  unfold hopB
  simp only [Bool.and_eq_true, decide_eq_true_eq]
  exact ⟨fun h => ⟨h.1.1, h.1.2, h.2⟩, fun h => ⟨⟨h.1, h.2.1⟩, h.2.2⟩⟩
theorem node_is (n : Int) : net_node.f n = some (decide (1 ≤ n ∧ n ≤ 15)) := by
  unfold net_node.f
  by_cases h : n ≥ 1
  · rw [if_pos h]
    congr 1
    exact decide_eq_decide.2 ⟨fun e => ⟨h, e⟩, fun e => e.2⟩
  · rw [if_neg h]
    congr 1
    exact (decide_eq_false (fun e => h e.1)).symm
theorem is_is (a b : Int) : net_is.f a b = some (hopB a b) := by
  unfold net_is.f hopB
  rw [node_is a, node_is b]
  simp only [Option.bind_some]
  by_cases h1 : 1 ≤ a ∧ a ≤ 15 <;> by_cases h2 : 1 ≤ b ∧ b ≤ 15 <;> by_cases h3 : a = b <;> simp [h1, h2, h3]
def rowAt (q : List (List Pk)) (a b : Int) : List Pk := if hopB a b = true then q.getD (at2 a b) [] else []
theorem NetW.row {w : World} {F : Nat → Prop} {g : Nat} {q : List (List Pk)} {ap : List Bool} (h : NetW w F g q ap) {a b : Int} (hb : hopB a b = true) : q[a.toNat * 16 + b.toNat]? = some (rowAt q a b) := by
  obtain ⟨h1, h2, h3⟩ := hopB_iff.1 hb
  unfold rowAt at2
  rw [if_pos hb, List.getD_eq_getElem?_getD, List.getElem?_eq_getElem (by rw [h.lq]; omega)]
  rfl
theorem NetW.bool {w : World} {F : Nat → Prop} {g : Nat} {q : List (List Pk)} {ap : List Bool} (h : NetW w F g q ap) {a b : Int} (hb : hopB a b = true) : ap[a.toNat * 16 + b.toNat]? = some (ap.getD (at2 a b) false) := by
  obtain ⟨h1, h2, h3⟩ := hopB_iff.1 hb
  unfold at2
  rw [List.getD_eq_getElem?_getD, List.getElem?_eq_getElem (by rw [h.la]; omega)]
  rfl
end Go.Proofs.Ytdibaeomepallaa.NW
/- The net, by hand: Hops. -/
namespace Go.Proofs.Ytdibaeomepallaa.NW
open Go.RowKit Go.Proofs.YtdibaeomepallaaW.PrintWords Go.Proofs.YtdibaeomepallaaW.PrintLast Go.Proofs.YtdibaeomepallaaW.PrintMore Go.Proofs.Ytdibaeomepallaa.PAll
set_option linter.unusedVariables false
set_option linter.unusedSimpArgs false
set_option maxRecDepth 100000
theorem info32 : (Try.prog.info? 32).map (fun i => (i.zero, i.size, i.bytes)) = some (some (.agg #[.int .i64 0, .int .i64 0]), 2, 16) := by kernel_rfl
end Go.Proofs.Ytdibaeomepallaa.NW
/- The net, by hand: Clear. -/
namespace Go.Proofs.Ytdibaeomepallaa.NW
open Go.RowKit Go.Proofs.YtdibaeomepallaaW.PrintWords Go.Proofs.YtdibaeomepallaaW.PrintLast Go.Proofs.YtdibaeomepallaaW.PrintMore Go.Proofs.Ytdibaeomepallaa.PAll
set_option linter.unusedVariables false
set_option linter.unusedSimpArgs false
set_option maxRecDepth 100000
/-- Each row is short. -/
def Short (q : List (List Pk)) : Prop := ∀ (i : Nat) (xs : List Pk), q[i]? = some xs → xs.length ≤ 1000
end Go.Proofs.Ytdibaeomepallaa.NW
/- The net's contracts, each for all arguments: what a method answers, and which net it leaves. -/
namespace Go.Proofs.Ytdibaeomepallaa.NW
open Go.RowKit Go.Proofs.YtdibaeomepallaaW.PrintWords Go.Proofs.YtdibaeomepallaaW.PrintLast Go.Proofs.YtdibaeomepallaaW.PrintMore Go.Proofs.Ytdibaeomepallaa.PAll
set_option linter.unusedVariables false
set_option linter.unusedSimpArgs false
set_option maxRecDepth 100000
def thereE (q : List (List Pk)) (a b i : Int) : Int := if hopB a b = true then (if i < 0 ∨ ((rowAt q a b).length : Int) ≤ i then 4 else 0) else 1
def cutB (ap : List Bool) (a b : Int) : Bool := hopB a b && ap.getD (at2 a b) false
/-- The rows without a packet. -/
def delQ (q : List (List Pk)) (a b i : Int) : List (List Pk) := q.set (at2 a b) ((rowAt q a b).eraseIdx i.toNat)
def takeE (q : List (List Pk)) (ap : List Bool) (a b i : Int) : Int := if thereE q a b i = 0 then (if cutB ap a b = true then 12 else 0) else thereE q a b i
def takeP (q : List (List Pk)) (ap : List Bool) (a b i : Int) : Pk := if takeE q ap a b i = 0 then (rowAt q a b).getD i.toNat pk0 else pk0
def takeQ (q : List (List Pk)) (ap : List Bool) (a b i : Int) : List (List Pk) := if takeE q ap a b i = 0 then delQ q a b i else q
section
variable {w : World} {F : Nat → Prop} {g : Nat} {q : List (List Pk)} {ap : List Bool}
theorem short_of_cnt (hc : cnt q ≤ 1000) : Short q := fun i xs h => Nat.le_trans (cnt_row h) hc
theorem rowAt_short (hc : cnt q ≤ 1000) (a b : Int) : (rowAt q a b).length ≤ 1000 := by
  unfold rowAt
  split
  · rw [List.getD_eq_getElem?_getD]
    cases h : q[at2 a b]? with
    | none => simp
    | some xs => exact short_of_cnt hc _ _ h
  · simp
theorem NetW.gF (h : NetW w F g q ap) : F g := by
  obtain ⟨_, _, h⟩ := h
  exact h.1
theorem there_is (h : NetW w F g q ap) (a b i : Int) : Calls Try.prog 60 #[.pointer (some ⟨g, 0, none⟩), .agg #[.int .i64 a, .int .i64 b], .int .i64 i] w fun e w' => e = .returned (.int .i64 (thereE q a b i)) ∧ Below w.heap.size w w' := by
  unfold thereE
  cases hb : hopB a b with
  | false => exact there_bad g a b i (by rw [is_is, hb])
  | true =>
    obtain ⟨h1, h2, h3⟩ := hopB_iff.1 hb
    exact there_yes h a b i h1.1 h1.2 h2.1 h2.2 h3 (h.row hb)
theorem packet_at (h : NetW w F g q ap) {a b i : Int} (ht : thereE q a b i = 0) : hopB a b = true ∧ ∃ n : Nat, i = n ∧ n < (rowAt q a b).length ∧ (rowAt q a b)[n]? = some ((rowAt q a b).getD i.toNat pk0) := by
  unfold thereE at ht
  cases hb : hopB a b with
  | false => rw [hb] at ht; cases ht
  | true =>
    rw [hb, if_pos rfl] at ht
    split at ht
    · cases ht
    · rename_i hi
      obtain ⟨n, rfl⟩ := Int.eq_ofNat_of_zero_le (show 0 ≤ i by omega)
      refine ⟨rfl, n, rfl, by omega, ?_⟩
      rw [List.getD_eq_getElem?_getD, Int.toNat_natCast, List.getElem?_eq_getElem (by omega)]
      rfl
theorem take_is (h : NetW w F g q ap) (hc : cnt q ≤ 1000) (a b i : Int) : Calls Try.prog 24 #[.pointer (some ⟨g, 0, none⟩), .agg #[.int .i64 a, .int .i64 b], .int .i64 i] w fun e w' => e = .returned (.tuple #[pkV (takeP q ap a b i), .int .i64 (takeE q ap a b i)]) ∧ NetW w' (grow F w w') g (takeQ q ap a b i) ap ∧ Mods F w w' := by
  by_cases ht : thereE q a b i = 0
  · obtain ⟨hb, n, rfl, hn, hp⟩ := packet_at h ht
    obtain ⟨h1, h2, h3⟩ := hopB_iff.1 hb
    have hgF := h.gF
    have key := take_ok h a b n (ap.getD (at2 a b) false) h1.1 h1.2 h2.1 h2.2 h3 (h.row hb) hp (rowAt_short hc a b) (h.bool hb)
    refine key.mono fun e w' ⟨he, hn, hm⟩ => ⟨?_, ?_, hm.mono (fun k _ hk => by subst hk; exact hgF)⟩
    · rw [he]
      unfold takeP takeE cutB
      rw [if_pos ht, hb, Bool.true_and]
      cases ap.getD (at2 a b) false <;> rfl
    · unfold takeQ takeE cutB
      rw [if_pos ht, hb, Bool.true_and]
      cases hx : ap.getD (at2 a b) false with
      | true => rw [hx] at hn; exact hn
      | false => rw [hx] at hn; exact hn
  · have key := take_err (w := w) (F := F) (g := g) a b i _ ht (fun w1 hb => there_is (h.below hb) a b i)
    refine key.mono fun e w' ⟨he, hb⟩ => ⟨?_, ?_, Mods.of_below hb⟩
    · unfold takeP takeE
      rw [if_neg ht, if_neg ht]
      exact he
    · unfold takeQ takeE
      rw [if_neg ht, if_neg ht]
      exact h.grow hb
end
end Go.Proofs.Ytdibaeomepallaa.NW
