/- The net, by hand: a packet of a row; Twice; a row without one. -/
import Derived.Test.YtdibaeomepallaaND
import Derived.StillTailTactics
import Derived.Deep.Upon
namespace Go.Proofs.Ytdibaeomepallaa.NW
open Go.RowKit Go.Proofs.YtdibaeomepallaaW.PrintWords Go.Proofs.YtdibaeomepallaaW.PrintLast Go.Proofs.YtdibaeomepallaaW.PrintMore Go.Proofs.Ytdibaeomepallaa.PAll
set_option linter.unusedVariables false
set_option linter.unusedSimpArgs false
set_option maxRecDepth 100000
/-- A packet of a row: its cells. -/
theorem row_pk {w : World} {v : Value} {xs : List Pk} (h : Row w v xs) {i : Nat} {p : Pk} (hi : xs[i]? = some p) : ∃ b c, v = .slice (some ⟨b, 0, none⟩) xs.length c ∧ w.rangeAt b (i * 7) (pk p) := by
  rcases h with ⟨rfl, A, rfl, hA⟩ | ⟨g, cap, cur, rfl, hh, h2, h3, h4, h5⟩
  · cases hi
  · refine ⟨g, cap, rfl, ?_⟩
    intro j u hu
    have hj : j < 7 := by
      have := (List.getElem?_eq_some_iff.1 hu).1
      simpa [pk] using this
    have hil := (List.getElem?_eq_some_iff.1 hi).1
    have hf : (flat xs)[i * 7 + j]? = some u := by
      clear h2 h3 h4 h5
      induction xs generalizing i with
      | nil => cases hi
      | cons x r ih =>
        cases i with
        | zero =>
          rw [List.getElem?_cons_zero] at hi
          injection hi with hi
          subst hi
          unfold flat
          rw [List.flatMap_cons, List.getElem?_append_left (by simp [pk]; omega), Nat.zero_mul, Nat.zero_add]
          exact hu
        | succ i =>
          rw [List.getElem?_cons_succ] at hi
          unfold flat
          rw [List.flatMap_cons, List.getElem?_append_right (by simp [pk]; omega)]
          have hil' : i < r.length := (List.getElem?_eq_some_iff.1 hi).1
          have := ih hi hil'
          unfold flat at this
          rw [show (i + 1) * 7 + j - (pk x).length = i * 7 + j from by simp [pk]; omega]
          exact this
    rw [← h5, List.getElem?_take] at hf
    split at hf
    · unfold World.cell?
      simp only [hh]
      simpa using hf
    · cases hf
theorem row_erase (xs : List Pk) (i : Nat) : xs.eraseIdx i = xs.take i ++ xs.drop (i + 1) := by
  rw [List.eraseIdx_eq_take_drop_succ]
/-- A packet that lies there is sent once more. -/
theorem twice_ok {w : World} {F : Nat → Prop} {g : Nat} {q : List (List Pk)} {ap : List Bool} (h : NetW w F g q ap) (a b : Int) (i : Nat) {row : List Pk} {p : Pk} (ha : 1 ≤ a) (ha2 : a ≤ 15) (hb : 1 ≤ b) (hb2 : b ≤ 15) (hne : a ≠ b) (hrow : q[a.toNat * 16 + b.toNat]? = some row) (hp : row[i]? = some p) (Q : Ending → World → Prop)
    (hsend : ∀ w1, NetW w1 F g q ap → Below w.heap.size w w1 → Calls Try.prog 17 #[.pointer (some ⟨g, 0, none⟩), pkV p] w1 Q) (hQ : ∀ e w1, Q e w1 → ∃ n : Int, e = .returned (.int .i64 n)) :
    Calls Try.prog 19 #[.pointer (some ⟨g, 0, none⟩), .agg #[.int .i64 a, .int .i64 b], .int .i64 i] w Q := by
  have hth := fun w1 (h1 : NetW w1 F g q ap) => there_yes h1 a b i ha ha2 hb hb2 hne hrow
  have hil := (List.getElem?_eq_some_iff.1 hp).1
  obtain ⟨vs, h, hin⟩ := h
  have hidx : a.toNat * 16 + b.toNat < 256 := by omega
  obtain ⟨v, hv⟩ : ∃ v, vs[a.toNat * 16 + b.toNat]? = some v := ⟨_, List.getElem?_eq_getElem (by rw [h.lv]; exact hidx)⟩
  have hu32 := Try.underlying32
  have hu28 := Try.underlying28
  have hu117 := Try.underlying117
  have hu113 := Try.underlying113
  have hu112 := Try.underlying112
  have hB := below_alloc (Below.refl w.heap.size w) (Obj.cells #[Value.int IntKind.i64 a, Value.int IntKind.i64 b] 32)
  have hbox := blk_new w (Obj.cells #[Value.int IntKind.i64 a, Value.int IntKind.i64 b] 32)
  have h0 : (if (i : Int) < 0 ∨ (row.length : Int) ≤ (i : Int) then (4 : Int) else 0) = 0 := if_neg (by omega)
  rw [h0] at hth
  go_enter Try.func19, Try.ntmps19
  go_wp2_with ((with_reducible refine gate_callee (f := 60) rfl ?_); refine goesL_ (some 11) rfl rfl Try.func60 (by kernel_rfl) rfl #[.pointer (some ⟨g, 0, none⟩), .agg #[.int .i64 a, .int .i64 b], .int .i64 i] rfl (by (try simp only [List.map_toArray, List.map_cons, List.map_nil]); rfl) ?_; refine (hth _ ⟨vs, h.below hB, hin⟩).mono ?_; rintro e w11 ⟨rfl, hb11⟩; refine ⟨_, rfl, ?_⟩)
  have hbox11 := (hb11.block w.heap.size (by simp)).trans hbox
  have h11 := ((h.below hB).below hb11).below (w1 := w11.drew) (below_drew1 (Below.refl _ _))
  obtain ⟨bb, c, rfl, hpk⟩ := row_pk (h11.row _ _ _ hv hrow) hp
  have c0 : w11.drew.cell? ⟨w.heap.size, 0, none⟩ = some (.int .i64 a) := (blk_cell (blk_drew hbox11) 0).trans rfl
  have c1 : w11.drew.cell? ⟨w.heap.size, 1, none⟩ = some (.int .i64 b) := (blk_cell (blk_drew hbox11) 1).trans rfl
  have cr := h11.cell hv
  have e0 := hpk 0 _ rfl
  have e1 := hpk 1 _ rfl
  have e2 := hpk 2 _ rfl
  have e3 := hpk 3 _ rfl
  have e4 := hpk 4 _ rfl
  have e5 := hpk 5 _ rfl
  have e6 := hpk 6 _ rfl
  rw [Nat.add_zero] at e0
  have hi2 : (i : Int) < (row.length : Int) := by omega
  have hi0 : (0 : Int) ≤ (i : Int) := by omega
  have a0 : (0 : Int) ≤ a := by omega
  have a16 : a < 16 := by omega
  have b0 : (0 : Int) ≤ b := by omega
  have b16 : b < 16 := by omega
  go_still_tail 14, (by kernel_rfl)
  change wpList _ _ _ _ _ w11.drew
  have hB1 := below_drew1 (hB.trans (hb11.mono hB.size))
  refine goesL_ (some 29) rfl rfl Try.func17 (by kernel_rfl) rfl #[.pointer (some ⟨g, 0, none⟩), pkV p] rfl (by (try simp only [List.map_toArray, List.map_cons, List.map_nil]); rfl) ?_
  refine (hsend w11.drew ⟨_, h11, hin⟩ hB1).mono ?_
  intro e w29 hq
  obtain ⟨n, rfl⟩ := hQ e w29 hq
  refine ⟨_, rfl, ?_⟩
  simp only [Act.put, List.setIfInBounds_toArray, List.set_cons_zero, List.set_cons_succ]
  go_wp2
  exact hq
theorem nothing_run (w : World) (ty : TypeId) (b : Addr) (n c2 : Nat) (A : Option Addr) : (Builtin.append_ #[50, 50] ty #[.slice (some b) n n, .slice A 0 c2]).run Try.prog w = .ok (.slice (some b) n n) w := by
  obtain ⟨i, hi, he⟩ := Option.map_eq_some_iff.1 info28
  have ht := Try.underlying50
  refine run_append_nothing w 50 50 ty 28 i ht hi (some b) n n (Nat.le_refl _) (.slice A 0 c2) ⟨.inl ⟨28, ht⟩, ?_, ?_, ?_, by simp, by simp⟩
  · intro w'; cases A <;> simp [Builtin.lenOf]
  · cases A <;> simp [Builtin.firstCells, loadCells, loadCellsFrom]
  · cases A <;> simp [Builtin.firstCells, loadCells, loadCellsFrom]
/-- r[:i:i] with what stands behind i: the row without i. -/
theorem row_out {w : World} {bb c : Nat} {xs : List Pk} (HR : Row w (.slice (some ⟨bb, 0, none⟩) xs.length c) xs) {i : Nat} (hi : i < xs.length) (hlen : xs.length ≤ 1000) (ty : TypeId) (A : Option Addr) (c2 : Nat) (hA : i + 1 < xs.length → A = some ⟨bb, (i + 1) * 7, none⟩) :
    ∃ v' w', (Builtin.append_ #[50, 50] ty #[.slice (some ⟨bb, 0, none⟩) i i, .slice A (xs.length - (i + 1)) c2]).run Try.prog w = .ok v' w' ∧ Row w' v' (xs.eraseIdx i) ∧ w.grownBy w' none ∧ (v'.ownBlock = some bb ∨ ∃ b, v'.ownBlock = some b ∧ w.heap.size ≤ b) := by
  obtain ⟨inf, hinf, he⟩ := Option.map_eq_some_iff.1 info28
  have hz : inf.zero = some _ := congrArg (·.1) he
  have hsz : inf.size = 7 := congrArg (·.2.1) he
  have hby : inf.bytes = 64 := congrArg (·.2.2) he
  have ht := Try.underlying50
  rcases HR with ⟨h0, _⟩ | ⟨g, cap, cur, hv, hh, h2, h3, h4, h5⟩
  · subst h0; cases hi
  injection hv with hv1 _ hv2
  injection hv1 with hv1
  injection hv1 with hv1
  subst hv1
  subst hv2
  have htk : (xs.take i).length = i := by rw [List.length_take]; omega
  have hfl : flat (xs.take i) = (flat xs).take (i * 7) := by
    conv => rhs; rw [← List.take_append_drop i xs, flat_append]
    rw [List.take_left' (by rw [flat_len, htk])]
  have hcur : cur.toList.take (i * 7) = flat (xs.take i) := by
    rw [hfl, ← h5, List.take_take, Nat.min_eq_left (by omega)]
  by_cases hm : i + 1 < xs.length
  · obtain rfl := hA hm
    have hl2 : (xs.drop (i + 1)).length = xs.length - (i + 1) := List.length_drop
    have hfe : flat (xs.eraseIdx i) = flat (xs.take i) ++ flat (xs.drop (i + 1)) := by rw [row_erase, flat_append]
    have hle : (xs.eraseIdx i).length = i + (xs.length - (i + 1)) := by rw [row_erase, List.length_append, htk, hl2]
    obtain ⟨v', w', hr, ho, hg⟩ := run_append_arg_grows (P := Try.prog) (w := w) 50 ty 28 inf _ 7 64 ht hinf hz hsz hby rfl (by omega) ⟨bb, 0, none⟩ i i (flat (xs.take i)) (by rw [flat_len, htk]) (row_cells (n := 0) hh (by rw [htk]; exact hcur)) ⟨bb, (i + 1) * 7, none⟩ (xs.length - (i + 1)) c2 (flat (xs.drop (i + 1))) (by rw [flat_len, hl2]) (by
      intro j u hu
      have hj := (List.getElem?_eq_some_iff.1 hu).1
      rw [Addr.add_mid]
      have hx : (flat xs)[(i + 1) * 7 + j]? = some u := by
        conv => lhs; rw [← List.take_append_drop (i + 1) xs, flat_append]
        have hq : (flat (xs.take (i + 1))).length = (i + 1) * 7 := by rw [flat_len, List.length_take, Nat.min_eq_left (by omega)]
        rw [List.getElem?_append_right (by rw [hq]; omega), hq, Nat.add_sub_cancel_left]
        exact hu
      have := row_cells (n := 0) hh h5 ((i + 1) * 7 + j) u hx
      rw [Addr.add_mid, Nat.zero_add] at this
      exact this) (by omega) (by unfold maxLen; omega) (by omega)
    refine ⟨v', w', hr, row_of_own (by rw [hle, hfe]; exact own_weaken ho (Nat.zero_le _)), hg, ?_⟩
    obtain ⟨g', cap', he, hb', _⟩ := ho.form (by omega)
    exact .inr ⟨g', by rw [he]; simp [Value.ownBlock], hb'⟩
  · have h0 : xs.length - (i + 1) = 0 := by omega
    have he : xs.eraseIdx i = xs.take i := by rw [row_erase, List.drop_of_length_le (by omega), List.append_nil]
    refine ⟨_, w, by rw [h0]; exact nothing_run w ty _ _ _ _, ?_, ⟨rfl, rfl, rfl, Nat.le_refl _, fun _ _ _ => rfl⟩, .inl rfl⟩
    rw [he]
    refine .inr ⟨bb, i, cur, by rw [htk], hh, by rw [htk]; exact Nat.le_refl _, by omega, .inr htk, by rw [htk]; exact hcur⟩
end Go.Proofs.Ytdibaeomepallaa.NW
