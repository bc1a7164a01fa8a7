/- The small methods of an end of a link; a new one; what a nil one answers. By hand. -/
import Derived.Test.YtdibaeomepallaaLh
import Derived.Carry
namespace Go.Proofs.Ytdibaeomepallaa.LK
open Go.RowKit Go.Proofs.YtdibaeomepallaaW.PrintWords Go.Proofs.YtdibaeomepallaaW.PrintLast Go.Proofs.YtdibaeomepallaaW.PrintMore Go.Proofs.Ytdibaeomepallaa.PAll Go.Proofs.Ytdibaeomepallaa.NW
set_option linter.unusedVariables false
set_option linter.unusedSimpArgs false
set_option maxRecDepth 100000
section
variable {w : World} {g m : Nat} {l : Lk} {v : Value}
theorem left_is (h : LkAt w g l v m) : Calls Try.prog 40 #[.pointer (some ⟨g, 0, none⟩)] w fun e w' => e = .returned (.int .i64 l.q.length) ∧ Below w.heap.size w w' := by
  obtain ⟨A, c, rfl, hcl, hC⟩ := Kd.R_reads h.row
  have c5 := (blk_cell h.blk 5).trans (show (lkc l (.slice A l.q.length c) m)[5]? = some (.slice A l.q.length c) from rfl)
  clear h hC
  go_enter Try.func40, Try.ntmps40
  go_wp2
  go_ret
  exact ⟨rfl, Below.refl _ _⟩
theorem base_is (h : LkAt w g l v m) : Calls Try.prog 41 #[.pointer (some ⟨g, 0, none⟩)] w fun e w' => e = .returned (.int .i64 l.base) ∧ Below w.heap.size w w' := by
  have c6 := (blk_cell h.blk 6).trans (show (lkc l v m)[6]? = some (.int .i64 l.base) from rfl)
  clear h
  go_enter Try.func41, Try.ntmps41
  go_wp2
  go_ret
  exact ⟨rfl, Below.refl _ _⟩
theorem wants_is (h : LkAt w g l v m) : Calls Try.prog 52 #[.pointer (some ⟨g, 0, none⟩)] w fun e w' => e = .returned (.int .i64 l.want) ∧ Below w.heap.size w w' := by
  have c8 := (blk_cell h.blk 8).trans (show (lkc l v m)[8]? = some (.int .i64 l.want) from rfl)
  clear h
  go_enter Try.func52, Try.ntmps52
  go_wp2
  go_ret
  exact ⟨rfl, Below.refl _ _⟩
theorem early_is (h : LkAt w g l v m) : Calls Try.prog 53 #[.pointer (some ⟨g, 0, none⟩)] w fun e w' => e = .returned (.int .i64 l.er.length) ∧ Below w.heap.size w w' := by
  have c9 := (blk_cell h.blk 9).trans (show (lkc l v m)[9]? = some (.map (some m)) from rfl)
  have hl := fun ty => h.er.len (mt := 132) Try.underlying3 Try.underlying9 Try.underlying132 ty
  clear h
  go_enter Try.func53, Try.ntmps53
  go_wp2
  go_ret
  exact ⟨rfl, Below.refl _ _⟩
end
section
variable (w : World)
end
theorem info65s : (Try.prog.info? 65).map (·.size) = some 5 := by kernel_rfl
theorem keepB_eq {w W : World} {b : Nat} (hb : Below w.heap.size w W) (h : b < w.heap.size) : W.heap[b]? = w.heap[b]? := hb.block b h
/-- Which ends may be. -/
def mayL (x : S65) : Bool := decide (1 ≤ x.f0 ∧ x.f0 ≤ 15) && decide (1 ≤ x.f2 ∧ x.f2 ≤ 15) && decide (x.f0 ≠ x.f2) && decide (1 ≤ x.f1 ∧ x.f1 ≤ 1099511627775) && decide (1 ≤ x.f3 ∧ x.f3 ≤ 1099511627775) && decide (1 ≤ x.f4 ∧ x.f4 ≤ 1099511627775)
/-- A new end. -/
def newL (x : S65) : Lk := ⟨x, [], x.f4, 0, x.f4, []⟩
set_option maxHeartbeats 4000000 in
theorem new_no (w : World) (x : S65) (h : mayL x = false) : Calls Try.prog 35 #[.agg #[.int .i64 x.f0, .int .i64 x.f1, .int .i64 x.f2, .int .i64 x.f3, .int .i64 x.f4]] w fun e w' => e = .returned (.pointer none) ∧ Below w.heap.size w w' := by
  have hu65 := Try.underlying65
  have hb0 := blk_new w (.cells #[.int .i64 x.f0, .int .i64 x.f1, .int .i64 x.f2, .int .i64 x.f3, .int .i64 x.f4] 65 (0, 0))
  have c0 := (blk_cell hb0 0).trans (show (#[.int .i64 x.f0, .int .i64 x.f1, .int .i64 x.f2, .int .i64 x.f3, .int .i64 x.f4] : Array Value)[0]? = some (.int .i64 x.f0) from rfl)
  have c1 := (blk_cell hb0 1).trans (show (#[.int .i64 x.f0, .int .i64 x.f1, .int .i64 x.f2, .int .i64 x.f3, .int .i64 x.f4] : Array Value)[1]? = some (.int .i64 x.f1) from rfl)
  have c2 := (blk_cell hb0 2).trans (show (#[.int .i64 x.f0, .int .i64 x.f1, .int .i64 x.f2, .int .i64 x.f3, .int .i64 x.f4] : Array Value)[2]? = some (.int .i64 x.f2) from rfl)
  have c3 := (blk_cell hb0 3).trans (show (#[.int .i64 x.f0, .int .i64 x.f1, .int .i64 x.f2, .int .i64 x.f3, .int .i64 x.f4] : Array Value)[3]? = some (.int .i64 x.f3) from rfl)
  have c4 := (blk_cell hb0 4).trans (show (#[.int .i64 x.f0, .int .i64 x.f1, .int .i64 x.f2, .int .i64 x.f3, .int .i64 x.f4] : Array Value)[4]? = some (.int .i64 x.f4) from rfl)
  have HB := Aside0.mk (below_alloc (Below.refl w.heap.size w) (.cells #[.int .i64 x.f0, .int .i64 x.f1, .int .i64 x.f2, .int .i64 x.f3, .int .i64 x.f4] 65 (0, 0)))
  clear hb0
  by_cases l0_ : 1 ≤ x.f0
  case neg =>
    have l0 : decide (1 ≤ x.f0) = false := decide_eq_false l0_
    clear l0_
    clear h
    go_enter Try.func35, Try.ntmps35
    go_wp2
    go_ret
    exact ⟨rfl, HB.out⟩
  have l0 : decide (1 ≤ x.f0) = true := decide_eq_true l0_
  clear l0_
  by_cases h0_ : x.f0 ≤ 15
  case neg =>
    have h0 : decide (x.f0 ≤ 15) = false := decide_eq_false h0_
    clear h0_
    clear h
    go_enter Try.func35, Try.ntmps35
    go_wp2
    go_ret
    exact ⟨rfl, HB.out⟩
  have h0 : decide (x.f0 ≤ 15) = true := decide_eq_true h0_
  clear h0_
  by_cases l1_ : 1 ≤ x.f2
  case neg =>
    have l1 : decide (1 ≤ x.f2) = false := decide_eq_false l1_
    clear l1_
    clear h
    go_enter Try.func35, Try.ntmps35
    go_wp2
    go_ret
    exact ⟨rfl, HB.out⟩
  have l1 : decide (1 ≤ x.f2) = true := decide_eq_true l1_
  clear l1_
  by_cases h1_ : x.f2 ≤ 15
  case neg =>
    have h1 : decide (x.f2 ≤ 15) = false := decide_eq_false h1_
    clear h1_
    clear h
    go_enter Try.func35, Try.ntmps35
    go_wp2
    go_ret
    exact ⟨rfl, HB.out⟩
  have h1 : decide (x.f2 ≤ 15) = true := decide_eq_true h1_
  clear h1_
  by_cases hne : x.f0 = x.f2
  · have e1 : (x.f0 == x.f2) = true := by rw [hne]; simp
    clear hne
    clear h
    go_enter Try.func35, Try.ntmps35
    go_wp2
    go_ret
    exact ⟨rfl, HB.out⟩
  · have e1 : (x.f0 == x.f2) = false := by simpa using hne
    have HNE := Aside0.mk hne
    clear hne
    by_cases l3_ : 1 ≤ x.f1
    case neg =>
      have l3 : decide (1 ≤ x.f1) = false := decide_eq_false l3_
      clear l3_
      clear h
      go_enter Try.func35, Try.ntmps35
      go_wp2
      go_ret
      exact ⟨rfl, HB.out⟩
    have l3 : decide (1 ≤ x.f1) = true := decide_eq_true l3_
    clear l3_
    by_cases h3_ : x.f1 ≤ 1099511627775
    case neg =>
      have h3 : decide (x.f1 ≤ 1099511627775) = false := decide_eq_false h3_
      clear h3_
      clear h
      go_enter Try.func35, Try.ntmps35
      go_wp2
      go_ret
      exact ⟨rfl, HB.out⟩
    have h3 : decide (x.f1 ≤ 1099511627775) = true := decide_eq_true h3_
    clear h3_
    by_cases l4_ : 1 ≤ x.f3
    case neg =>
      have l4 : decide (1 ≤ x.f3) = false := decide_eq_false l4_
      clear l4_
      clear h
      go_enter Try.func35, Try.ntmps35
      go_wp2
      go_ret
      exact ⟨rfl, HB.out⟩
    have l4 : decide (1 ≤ x.f3) = true := decide_eq_true l4_
    clear l4_
    by_cases h4_ : x.f3 ≤ 1099511627775
    case neg =>
      have h4 : decide (x.f3 ≤ 1099511627775) = false := decide_eq_false h4_
      clear h4_
      clear h
      go_enter Try.func35, Try.ntmps35
      go_wp2
      go_ret
      exact ⟨rfl, HB.out⟩
    have h4 : decide (x.f3 ≤ 1099511627775) = true := decide_eq_true h4_
    clear h4_
    by_cases l5_ : 1 ≤ x.f4
    case neg =>
      have l5 : decide (1 ≤ x.f4) = false := decide_eq_false l5_
      clear l5_
      clear h
      go_enter Try.func35, Try.ntmps35
      go_wp2
      go_ret
      exact ⟨rfl, HB.out⟩
    have l5 : decide (1 ≤ x.f4) = true := decide_eq_true l5_
    clear l5_
    by_cases h5_ : x.f4 ≤ 1099511627775
    case neg =>
      have h5 : decide (x.f4 ≤ 1099511627775) = false := decide_eq_false h5_
      clear h5_
      clear h
      go_enter Try.func35, Try.ntmps35
      go_wp2
      go_ret
      exact ⟨rfl, HB.out⟩
    have h5 : decide (x.f4 ≤ 1099511627775) = true := decide_eq_true h5_
    clear h5_
    exfalso
    unfold mayL at h
    simp only [decide_eq_true_eq] at l0 h0 l1 h1 l3 h3 l4 h4 l5 h5
    rw [decide_eq_true (And.intro l0 h0), decide_eq_true (And.intro l1 h1), decide_eq_true (And.intro l3 h3), decide_eq_true (And.intro l4 h4), decide_eq_true (And.intro l5 h5), decide_eq_true (show x.f0 ≠ x.f2 from HNE.out)] at h
    cases h
theorem new_end (w : World) (x : S65) (o : Obj) : ∃ g m, Ending.returned (.pointer (some ⟨w.heap.size + 1 + 1, 0, none⟩)) = .returned (.pointer (some ⟨g, 0, none⟩)) ∧ LkAt (((w.alloc o).alloc (.map #[] 0)).alloc (.cells #[.int .i64 x.f0, .int .i64 x.f1, .int .i64 x.f2, .int .i64 x.f3, .int .i64 x.f4, .slice none 0 0, .int .i64 x.f4, .int .i64 0, .int .i64 x.f4, .map (some (w.heap.size + 1))] 134 (0, 0))) g (newL x) (.slice none 0 0) m ∧ w.heap.size ≤ g ∧ w.heap.size ≤ m ∧ Below w.heap.size w (((w.alloc o).alloc (.map #[] 0)).alloc (.cells #[.int .i64 x.f0, .int .i64 x.f1, .int .i64 x.f2, .int .i64 x.f3, .int .i64 x.f4, .slice none 0 0, .int .i64 x.f4, .int .i64 0, .int .i64 x.f4, .map (some (w.heap.size + 1))] 134 (0, 0))) := by
  have s1 : (w.alloc o).heap.size = w.heap.size + 1 := by simp
  have s2 : ((w.alloc o).alloc (.map #[] 0)).heap.size = w.heap.size + 1 + 1 := by simp
  have hn := blk_new ((w.alloc o).alloc (.map #[] 0)) (.cells #[.int .i64 x.f0, .int .i64 x.f1, .int .i64 x.f2, .int .i64 x.f3, .int .i64 x.f4, .slice none 0 0, .int .i64 x.f4, .int .i64 0, .int .i64 x.f4, .map (some (w.heap.size + 1))] 134 (0, 0))
  rw [s2] at hn
  have he := er_new Try.prog 3 9 (w.alloc o)
  rw [s1] at he
  refine ⟨w.heap.size + 1 + 1, w.heap.size + 1, rfl, ⟨hn, Kd.R_nil _ _ _ _ _, he.other (keepB_eq (below_alloc (Below.refl _ _) _) he.lt)⟩, by omega, by omega, below_alloc (below_alloc (below_alloc (Below.refl _ _) _) _) _⟩
set_option maxHeartbeats 4000000 in
theorem new_yes (w : World) (x : S65) (h : mayL x = true) : Calls Try.prog 35 #[.agg #[.int .i64 x.f0, .int .i64 x.f1, .int .i64 x.f2, .int .i64 x.f3, .int .i64 x.f4]] w fun e w' => ∃ g m, e = .returned (.pointer (some ⟨g, 0, none⟩)) ∧ LkAt w' g (newL x) (.slice none 0 0) m ∧ w.heap.size ≤ g ∧ w.heap.size ≤ m ∧ Below w.heap.size w w' := by
  have hu65 := Try.underlying65
  have hb0 := blk_new w (.cells #[.int .i64 x.f0, .int .i64 x.f1, .int .i64 x.f2, .int .i64 x.f3, .int .i64 x.f4] 65 (0, 0))
  have c0 := (blk_cell hb0 0).trans (show (#[.int .i64 x.f0, .int .i64 x.f1, .int .i64 x.f2, .int .i64 x.f3, .int .i64 x.f4] : Array Value)[0]? = some (.int .i64 x.f0) from rfl)
  have c1 := (blk_cell hb0 1).trans (show (#[.int .i64 x.f0, .int .i64 x.f1, .int .i64 x.f2, .int .i64 x.f3, .int .i64 x.f4] : Array Value)[1]? = some (.int .i64 x.f1) from rfl)
  have c2 := (blk_cell hb0 2).trans (show (#[.int .i64 x.f0, .int .i64 x.f1, .int .i64 x.f2, .int .i64 x.f3, .int .i64 x.f4] : Array Value)[2]? = some (.int .i64 x.f2) from rfl)
  have c3 := (blk_cell hb0 3).trans (show (#[.int .i64 x.f0, .int .i64 x.f1, .int .i64 x.f2, .int .i64 x.f3, .int .i64 x.f4] : Array Value)[3]? = some (.int .i64 x.f3) from rfl)
  have c4 := (blk_cell hb0 4).trans (show (#[.int .i64 x.f0, .int .i64 x.f1, .int .i64 x.f2, .int .i64 x.f3, .int .i64 x.f4] : Array Value)[4]? = some (.int .i64 x.f4) from rfl)
  have HB := Aside0.mk (below_alloc (Below.refl w.heap.size w) (.cells #[.int .i64 x.f0, .int .i64 x.f1, .int .i64 x.f2, .int .i64 x.f3, .int .i64 x.f4] 65 (0, 0)))
  clear hb0
  unfold mayL at h
  simp only [Bool.and_eq_true, decide_eq_true_eq] at h
  obtain ⟨⟨⟨⟨⟨⟨l0_, h0_⟩, l1_, h1_⟩, hne⟩, l3_, h3_⟩, l4_, h4_⟩, l5_, h5_⟩ := h
  have l0 : decide (1 ≤ x.f0) = true := decide_eq_true l0_
  clear l0_
  have h0 : decide (x.f0 ≤ 15) = true := decide_eq_true h0_
  clear h0_
  have l1 : decide (1 ≤ x.f2) = true := decide_eq_true l1_
  clear l1_
  have h1 : decide (x.f2 ≤ 15) = true := decide_eq_true h1_
  clear h1_
  have l3 : decide (1 ≤ x.f1) = true := decide_eq_true l3_
  clear l3_
  have h3 : decide (x.f1 ≤ 1099511627775) = true := decide_eq_true h3_
  clear h3_
  have l4 : decide (1 ≤ x.f3) = true := decide_eq_true l4_
  clear l4_
  have h4 : decide (x.f3 ≤ 1099511627775) = true := decide_eq_true h4_
  clear h4_
  have l5 : decide (1 ≤ x.f4) = true := decide_eq_true l5_
  clear l5_
  have h5 : decide (x.f4 ≤ 1099511627775) = true := decide_eq_true h5_
  clear h5_
  have e1 : (x.f0 == x.f2) = false := by simpa using hne
  clear hne
  have hmm := @run_makeMap Try.prog
  go_enter Try.func35, Try.ntmps35
  go_wp2
  go_ret
  exact new_end w x (.cells #[.int .i64 x.f0, .int .i64 x.f1, .int .i64 x.f2, .int .i64 x.f3, .int .i64 x.f4] 65 (0, 0))
set_option maxHeartbeats 2000000 in
theorem ends_is {w : World} {g m : Nat} {l : Lk} {v : Value} (h : LkAt w g l v m) : Calls Try.prog 44 #[.pointer (some ⟨g, 0, none⟩)] w fun e w' => e = .returned (.agg #[.int .i64 l.x.f0, .int .i64 l.x.f1, .int .i64 l.x.f2, .int .i64 l.x.f3, .int .i64 l.x.f4]) ∧ Below w.heap.size w w' := by
  have hu65 := Try.underlying65
  obtain ⟨w1, hw1, hB1, hb1, hs1⟩ := alloc1 w (.cells #[.int .i64 0, .int .i64 0, .int .i64 0, .int .i64 0, .int .i64 0] 65 (0, 0))
  have HL1 := Aside0.mk (h.below hB1)
  have c0 : (w.alloc (.cells #[.int .i64 0, .int .i64 0, .int .i64 0, .int .i64 0, .int .i64 0] 65 (0, 0))).cell? ⟨g, 0, none⟩ = some (.int .i64 l.x.f0) := by rw [← hw1]; exact (blk_cell HL1.out.blk 0).trans rfl
  have c1 : (w.alloc (.cells #[.int .i64 0, .int .i64 0, .int .i64 0, .int .i64 0, .int .i64 0] 65 (0, 0))).cell? ⟨g, 1, none⟩ = some (.int .i64 l.x.f1) := by rw [← hw1]; exact (blk_cell HL1.out.blk 1).trans rfl
  have c2 : (w.alloc (.cells #[.int .i64 0, .int .i64 0, .int .i64 0, .int .i64 0, .int .i64 0] 65 (0, 0))).cell? ⟨g, 2, none⟩ = some (.int .i64 l.x.f2) := by rw [← hw1]; exact (blk_cell HL1.out.blk 2).trans rfl
  have c3 : (w.alloc (.cells #[.int .i64 0, .int .i64 0, .int .i64 0, .int .i64 0, .int .i64 0] 65 (0, 0))).cell? ⟨g, 3, none⟩ = some (.int .i64 l.x.f3) := by rw [← hw1]; exact (blk_cell HL1.out.blk 3).trans rfl
  have c4 : (w.alloc (.cells #[.int .i64 0, .int .i64 0, .int .i64 0, .int .i64 0, .int .i64 0] 65 (0, 0))).cell? ⟨g, 4, none⟩ = some (.int .i64 l.x.f4) := by rw [← hw1]; exact (blk_cell HL1.out.blk 4).trans rfl
  have HN := Aside0.mk hb1
  have HB1 := Aside0.mk hB1
  have HW := Aside0.mk hw1
  clear hw1 hB1 hb1 hs1 h
  have HN' := Aside0.mk (show (w.alloc (.cells #[.int .i64 0, .int .i64 0, .int .i64 0, .int .i64 0, .int .i64 0] 65 (0, 0))).heap[w.heap.size]? = some (.cells #[.int .i64 0, .int .i64 0, .int .i64 0, .int .i64 0, .int .i64 0] 65 (0, 0)) by rw [← HW.out]; exact HN.out)
  go_enter Try.func44, Try.ntmps44
  go_wp2_with (first
    | ((with_reducible refine gate_store (t := 65) (p := 2) rfl ?_); refine wpList_store_row rfl 65 (.tmp 2) (.tmp 9) rfl w.heap.size #[.int .i64 l.x.f0, .int .i64 l.x.f1, .int .i64 l.x.f2, .int .i64 l.x.f3, .int .i64 l.x.f4] rfl rfl 65 #[.int .i64 0, .int .i64 0, .int .i64 0, .int .i64 0, .int .i64 0] HN'.out info65s rfl (by rw [List.all_toArray]; rfl) ?_))
  refine bodyPost_ret (results_cell_row rfl _ _ w.heap.size 65 #[.int .i64 l.x.f0, .int .i64 l.x.f1, .int .i64 l.x.f2, .int .i64 l.x.f3, .int .i64 l.x.f4] (0, 0) _ rfl (setRow_heap _ _ _ _ _ _ HN'.out) hu65 rfl info65s) rfl ?_
  exact ⟨rfl, below_setRow (by rw [← HW.out]; exact HB1.out) (Nat.le_refl _) _⟩
end Go.Proofs.Ytdibaeomepallaa.LK
