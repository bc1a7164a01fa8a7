-- Written by a program of this session over the kit's printer (with contracts of the session's own).
import Derived.Test.YtpdalofhekmbeaaPViewReadsx0
import Derived.Test.YtpdalofhekmbeaaPViewReadsx12
namespace Go.Proofs.Ytpdalofhekmbeaa.PViewReads
open Go.RowKit Go.Proofs.YtpdalofhekmbeaaW.PrintWords Go.Proofs.YtpdalofhekmbeaaW.PrintLast Go.Proofs.YtpdalofhekmbeaaW.PrintMore
attribute [local go_sem] max2_int min2_int max_two min_two max_three min_three max_four min_four   -- for this text's walks alone
set_option linter.unusedVariables false
set_option linter.unusedSimpArgs false

/-! ### caduceusref01_Take: function 42 -/
mutual
def caduceusref01_Take.l0 : Nat → ByteArray → List Int → Int → Option ((List (S81)) × ByteArray × Int)
 | 0, _, _, _ => none
 | k + 1, x0, x1, x5 => if x5 < (x1.length : Int) then (if 0 ≤ x5 then (if (rd x1 x5) < 1 then none else (if (rd x1 x5) > 4 then none else (caduceusref01_Take.l0 k x0 x1 (wrap64 (x5 + 1))))) else (none)) else (caduceusref01_Take.l1 k x1 0 ([] : List (S81)) x0 0)
def caduceusref01_Take.l1 : Nat → List Int → Int → List (S81) → ByteArray → Int → Option ((List (S81)) × ByteArray × Int)
 | 0, _, _, _, _, _ => none
 | k + 1, x1, x7, x327000, x327001, x327002 => if x7 < (x1.length : Int) then (if 0 ≤ x7 then ((caduceusref01_take.f k x327001 (rd x1 x7)).bind fun bt328 => (if bt328.2.2.2 = 0 then (if x327000.length < 4398046511104 then (caduceusref01_Take.l1 k x1 (wrap64 (x7 + 1)) (x327000 ++ [(⟨rd x1 x7, bt328.1, bt328.2.1⟩ : S81)]) bt328.2.2.1 x327002) else (none)) else (some (([] : List (S81)), (⟨#[]⟩ : ByteArray), bt328.2.2.2)))) else (none)) else (some (x327000, x327001, x327002))
end
def caduceusref01_Take.f (k : Nat) (a0 : ByteArray) (l1 : List Int) : Option ((List (S81)) × ByteArray × Int) := if (l1.length : Int) > 4096 then none else (caduceusref01_Take.l0 k a0 l1 0)
theorem caduceusref01_Take.mono_l : ∀ k, (∀ y0 y1 y2, LeO (caduceusref01_Take.l0 k y0 y1 y2) (caduceusref01_Take.l0 (k + 1) y0 y1 y2)) ∧ (∀ y0 y1 y2 y3 y4, LeO (caduceusref01_Take.l1 k y0 y1 y2 y3 y4) (caduceusref01_Take.l1 (k + 1) y0 y1 y2 y3 y4))
 | 0 => ⟨fun _ _ _ r h => by simp [caduceusref01_Take.l0] at h, fun _ _ _ _ _ r h => by simp [caduceusref01_Take.l1] at h⟩
 | k + 1 => by
  obtain ⟨ih0, ih1⟩ := caduceusref01_Take.mono_l k
  refine ⟨?_, ?_⟩
  ·intro y0 y1 y2
   unfold caduceusref01_Take.l0
   repeat' first
   | (with_reducible exact ih0 _ _ _)
   | (with_reducible exact ih1 _ _ _ _ _)
   | (with_reducible exact LeO.refl _)
   | (with_reducible refine LeO.ite ?_ ?_)

  ·intro y0 y1 y2 y3 y4
   unfold caduceusref01_Take.l1
   repeat' first
   | (with_reducible exact ih1 _ _ _ _ _)
   | (with_reducible exact caduceusref01_take.mono _ _ _)
   | (with_reducible exact LeO.refl _)
   | (with_reducible refine LeO.ite ?_ ?_)
   | (with_reducible refine LeO.bind ?_ (fun _ => ?_))

theorem caduceusref01_Take.mono : ∀ a0 a1 k, LeO (caduceusref01_Take.f k a0 a1) (caduceusref01_Take.f (k + 1) a0 a1) := by
 intro a0 a1 k
 obtain ⟨ih0, ih1⟩ := caduceusref01_Take.mono_l k
 unfold caduceusref01_Take.f
 repeat' first
   | (with_reducible exact ih0 _ _ _)
   | (with_reducible exact LeO.refl _)
   | (with_reducible refine LeO.ite ?_ ?_)

def caduceusref01_Take.T12 : Bool × List (List Nat × List Nat) := (true, [([], []), ([0], [0]), ([], []), ([], []), ([2, 3], [2, 3]), ([4], [4]), ([1, 5], [1, 5]), ([], []), ([7, 6, 6, 0, 1, 2, 3, 4, 5, 6, 7], [6, 7])])
def caduceusref01_Take.B12 : List Nat := [0, 1, 0, 0, 12, 28, 63, 0, 255]
theorem caduceusref01_Take.tab12 : rtab .any (opsOf Try.f42 12) = caduceusref01_Take.T12 := by kernel_rfl
theorem caduceusref01_Take.bits12 : waitsOk caduceusref01_Take.T12.2 caduceusref01_Take.B12 = true := by kernel_rfl
def caduceusref01_Take.T15 : Bool × List (List Nat × List Nat) := (true, [([], []), ([0], [0]), ([], []), ([], []), ([2, 3], [2, 3]), ([4], [4]), ([], []), ([6], [6]), ([], []), ([8], [8]), ([5, 7, 9], [5, 7, 9]), ([10], [10]), ([1, 11], [1, 11]), ([0, 1, 2, 3, 4, 5, 6, 7, 8, 9, 10, 11, 12], []), ([13, 12, 12, 0, 1, 2, 3, 4, 5, 6, 7, 8, 9, 10, 11, 12], [12, 13])])
def caduceusref01_Take.B15 : List Nat := [0, 1, 0, 0, 12, 28, 0, 64, 0, 256, 1020, 2044, 4095, 8191, 16383]
theorem caduceusref01_Take.tab15 : rtab .any (opsOf Try.f42 15) = caduceusref01_Take.T15 := by kernel_rfl
theorem caduceusref01_Take.bits15 : waitsOk caduceusref01_Take.T15.2 caduceusref01_Take.B15 = true := by kernel_rfl
set_option maxHeartbeats 8000000 in
set_option maxRecDepth 100000 in
theorem caduceusref01_Take.calls (k : Nat) (a0 : ByteArray) (A1 : Option Addr) (c1 : Nat) (l1 : List Int) (r1 : List (S81)) (r2 : ByteArray) (r3 : Int) (w : World) (hr1 : Kd.C (Kd.int .i64) w A1 l1.length l1) (hc1 : l1.length ≤ c1) (h : caduceusref01_Take.f k a0 l1 = some (r1, r2, r3)) :
  Calls Try.prog 42 #[.string a0, .slice A1 l1.length c1] w fun e w' => ∃ v0_ : Value, e = .returned (.agg #[v0_, .string r2, .int .i64 r3]) ∧ Kd.R k81 81 w' w.heap.size (fun _ => True) v0_ r1 ∧ Below w.heap.size w w' := by
 have hu79 := Try.underlying79
 have hu93 := Try.underlying93
 have hu81 := Try.underlying81
 have HR1 := Aside0.mk hr1
 have HC1 := Aside0.mk hc1
 clear hr1 hc1
 have HB := Aside0.mk (Below.refl w.heap.size w)
 have H : (if (l1.length : Int) > 4096 then none else (caduceusref01_Take.l0 k a0 l1 0)) = some (r1, r2, r3) := h
 clear h
 by_cases c3 : (l1.length : Int) > 4096
 ·rw [if_pos c3] at H
  cases H
 ·rw [if_neg c3] at H
  have c3b0 : decide (4096 < (l1.length : Int)) = false := decide_eq_false c3
  have c3b1 : decide (4096 < l1.length) = false := decide_eq_false (by omega)
  clear c3
  have H' := Aside0.mk H
  clear H
  go_enter Try.func42, Try.ntmps42
  go_wp2_with (first | ((with_reducible refine gate_dst (N := 4) rfl ?_); refine box_event ?hg (N := 4) ?hd (cs := #[.slice none 0 0, .string (⟨#[]⟩ : ByteArray), .int .i64 0]) (t := 79) ?hr ?_; (case hd => rfl); (case hg => rfl); (case hr => first | (go_simp; done) ); intro gb323 hg w6 hbox hb; have n0_ := Aside0.mk (below_step (by repeat (first | (with_reducible first | exact HB.out ) )) hb); have n1_ := Aside0.mk (hbox); have n2_ := Aside0.mk ((by rw [hg]; exact (below_size (by repeat (first | (with_reducible first | exact HB.out ) ))) : w.heap.size ≤ gb323)); have n3_ := Aside0.mk ((by rw [hg]; exact (below_size (by repeat (first | (with_reducible first | exact HB.out ) ))) : w.heap.size ≤ gb323)); clear HB; have HB := n0_; have BK323 := n1_; have GW323 := n2_; have GE323 := n3_; clear n0_ n1_ n2_ n3_; clear hb hbox hg))
  go_loopg [5] k (fun kq v5 w' => ∃ (x5_1 : Int) (x324001_1 : ByteArray) (x324002_1 : Int), v5 = .int .i64 x5_1 ∧ Aside0 (caduceusref01_Take.l0 kq a0 l1 x5_1 = some (r1, r2, r3)) ∧ Aside0 (kq ≤ k) ∧ Aside0 (w'.heap[gb323]? = some (.cells #[(.slice none 0 0), .string x324001_1, .int .i64 x324002_1] 79 (0, 0))) ∧ Aside0 (Below w.heap.size w w'))
  case atStart => exact ⟨(0), ((⟨#[]⟩ : ByteArray)), (0), (by first | rfl ), H', ⟨Nat.le_refl _⟩, ⟨by (with_reducible repeat (fail)); exact BK323.out⟩, ⟨by repeat (first | (with_reducible first | exact HB.out ) )⟩⟩
  case round =>
   clear H'
   try clear c1
   try clear p2
   try clear c3
   try clear c3b0
   try clear c3b1
   try clear c4
   try clear hcz5_0
   try clear hcz5_1
   try clear hcz5_2
   try clear hfz5_0
   try clear hfz5_1
   try clear hfz5_2
   obtain ⟨x5_1, x324001_1, x324002_1, rfl, HA, HK1, BK323, HB⟩ := hrel
   cases gk with
   | zero => exact absurd HA.out (by simp [caduceusref01_Take.l0])
   | succ k1 =>
    have H := HA.out
    clear HA
    simp only [caduceusref01_Take.l0] at H
    by_cases c7 : x5_1 < (l1.length : Int)
    ·rw [if_pos c7] at H
     have c7b0 : decide (x5_1 < (l1.length : Int)) = true := decide_eq_true c7
     clear c7
     by_cases c8 : 0 ≤ x5_1
     ·rw [if_pos c8] at H
      have c8b0 : decide (0 ≤ x5_1) = true := decide_eq_true c8
      clear c8
      by_cases c9 : (rd l1 x5_1) < 1
      ·rw [if_pos c9] at H
       cases H
      ·rw [if_neg c9] at H
       have c9b0 : decide ((rd l1 x5_1) < 1) = false := decide_eq_false c9
       clear c9
       by_cases c11 : (rd l1 x5_1) > 4
       ·rw [if_pos c11] at H
        cases H
       ·rw [if_neg c11] at H
        have c11b0 : decide (4 < (rd l1 x5_1)) = false := decide_eq_false c11
        clear c11
        have H' := Aside0.mk H
        clear H
        have p324 : 0 ≤ (x5_1 : Int) := of_decide_eq_true (by first | (with_reducible assumption) )
        have q324 : x5_1 < (l1.length : Int) := of_decide_eq_true (by first | (with_reducible assumption) )
        obtain ⟨ad324, e324, hx324_0⟩ := Kd.at_int HR1.out x5_1 p324 q324
        cases e324
        replace hx324_0 := (HB.out.cell (World.block_lt_of_cell? w _ hx324_0)).trans hx324_0
        replace p324 := eq_true p324
        replace q324 := eq_true q324
        have p325 : 0 ≤ (x5_1 : Int) := of_decide_eq_true (by first | (with_reducible assumption) )
        have q325 : x5_1 < (l1.length : Int) := of_decide_eq_true (by first | (with_reducible assumption) )
        obtain ⟨ad325, e325, hx325_0⟩ := Kd.at_int HR1.out x5_1 p325 q325
        obtain rfl : ad324 = ad325 := (by injection e325)
        replace hx325_0 := (HB.out.cell (World.block_lt_of_cell? w _ hx325_0)).trans hx325_0
        replace p325 := eq_true p325
        replace q325 := eq_true q325
        go_wp2
        go_roundg k1
        case measure => have := HK1.out; omega
        case rel => exact ⟨(wrap64 (x5_1 + 1)), (x324001_1), (x324002_1), (by first | rfl ), H', ⟨by have := HK1.out; omega⟩, ⟨by (with_reducible repeat (fail)); exact BK323.out⟩, ⟨by repeat (first | (with_reducible first | exact HB.out ) )⟩⟩
     ·rw [if_neg c8] at H
      exact absurd H (by simp)
    ·rw [if_neg c7] at H
     have c7b0 : decide (x5_1 < (l1.length : Int)) = false := decide_eq_false c7
     clear c7
     have H' := Aside0.mk H
     clear H
     go_wp2_with (first | ((with_reducible refine gate_dst (N := 6) rfl ?_); refine box_event ?hg (N := 6) ?hd (cs := #[.slice none 0 0, .string (⟨#[]⟩ : ByteArray), .int .i64 0]) (t := 79) ?hr ?_; (case hd => rfl); (case hg => rfl); (case hr => first | (go_simp; done) ); intro gb326 hg w13 hbox hb; have n0_ := Aside0.mk (blk_below (g := gb323) (o := .cells #[.slice none 0 0, .string x324001_1, .int .i64 x324002_1] 79 (0, 0)) (by (with_reducible repeat (fail)); exact BK323.out) hb); have n1_ := Aside0.mk (below_step (by repeat (first | (with_reducible first | exact HB.out ) )) hb); have n2_ := Aside0.mk (hbox); have n3_ := Aside0.mk ((by rw [hg]; exact (below_size (by repeat (first | (with_reducible first | exact HB.out ) ))) : w.heap.size ≤ gb326)); have n4_ := Aside0.mk ((by rw [hg]; exact (below_size (by repeat (first | (with_reducible first | exact HB.out ) ))) : w.heap.size ≤ gb326)); have n5_ := Aside0.mk ((by rw [hg]; exact Nat.ne_of_lt (blk_lt (g := gb323) (o := .cells #[.slice none 0 0, .string x324001_1, .int .i64 x324002_1] 79 (0, 0)) (by (with_reducible repeat (fail)); exact BK323.out)) : gb323 ≠ gb326)); have n6_ := Aside0.mk ((by rw [hg]; exact Nat.ne_of_gt (blk_lt (g := gb323) (o := .cells #[.slice none 0 0, .string x324001_1, .int .i64 x324002_1] 79 (0, 0)) (by (with_reducible repeat (fail)); exact BK323.out)) : gb326 ≠ gb323)); clear BK323; clear HB; have BK323 := n0_; have HB := n1_; have BK326 := n2_; have GW326 := n3_; have GE326 := n4_; have NB323_326 := n5_; have NB326_323 := n6_; clear n0_ n1_ n2_ n3_ n4_ n5_ n6_; clear hb hbox hg; have hnb14 := NB326_323.out; have hnc14 := NB323_326.out; have hcz15_0 : w13.cell? ⟨gb326, 0, none⟩ = some (.slice none 0 0) := (blk_cell BK326.out 0).trans rfl; have hcz15_1 : w13.cell? ⟨gb326, 1, none⟩ = some (.string (⟨#[]⟩ : ByteArray)) := (blk_cell BK326.out 1).trans rfl; have hcz15_2 : w13.cell? ⟨gb326, 2, none⟩ = some (.int .i64 0) := (blk_cell BK326.out 2).trans rfl; have hfz15_0 := blk_frozen BK326.out 0; have hfz15_1 := blk_frozen BK326.out 1; have hfz15_2 := blk_frozen BK326.out 2))
     go_loopg [7] k1 (fun kq v7 w' => ∃ (x7_2 : Int) (x324001_2 : ByteArray) (x324002_2 : Int) (x327000_2 : List (S81)) (x327001_2 : ByteArray) (u327000 : Value), v7 = .int .i64 x7_2 ∧ Aside0 (caduceusref01_Take.l1 kq l1 x7_2 x327000_2 x327001_2 0 = some (r1, r2, r3)) ∧ Aside0 (kq ≤ k1) ∧ Aside0 (Kd.R k81 81 w' w.heap.size (fun _ => True) u327000 x327000_2) ∧ Aside0 (w'.heap[gb323]? = some (.cells #[(.slice none 0 0), .string x324001_2, .int .i64 x324002_2] 79 (0, 0))) ∧ Aside0 (w'.heap[gb326]? = some (.cells #[u327000, .string x327001_2, .int .i64 0] 79 (0, 0))) ∧ Aside0 (Below w.heap.size w w'))
     case atStart => exact ⟨(0), (x324001_1), (x324002_1), (([] : List (S81))), (a0), (.slice none 0 0), (by first | rfl ), H', ⟨Nat.le_refl _⟩, ⟨by first | exact Kd.R_nil _ _ _ _ _ ⟩, ⟨by (with_reducible repeat (fail)); refine blk_far ?_ NB323_326.out _; (with_reducible repeat (fail)); refine blk_far ?_ NB323_326.out _; (with_reducible repeat (fail)); refine blk_far ?_ NB323_326.out _; (with_reducible repeat (fail)); exact BK323.out⟩, ⟨by (with_reducible repeat (fail)); refine blk_put (cs := #[.slice none 0 0, .string a0, .int .i64 0]) ?_ 2 _ rfl; (with_reducible repeat (fail)); refine blk_put (cs := #[.slice none 0 0, .string (⟨#[]⟩ : ByteArray), .int .i64 0]) ?_ 1 _ rfl; (with_reducible repeat (fail)); refine blk_put (cs := #[.slice none 0 0, .string (⟨#[]⟩ : ByteArray), .int .i64 0]) ?_ 0 _ rfl; (with_reducible repeat (fail)); exact BK326.out⟩, ⟨by repeat (first | (with_reducible first | exact HB.out | refine below_set ?_ GE326.out) )⟩⟩
     case round =>
      clear H'
      try clear c1
      try clear p2
      try clear c3
      try clear c3b0
      try clear c3b1
      try clear p3
      try clear q3
      try clear hx3
      try clear c4
      try clear p6
      try clear c7
      try clear c7b0
      try clear c8
      try clear c8b0
      try clear c9
      try clear c9b0
      try clear c11
      try clear c11b0
      try clear c14
      try clear hcz10_0
      try clear hcz10_1
      try clear hcz10_2
      try clear hcz12_0
      try clear hcz12_1
      try clear hcz12_2
      try clear hcz15_0
      try clear hcz15_1
      try clear hcz15_2
      try clear hcz5_0
      try clear hcz5_1
      try clear hcz5_2
      try clear hfz10_0
      try clear hfz10_1
      try clear hfz10_2
      try clear hfz12_0
      try clear hfz12_1
      try clear hfz12_2
      try clear hfz15_0
      try clear hfz15_1
      try clear hfz15_2
      try clear hfz5_0
      try clear hfz5_1
      try clear hfz5_2
      try clear hx324_0
      try clear hx325_0
      try clear p2
      try clear p324
      try clear p325
      try clear q324
      try clear q325
      obtain ⟨x7_2, x324001_2, x324002_2, x327000_2, x327001_2, u327000, rfl, HA, HK2, HO_327000, BK323, BK326, HB⟩ := hrel
      cases gk with
      | zero => exact absurd HA.out (by simp [caduceusref01_Take.l1])
      | succ k2 =>
       have H := HA.out
       clear HA
       simp only [caduceusref01_Take.l1] at H
       by_cases c16 : x7_2 < (l1.length : Int)
       ·rw [if_pos c16] at H
        have c16b0 : decide (x7_2 < (l1.length : Int)) = true := decide_eq_true c16
        clear c16
        by_cases c17 : 0 ≤ x7_2
        ·rw [if_pos c17] at H
         have c17b0 : decide (0 ≤ x7_2) = true := decide_eq_true c17
         clear c17
         replace H := Option.bind_eq_some_iff.mp H
         obtain ⟨⟨t328, t329, t330, t331⟩, A180, H⟩ := H
         replace H : (if t331 = 0 then (if x327000_2.length < 4398046511104 then (caduceusref01_Take.l1 k2 l1 (wrap64 (x7_2 + 1)) (x327000_2 ++ [(⟨rd l1 x7_2, t328, t329⟩ : S81)]) t330 0) else (none)) else (some (([] : List (S81)), (⟨#[]⟩ : ByteArray), t331))) = some (r1, r2, r3) := H
         have A18 := Aside0.mk A180
         clear A180
         by_cases c19 : t331 = 0
         ·rw [if_pos c19] at H
          have c19b0 : (t331 == 0) = true := beq_iff_eq.mpr c19
          have c19b1 : (t331 != 0) = false := bne_eq_false_iff_eq.mpr c19
          clear c19
          by_cases c20 : x327000_2.length < 4398046511104
          ·rw [if_pos c20] at H
           have LMc20 := Aside0.mk c20
           clear c20
           obtain ⟨y334, hy334⟩ : ∃ y_ : List (S81), y_ = (x327000_2 ++ [(⟨rd l1 x7_2, t328, t329⟩ : S81)]) := ⟨_, rfl⟩
           replace H : (caduceusref01_Take.l1 k2 l1 (wrap64 (x7_2 + 1)) y334 t330 0) = some (r1, r2, r3) := by first | (rw [hy334]; with_reducible exact H)
           have Ny334 := Aside0.mk hy334
           clear hy334
           have H' := Aside0.mk H
           clear H
           try go_wp2
           have n0_ := Aside0.mk (Kd.R_drew HO_327000.out)
           have n1_ := Aside0.mk (blk_drew BK323.out)
           have n2_ := Aside0.mk (blk_drew BK326.out)
           have n3_ := Aside0.mk (below_drew1 HB.out)
           clear HO_327000
           clear BK323
           clear BK326
           clear HB
           have HO_327000 := n0_
           have BK323 := n1_
           have BK326 := n2_
           have HB := n3_
           clear n0_ n1_ n2_ n3_
           have p327 : 0 ≤ (x7_2 : Int) := of_decide_eq_true (by first | (with_reducible assumption) )
           have q327 : x7_2 < (l1.length : Int) := of_decide_eq_true (by first | (with_reducible assumption) )
           obtain ⟨ad327, e327, hx327_0⟩ := Kd.at_int HR1.out x7_2 p327 q327
           have hw327_0 := hx327_0
           cases e327
           replace hx327_0 := (HB.out.cell (World.block_lt_of_cell? w _ hx327_0)).trans hx327_0
           replace p327 := eq_true p327
           replace q327 := eq_true q327
           refine start_ (n := 9) (S := fun w' => w'.cell? ⟨gb326, 0, none⟩ = some (u327000) ∧ w'.cell? ⟨gb326, 1, none⟩ = some (.string x327001_2) ∧ w'.cell? ⟨gb326, 2, none⟩ = some (.int .i64 0) ∧ w'.cell? (ad327.add (x7_2).toNat) = some (.int .i64 (rd l1 x7_2))) (ds := []) #[false, false, false, false, false, false, false, false, false] (by kernel_rfl) rfl rfl ⟨(blk_cell BK326.out 0).trans rfl, (blk_cell BK326.out 1).trans rfl, (blk_cell BK326.out 2).trans rfl, ((HB.out.cell (World.block_lt_of_cell? w _ hw327_0)).trans hw327_0)⟩ (fun hHeld => ?_); refine with_tabW caduceusref01_Take.tab12 caduceusref01_Take.bits12 (fun HT_ HW_ => ?_)
           generalize wr.drew = w21 at HO_327000 BK323 BK326 HB hx327_0 hHeld ⊢
           refine pure_ (i := 0) (N := some 40) (v := ?_) (a' := ?_) #[true, false, false, false, false, false, false, false, false] rfl rfl (any_of HT_.out (by kernel_rfl)) (fun _ _ _ h => h) (Or.inl ⟨by rfl, ?_⟩) ?_ ?_
           rotate_left
           ·intro w'
            go_simp
            with_reducible rfl
           rotate_left
           ·simp only [Act.put, List.setIfInBounds_toArray, List.set_cons_zero, List.set_cons_succ, i64_w, i32_w]
            rfl
           refine pure_ (i := 2) (N := some 42) (v := ?_) (a' := ?_) #[true, false, true, false, false, false, false, false, false] rfl rfl (any_of HT_.out (by kernel_rfl)) (fun _ _ _ h => h) (Or.inl ⟨by rfl, ?_⟩) ?_ ?_
           rotate_left
           ·intro w'
            go_simp
            with_reducible rfl
           rotate_left
           ·simp only [Act.put, List.setIfInBounds_toArray, List.set_cons_zero, List.set_cons_succ, i64_w, i32_w]
            rfl
           refine pure_ (i := 3) (N := some 43) (v := ?_) (a' := ?_) #[true, false, true, true, false, false, false, false, false] rfl rfl (any_of HT_.out (by kernel_rfl)) (fun _ _ _ h => h) (Or.inl ⟨by rfl, ?_⟩) ?_ ?_
           rotate_left
           ·intro w'
            go_simp
            with_reducible rfl
           rotate_left
           ·simp only [Act.put, List.setIfInBounds_toArray, List.set_cons_zero, List.set_cons_succ, i64_w, i32_w]
            rfl
           refine pure_ (i := 4) (N := some 44) (v := ?_) (a' := ?_) #[true, false, true, true, true, false, false, false, false] rfl rfl (any_of HT_.out (by kernel_rfl)) (fun _ _ _ h => h) (Or.inl ⟨by rfl, ?_⟩) ?_ ?_
           rotate_left
           ·intro w'
            go_simp
            with_reducible rfl
           rotate_left
           ·simp only [Act.put, List.setIfInBounds_toArray, List.set_cons_zero, List.set_cons_succ, i64_w, i32_w]
            rfl
           refine take_ (i := 1) (N := some 41) (v := ?_) (a' := ?_) #[true, true, true, true, true, false, false, false, false] rfl rfl (take_ofW HT_.out HW_.out (by kernel_rfl)) (fun _ _ _ h => h) (Or.inl ⟨by rfl, ?_⟩) hHeld ?_ ?_
           rotate_left
           ·rintro w' ⟨s0, s1, s2, s3⟩
            go_simp
            with_reducible rfl
           rotate_left
           ·simp only [Act.put, List.setIfInBounds_toArray, List.set_cons_zero, List.set_cons_succ, i64_w, i32_w]
            rfl
           refine take_ (i := 5) (N := some 45) (v := ?_) (a' := ?_) #[true, true, true, true, true, true, false, false, false] rfl rfl (take_ofW HT_.out HW_.out (by kernel_rfl)) (fun _ _ _ h => h) (Or.inl ⟨by rfl, ?_⟩) hHeld ?_ ?_
           rotate_left
           ·rintro w' ⟨s0, s1, s2, s3⟩
            go_simp
            with_reducible rfl
           rotate_left
           ·simp only [Act.put, List.setIfInBounds_toArray, List.set_cons_zero, List.set_cons_succ, i64_w, i32_w]
            rfl
           refine join_ (σ := Nat) 1 #[true, true, true, true, true, true, true, true, false] (fun s_ => [(46, .agg #[.int .i64 t328, .string t329, .string t330, .int .i64 t331]), (8, .pointer (some ⟨s_, 0, none⟩))]) (fun s_ w' => (w'.cell? ⟨gb326, 0, none⟩ = some (u327000) ∧ w'.cell? ⟨gb326, 1, none⟩ = some (.string x327001_2) ∧ w'.cell? ⟨gb326, 2, none⟩ = some (.int .i64 0) ∧ w'.cell? (ad327.add (x7_2).toNat) = some (.int .i64 (rd l1 x7_2))) ∧ (Kd.R k81 81 w' w.heap.size (fun _ => True) u327000 x327000_2) ∧ (w'.heap[gb323]? = some (.cells #[.slice none 0 0, .string x324001_2, .int .i64 x324002_2] 79 (0, 0))) ∧ (w'.heap[gb326]? = some (.cells #[u327000, .string x327001_2, .int .i64 0] 79 (0, 0))) ∧ (w'.heap[s_]? = some (.cells #[.int .i64 0, .string (⟨#[]⟩ : ByteArray), .string (⟨#[]⟩ : ByteArray), .int .i64 0] 93 (0, 0))) ∧ (w.heap.size ≤ s_) ∧ (w.heap.size ≤ s_) ∧ (gb323 ≠ s_) ∧ (s_ ≠ gb323) ∧ (gb326 ≠ s_) ∧ (s_ ≠ gb326) ∧ (Below w.heap.size w w')) ?_ ?_
           rotate_left
           ·intro hCont
            refine two_ (i := 6) (j := 7) (Ni := some 46) (Nj := some 8) #[true, true, true, true, true, true, true, false, false] #[true, true, true, true, true, true, false, true, false] rfl rfl rfl rfl (two_of HT_.out (by kernel_rfl)) (by decide) (by decide) (fun K hK => ?_) (fun K hK => ?_)
            ·skip
             refine goes_ Try.func54 (by kernel_rfl) rfl #[.string x327001_2, .int .i64 (rd l1 x7_2)] (by rfl) rfl rfl (by (try simp only [List.map_toArray, List.map_cons, List.map_nil]); first | rfl ) ?_
             with_reducible refine (caduceusref01_take.calls k2 x327001_2 (rd l1 x7_2) t328 t329 t330 t331 _ A18.out).mono ?_
             rintro e w22 ⟨rfl, hb⟩
             refine ⟨_, rfl, ?_⟩
             have n0_ := Aside0.mk (Kd.R_below (by (with_reducible repeat (fail)); exact HO_327000.out) hb)
             have n1_ := Aside0.mk (blk_below (g := gb323) (o := .cells #[.slice none 0 0, .string x324001_2, .int .i64 x324002_2] 79 (0, 0)) (by (with_reducible repeat (fail)); exact BK323.out) hb)
             have n2_ := Aside0.mk (blk_below (g := gb326) (o := .cells #[u327000, .string x327001_2, .int .i64 0] 79 (0, 0)) (by (with_reducible repeat (fail)); exact BK326.out) hb)
             have n3_ := Aside0.mk (below_step (by repeat (first | (with_reducible first | exact HB.out ) )) hb)
             clear HO_327000
             clear BK323
             clear BK326
             clear HB
             have HO_327000 := n0_
             have BK323 := n1_
             have BK326 := n2_
             have HB := n3_
             clear n0_ n1_ n2_ n3_
             (try clear hb)
             (try clear hb2)
             (try clear hk)
             (try clear hi)
             refine hK.out _ _ ⟨(blk_cell BK326.out 0).trans rfl, (blk_cell BK326.out 1).trans rfl, (blk_cell BK326.out 2).trans rfl, ((HB.out.cell (World.block_lt_of_cell? w _ hw327_0)).trans hw327_0)⟩ (fun hHeld => ?_)
             clear hK K
             refine norm_ (a' := ?_) ?_ ?_
             rotate_left
             ·show Act.put _ (some 46) _ = _
              simp only [Act.put, List.setIfInBounds_toArray, List.set_cons_zero, List.set_cons_succ, i64_w, i32_w]
              rfl
             refine one_ (i := 7) (N := some 8) #[true, true, true, true, true, true, true, true, false] rfl rfl (one_of HT_.out (by kernel_rfl)) (by decide) (fun K hK => ?_)
             refine box_step ?hg (N := 8) ?hd (cs := #[.int .i64 0, .string (⟨#[]⟩ : ByteArray), .string (⟨#[]⟩ : ByteArray), .int .i64 0]) (t := 93) ?hr ?_; (case hd => rfl); (case hg => rfl); (case hr => first | (go_simp; done) )
             intro gb332 hg w23 hbox hb
             have n0_ := Aside0.mk (Kd.R_below (by (with_reducible repeat (fail)); exact HO_327000.out) hb)
             have n1_ := Aside0.mk (blk_below (g := gb323) (o := .cells #[.slice none 0 0, .string x324001_2, .int .i64 x324002_2] 79 (0, 0)) (by (with_reducible repeat (fail)); exact BK323.out) hb)
             have n2_ := Aside0.mk (blk_below (g := gb326) (o := .cells #[u327000, .string x327001_2, .int .i64 0] 79 (0, 0)) (by (with_reducible repeat (fail)); exact BK326.out) hb)
             have n3_ := Aside0.mk (below_step (by repeat (first | (with_reducible first | exact HB.out ) )) hb)
             have n4_ := Aside0.mk (hbox)
             have n5_ := Aside0.mk ((by rw [hg]; exact (below_size (by repeat (first | (with_reducible first | exact HB.out ) ))) : w.heap.size ≤ gb332))
             have n6_ := Aside0.mk ((by rw [hg]; exact (below_size (by repeat (first | (with_reducible first | exact HB.out ) ))) : w.heap.size ≤ gb332))
             have n7_ := Aside0.mk ((by rw [hg]; exact Nat.ne_of_lt (blk_lt (g := gb323) (o := .cells #[.slice none 0 0, .string x324001_2, .int .i64 x324002_2] 79 (0, 0)) (by (with_reducible repeat (fail)); exact BK323.out)) : gb323 ≠ gb332))
             have n8_ := Aside0.mk ((by rw [hg]; exact Nat.ne_of_gt (blk_lt (g := gb323) (o := .cells #[.slice none 0 0, .string x324001_2, .int .i64 x324002_2] 79 (0, 0)) (by (with_reducible repeat (fail)); exact BK323.out)) : gb332 ≠ gb323))
             have n9_ := Aside0.mk ((by rw [hg]; exact Nat.ne_of_lt (blk_lt (g := gb326) (o := .cells #[u327000, .string x327001_2, .int .i64 0] 79 (0, 0)) (by (with_reducible repeat (fail)); exact BK326.out)) : gb326 ≠ gb332))
             have n10_ := Aside0.mk ((by rw [hg]; exact Nat.ne_of_gt (blk_lt (g := gb326) (o := .cells #[u327000, .string x327001_2, .int .i64 0] 79 (0, 0)) (by (with_reducible repeat (fail)); exact BK326.out)) : gb332 ≠ gb326))
             clear HO_327000
             clear BK323
             clear BK326
             clear HB
             have HO_327000 := n0_
             have BK323 := n1_
             have BK326 := n2_
             have HB := n3_
             have BK332 := n4_
             have GW332 := n5_
             have GE332 := n6_
             have NB323_332 := n7_
             have NB332_323 := n8_
             have NB326_332 := n9_
             have NB332_326 := n10_
             clear n0_ n1_ n2_ n3_ n4_ n5_ n6_ n7_ n8_ n9_ n10_
             clear hb hbox hg
             refine hK.out _ _ ⟨(blk_cell BK326.out 0).trans rfl, (blk_cell BK326.out 1).trans rfl, (blk_cell BK326.out 2).trans rfl, ((HB.out.cell (World.block_lt_of_cell? w _ hw327_0)).trans hw327_0)⟩ (fun hHeld => ?_)
             clear hK K
             refine norm_ (a' := ?_) ?_ ?_
             rotate_left
             ·show Act.put _ (some 8) _ = _
              simp only [Act.put, List.setIfInBounds_toArray, List.set_cons_zero, List.set_cons_succ, i64_w, i32_w]
              rfl
             exact norm_ (by simp only [putAll, Act.put, List.setIfInBounds_toArray, List.set_cons_zero, List.set_cons_succ]) (hCont (gb332) _ ⟨hHeld, (by (with_reducible repeat (fail)); exact HO_327000.out), (by (with_reducible repeat (fail)); exact BK323.out), (by (with_reducible repeat (fail)); exact BK326.out), (by (with_reducible repeat (fail)); exact BK332.out), GW332.out, GE332.out, NB323_332.out, NB332_323.out, NB326_332.out, NB332_326.out, (by repeat (first | (with_reducible first | exact HB.out ) ))⟩)
            ·skip
             refine box_step ?hg (N := 8) ?hd (cs := #[.int .i64 0, .string (⟨#[]⟩ : ByteArray), .string (⟨#[]⟩ : ByteArray), .int .i64 0]) (t := 93) ?hr ?_; (case hd => rfl); (case hg => rfl); (case hr => first | (go_simp; done) )
             intro gb332 hg w22 hbox hb
             have n0_ := Aside0.mk (Kd.R_below (by (with_reducible repeat (fail)); exact HO_327000.out) hb)
             have n1_ := Aside0.mk (blk_below (g := gb323) (o := .cells #[.slice none 0 0, .string x324001_2, .int .i64 x324002_2] 79 (0, 0)) (by (with_reducible repeat (fail)); exact BK323.out) hb)
             have n2_ := Aside0.mk (blk_below (g := gb326) (o := .cells #[u327000, .string x327001_2, .int .i64 0] 79 (0, 0)) (by (with_reducible repeat (fail)); exact BK326.out) hb)
             have n3_ := Aside0.mk (below_step (by repeat (first | (with_reducible first | exact HB.out ) )) hb)
             have n4_ := Aside0.mk (hbox)
             have n5_ := Aside0.mk ((by rw [hg]; exact (below_size (by repeat (first | (with_reducible first | exact HB.out ) ))) : w.heap.size ≤ gb332))
             have n6_ := Aside0.mk ((by rw [hg]; exact (below_size (by repeat (first | (with_reducible first | exact HB.out ) ))) : w.heap.size ≤ gb332))
             have n7_ := Aside0.mk ((by rw [hg]; exact Nat.ne_of_lt (blk_lt (g := gb323) (o := .cells #[.slice none 0 0, .string x324001_2, .int .i64 x324002_2] 79 (0, 0)) (by (with_reducible repeat (fail)); exact BK323.out)) : gb323 ≠ gb332))
             have n8_ := Aside0.mk ((by rw [hg]; exact Nat.ne_of_gt (blk_lt (g := gb323) (o := .cells #[.slice none 0 0, .string x324001_2, .int .i64 x324002_2] 79 (0, 0)) (by (with_reducible repeat (fail)); exact BK323.out)) : gb332 ≠ gb323))
             have n9_ := Aside0.mk ((by rw [hg]; exact Nat.ne_of_lt (blk_lt (g := gb326) (o := .cells #[u327000, .string x327001_2, .int .i64 0] 79 (0, 0)) (by (with_reducible repeat (fail)); exact BK326.out)) : gb326 ≠ gb332))
             have n10_ := Aside0.mk ((by rw [hg]; exact Nat.ne_of_gt (blk_lt (g := gb326) (o := .cells #[u327000, .string x327001_2, .int .i64 0] 79 (0, 0)) (by (with_reducible repeat (fail)); exact BK326.out)) : gb332 ≠ gb326))
             clear HO_327000
             clear BK323
             clear BK326
             clear HB
             have HO_327000 := n0_
             have BK323 := n1_
             have BK326 := n2_
             have HB := n3_
             have BK332 := n4_
             have GW332 := n5_
             have GE332 := n6_
             have NB323_332 := n7_
             have NB332_323 := n8_
             have NB326_332 := n9_
             have NB332_326 := n10_
             clear n0_ n1_ n2_ n3_ n4_ n5_ n6_ n7_ n8_ n9_ n10_
             clear hb hbox hg
             refine hK.out _ _ ⟨(blk_cell BK326.out 0).trans rfl, (blk_cell BK326.out 1).trans rfl, (blk_cell BK326.out 2).trans rfl, ((HB.out.cell (World.block_lt_of_cell? w _ hw327_0)).trans hw327_0)⟩ (fun hHeld => ?_)
             clear hK K
             refine norm_ (a' := ?_) ?_ ?_
             rotate_left
             ·show Act.put _ (some 8) _ = _
              simp only [Act.put, List.setIfInBounds_toArray, List.set_cons_zero, List.set_cons_succ, i64_w, i32_w]
              rfl
             refine one_ (i := 6) (N := some 46) #[true, true, true, true, true, true, true, true, false] rfl rfl (one_of HT_.out (by kernel_rfl)) (by decide) (fun K hK => ?_)
             refine goes_ Try.func54 (by kernel_rfl) rfl #[.string x327001_2, .int .i64 (rd l1 x7_2)] (by rfl) rfl rfl (by (try simp only [List.map_toArray, List.map_cons, List.map_nil]); first | rfl ) ?_
             with_reducible refine (caduceusref01_take.calls k2 x327001_2 (rd l1 x7_2) t328 t329 t330 t331 _ A18.out).mono ?_
             rintro e w23 ⟨rfl, hb⟩
             refine ⟨_, rfl, ?_⟩
             have n0_ := Aside0.mk (Kd.R_below (by (with_reducible repeat (fail)); exact HO_327000.out) hb)
             have n1_ := Aside0.mk (blk_below (g := gb323) (o := .cells #[.slice none 0 0, .string x324001_2, .int .i64 x324002_2] 79 (0, 0)) (by (with_reducible repeat (fail)); exact BK323.out) hb)
             have n2_ := Aside0.mk (blk_below (g := gb326) (o := .cells #[u327000, .string x327001_2, .int .i64 0] 79 (0, 0)) (by (with_reducible repeat (fail)); exact BK326.out) hb)
             have n3_ := Aside0.mk (blk_below (g := gb332) (o := .cells #[.int .i64 0, .string (⟨#[]⟩ : ByteArray), .string (⟨#[]⟩ : ByteArray), .int .i64 0] 93 (0, 0)) (by (with_reducible repeat (fail)); exact BK332.out) hb)
             have n4_ := Aside0.mk (below_step (by repeat (first | (with_reducible first | exact HB.out ) )) hb)
             clear HO_327000
             clear BK323
             clear BK326
             clear BK332
             clear HB
             have HO_327000 := n0_
             have BK323 := n1_
             have BK326 := n2_
             have BK332 := n3_
             have HB := n4_
             clear n0_ n1_ n2_ n3_ n4_
             (try clear hb)
             (try clear hb2)
             (try clear hk)
             (try clear hi)
             refine hK.out _ _ ⟨(blk_cell BK326.out 0).trans rfl, (blk_cell BK326.out 1).trans rfl, (blk_cell BK326.out 2).trans rfl, ((HB.out.cell (World.block_lt_of_cell? w _ hw327_0)).trans hw327_0)⟩ (fun hHeld => ?_)
             clear hK K
             refine norm_ (a' := ?_) ?_ ?_
             rotate_left
             ·show Act.put _ (some 46) _ = _
              simp only [Act.put, List.setIfInBounds_toArray, List.set_cons_zero, List.set_cons_succ, i64_w, i32_w]
              rfl
             exact norm_ (by simp only [putAll, Act.put, List.setIfInBounds_toArray, List.set_cons_zero, List.set_cons_succ]) (hCont (gb332) _ ⟨hHeld, (by (with_reducible repeat (fail)); exact HO_327000.out), (by (with_reducible repeat (fail)); exact BK323.out), (by (with_reducible repeat (fail)); exact BK326.out), (by (with_reducible repeat (fail)); exact BK332.out), GW332.out, GE332.out, NB323_332.out, NB332_323.out, NB326_332.out, NB332_326.out, (by repeat (first | (with_reducible first | exact HB.out ) ))⟩)
           rintro gb332 w24 ⟨hS_, h0_, h1_, h2_, h3_, h4_, h5_, h6_, h7_, h8_, h9_, h10_⟩
           have n0_ : Aside0 (Kd.R k81 81 w24 w.heap.size (fun _ => True) u327000 x327000_2) := ⟨h0_⟩
           have n1_ : Aside0 (w24.heap[gb323]? = some (.cells #[.slice none 0 0, .string x324001_2, .int .i64 x324002_2] 79 (0, 0))) := ⟨h1_⟩
           have n2_ : Aside0 (w24.heap[gb326]? = some (.cells #[u327000, .string x327001_2, .int .i64 0] 79 (0, 0))) := ⟨h2_⟩
           have n3_ : Aside0 (w24.heap[gb332]? = some (.cells #[.int .i64 0, .string (⟨#[]⟩ : ByteArray), .string (⟨#[]⟩ : ByteArray), .int .i64 0] 93 (0, 0))) := ⟨h3_⟩
           have n4_ : Aside0 (w.heap.size ≤ gb332) := ⟨h4_⟩
           have n5_ : Aside0 (w.heap.size ≤ gb332) := ⟨h5_⟩
           have n6_ : Aside0 (gb323 ≠ gb332) := ⟨h6_⟩
           have n7_ : Aside0 (gb332 ≠ gb323) := ⟨h7_⟩
           have n8_ : Aside0 (gb326 ≠ gb332) := ⟨h8_⟩
           have n9_ : Aside0 (gb332 ≠ gb326) := ⟨h9_⟩
           have n10_ : Aside0 (Below w.heap.size w w24) := ⟨h10_⟩
           clear HO_327000
           clear BK323
           clear BK326
           clear HB
           clear h0_ h1_ h2_ h3_ h4_ h5_ h6_ h7_ h8_ h9_ h10_
           have HO_327000 := n0_
           have BK323 := n1_
           have BK326 := n2_
           have BK332 := n3_
           have GW332 := n4_
           have GE332 := n5_
           have NB323_332 := n6_
           have NB332_323 := n7_
           have NB326_332 := n8_
           have NB332_326 := n9_
           have HB := n10_
           clear n0_ n1_ n2_ n3_ n4_ n5_ n6_ n7_ n8_ n9_ n10_
           have hHeld : w24.cell? ⟨gb326, 0, none⟩ = some (u327000) ∧ w24.cell? ⟨gb326, 1, none⟩ = some (.string x327001_2) ∧ w24.cell? ⟨gb326, 2, none⟩ = some (.int .i64 0) ∧ w24.cell? (ad327.add (x7_2).toNat) = some (.int .i64 (rd l1 x7_2)) := hS_
           refine norm_ (a' := ?_) ?_ ?_
           rotate_left
           ·simp only [putAll, Act.put, List.setIfInBounds_toArray, List.set_cons_zero, List.set_cons_succ]
            rfl
           refine one_ (i := 8) (N := none) #[true, true, true, true, true, true, true, true, true] rfl rfl (one_of HT_.out (by kernel_rfl)) (by decide) (fun K hK => ?_)
           have hs25 : w24.cell? ⟨gb332, 0, none⟩ = some (.int .i64 0) := (blk_cell BK332.out 0).trans rfl
           have hfs25 := blk_frozen BK332.out 0
           have hns25_0 := NB323_332.out
           have hns25_1 := NB326_332.out
           have hms25_0 := NB332_323.out
           have hms25_1 := NB332_326.out
           have hs26 : w24.cell? ⟨gb332, 1, none⟩ = some (.string (⟨#[]⟩ : ByteArray)) := (blk_cell BK332.out 1).trans rfl
           have hfs26 := blk_frozen BK332.out 1
           have hns26_0 := NB323_332.out
           have hns26_1 := NB326_332.out
           have hms26_0 := NB332_323.out
           have hms26_1 := NB332_326.out
           have hs27 : w24.cell? ⟨gb332, 2, none⟩ = some (.string (⟨#[]⟩ : ByteArray)) := (blk_cell BK332.out 2).trans rfl
           have hfs27 := blk_frozen BK332.out 2
           have hns27_0 := NB323_332.out
           have hns27_1 := NB326_332.out
           have hms27_0 := NB332_323.out
           have hms27_1 := NB332_326.out
           have hs28 : w24.cell? ⟨gb332, 3, none⟩ = some (.int .i64 0) := (blk_cell BK332.out 3).trans rfl
           have hfs28 := blk_frozen BK332.out 3
           have hns28_0 := NB323_332.out
           have hns28_1 := NB326_332.out
           have hms28_0 := NB332_323.out
           have hms28_1 := NB332_326.out
           refine skip_ (w1 := ?_) (by rfl) rfl ?_ ?_
           rotate_left
           ·go_simp
            rfl
           refine hK.out _ _ ⟨((cell_far (p := ⟨gb332, _, none⟩) NB326_332.out _).trans (((cell_far (p := ⟨gb332, _, none⟩) NB326_332.out _).trans (((cell_far (p := ⟨gb332, _, none⟩) NB326_332.out _).trans (((cell_far (p := ⟨gb332, _, none⟩) NB326_332.out _).trans (hHeld.1)))))))), ((cell_far (p := ⟨gb332, _, none⟩) NB326_332.out _).trans (((cell_far (p := ⟨gb332, _, none⟩) NB326_332.out _).trans (((cell_far (p := ⟨gb332, _, none⟩) NB326_332.out _).trans (((cell_far (p := ⟨gb332, _, none⟩) NB326_332.out _).trans (hHeld.2.1)))))))), ((cell_far (p := ⟨gb332, _, none⟩) NB326_332.out _).trans (((cell_far (p := ⟨gb332, _, none⟩) NB326_332.out _).trans (((cell_far (p := ⟨gb332, _, none⟩) NB326_332.out _).trans (((cell_far (p := ⟨gb332, _, none⟩) NB326_332.out _).trans (hHeld.2.2.1)))))))), ((cell_far (p := ⟨gb332, _, none⟩) (by first | exact Nat.ne_of_lt (Nat.lt_of_lt_of_le (by have := World.block_lt_of_cell? _ _ hw327_0; first | exact this) GW332.out) ) _).trans (((cell_far (p := ⟨gb332, _, none⟩) (by first | exact Nat.ne_of_lt (Nat.lt_of_lt_of_le (by have := World.block_lt_of_cell? _ _ hw327_0; first | exact this) GW332.out) ) _).trans (((cell_far (p := ⟨gb332, _, none⟩) (by first | exact Nat.ne_of_lt (Nat.lt_of_lt_of_le (by have := World.block_lt_of_cell? _ _ hw327_0; first | exact this) GW332.out) ) _).trans (((cell_far (p := ⟨gb332, _, none⟩) (by first | exact Nat.ne_of_lt (Nat.lt_of_lt_of_le (by have := World.block_lt_of_cell? _ _ hw327_0; first | exact this) GW332.out) ) _).trans (hHeld.2.2.2))))))))⟩ (fun hHeld => ?_)
           clear hK K
           refine done_ (done_of HT_.out (by kernel_rfl)) ?_
           have hnb29 := NB332_323.out
           have hnc29 := NB323_332.out
           have hnb30 := NB332_326.out
           have hnc30 := NB326_332.out
           have hcz31_0 : w24.cell? ⟨gb332, 0, none⟩ = some (.int .i64 0) := (blk_cell BK332.out 0).trans rfl
           have hcz31_1 : w24.cell? ⟨gb332, 1, none⟩ = some (.string (⟨#[]⟩ : ByteArray)) := (blk_cell BK332.out 1).trans rfl
           have hcz31_2 : w24.cell? ⟨gb332, 2, none⟩ = some (.string (⟨#[]⟩ : ByteArray)) := (blk_cell BK332.out 2).trans rfl
           have hcz31_3 : w24.cell? ⟨gb332, 3, none⟩ = some (.int .i64 0) := (blk_cell BK332.out 3).trans rfl
           have hfz31_0 := blk_frozen BK332.out 0
           have hfz31_1 := blk_frozen BK332.out 1
           have hfz31_2 := blk_frozen BK332.out 2
           have hfz31_3 := blk_frozen BK332.out 3
           try go_wp2
           have n0_ : Aside0 (Kd.R k81 81 ((((w24.setCell ⟨gb332, 0, none⟩ (.int .i64 t328)).setCell ⟨gb332, 1, none⟩ (.string t329)).setCell ⟨gb332, 2, none⟩ (.string t330)).setCell ⟨gb332, 3, none⟩ (.int .i64 t331)) w.heap.size (fun _ => True) u327000 x327000_2) := ⟨by (with_reducible repeat (fail)); exact Kd.R_mono (Kd.R_far (p := ⟨gb332, 3, none⟩) (Kd.R_far (p := ⟨gb332, 2, none⟩) (Kd.R_far (p := ⟨gb332, 1, none⟩) (Kd.R_far (p := ⟨gb332, 0, none⟩) (Kd.R_types HO_327000.out BK332.out (by decide)) (fun _ hk => hk.2) (.int .i64 t328)) (fun _ hk => hk.2) (.string t329)) (fun _ hk => hk.2) (.string t330)) (fun _ hk => hk.2) (.int .i64 t331)) (fun _ hk => trivial)⟩
           have n1_ : Aside0 (((((w24.setCell ⟨gb332, 0, none⟩ (.int .i64 t328)).setCell ⟨gb332, 1, none⟩ (.string t329)).setCell ⟨gb332, 2, none⟩ (.string t330)).setCell ⟨gb332, 3, none⟩ (.int .i64 t331)).heap[gb323]? = some (.cells #[.slice none 0 0, .string x324001_2, .int .i64 x324002_2] 79 (0, 0))) := ⟨by (with_reducible repeat (fail)); refine blk_far ?_ NB323_332.out _; (with_reducible repeat (fail)); refine blk_far ?_ NB323_332.out _; (with_reducible repeat (fail)); refine blk_far ?_ NB323_332.out _; (with_reducible repeat (fail)); refine blk_far ?_ NB323_332.out _; (with_reducible repeat (fail)); exact BK323.out⟩
           have n2_ : Aside0 (((((w24.setCell ⟨gb332, 0, none⟩ (.int .i64 t328)).setCell ⟨gb332, 1, none⟩ (.string t329)).setCell ⟨gb332, 2, none⟩ (.string t330)).setCell ⟨gb332, 3, none⟩ (.int .i64 t331)).heap[gb326]? = some (.cells #[u327000, .string x327001_2, .int .i64 0] 79 (0, 0))) := ⟨by (with_reducible repeat (fail)); refine blk_far ?_ NB326_332.out _; (with_reducible repeat (fail)); refine blk_far ?_ NB326_332.out _; (with_reducible repeat (fail)); refine blk_far ?_ NB326_332.out _; (with_reducible repeat (fail)); refine blk_far ?_ NB326_332.out _; (with_reducible repeat (fail)); exact BK326.out⟩
           have n3_ : Aside0 (((((w24.setCell ⟨gb332, 0, none⟩ (.int .i64 t328)).setCell ⟨gb332, 1, none⟩ (.string t329)).setCell ⟨gb332, 2, none⟩ (.string t330)).setCell ⟨gb332, 3, none⟩ (.int .i64 t331)).heap[gb332]? = some (.cells #[.int .i64 t328, .string t329, .string t330, .int .i64 t331] 93 (0, 0))) := ⟨by (with_reducible repeat (fail)); refine blk_put (cs := #[.int .i64 t328, .string t329, .string t330, .int .i64 0]) ?_ 3 _ rfl; (with_reducible repeat (fail)); refine blk_put (cs := #[.int .i64 t328, .string t329, .string (⟨#[]⟩ : ByteArray), .int .i64 0]) ?_ 2 _ rfl; (with_reducible repeat (fail)); refine blk_put (cs := #[.int .i64 t328, .string (⟨#[]⟩ : ByteArray), .string (⟨#[]⟩ : ByteArray), .int .i64 0]) ?_ 1 _ rfl; (with_reducible repeat (fail)); refine blk_put (cs := #[.int .i64 0, .string (⟨#[]⟩ : ByteArray), .string (⟨#[]⟩ : ByteArray), .int .i64 0]) ?_ 0 _ rfl; (with_reducible repeat (fail)); exact BK332.out⟩
           have n4_ : Aside0 (Below w.heap.size w ((((w24.setCell ⟨gb332, 0, none⟩ (.int .i64 t328)).setCell ⟨gb332, 1, none⟩ (.string t329)).setCell ⟨gb332, 2, none⟩ (.string t330)).setCell ⟨gb332, 3, none⟩ (.int .i64 t331))) := ⟨by repeat (first | (with_reducible first | exact HB.out | refine below_set ?_ GE332.out) )⟩
           (try clear HO_327000)
           (try clear BK323)
           (try clear BK326)
           (try clear BK332)
           (try clear HB)
           generalize ((((w24.setCell ⟨gb332, 0, none⟩ (.int .i64 t328)).setCell ⟨gb332, 1, none⟩ (.string t329)).setCell ⟨gb332, 2, none⟩ (.string t330)).setCell ⟨gb332, 3, none⟩ (.int .i64 t331)) = w32 at n0_ n1_ n2_ n3_ n4_ ⊢
           have HO_327000 := n0_
           have BK323 := n1_
           have BK326 := n2_
           have BK332 := n3_
           have HB := n4_
           clear n0_ n1_ n2_ n3_ n4_
           have n0_ := Aside0.mk (Kd.R_drew HO_327000.out)
           have n1_ := Aside0.mk (blk_drew BK323.out)
           have n2_ := Aside0.mk (blk_drew BK326.out)
           have n3_ := Aside0.mk (blk_drew BK332.out)
           have n4_ := Aside0.mk (below_drew1 HB.out)
           clear HO_327000
           clear BK323
           clear BK326
           clear BK332
           clear HB
           have HO_327000 := n0_
           have BK323 := n1_
           have BK326 := n2_
           have BK332 := n3_
           have HB := n4_
           clear n0_ n1_ n2_ n3_ n4_
           have p333 : 0 ≤ (x7_2 : Int) := of_decide_eq_true (by first | (with_reducible assumption) )
           have q333 : x7_2 < (l1.length : Int) := of_decide_eq_true (by first | (with_reducible assumption) )
           obtain ⟨ad333, e333, hx333_0⟩ := Kd.at_int HR1.out x7_2 p333 q333
           have hw333_0 := hx333_0
           obtain rfl : ad327 = ad333 := (by injection e333)
           replace hx333_0 := (HB.out.cell (World.block_lt_of_cell? w _ hx333_0)).trans hx333_0
           replace p333 := eq_true p333
           replace q333 := eq_true q333
           refine start_ (n := 15) (S := fun w' => w'.cell? ⟨gb326, 0, none⟩ = some (u327000) ∧ w'.cell? ⟨gb326, 1, none⟩ = some (.string x327001_2) ∧ w'.cell? ⟨gb326, 2, none⟩ = some (.int .i64 0) ∧ w'.cell? ⟨gb332, 0, none⟩ = some (.int .i64 t328) ∧ w'.cell? ⟨gb332, 1, none⟩ = some (.string t329) ∧ w'.cell? ⟨gb332, 2, none⟩ = some (.string t330) ∧ w'.cell? ⟨gb332, 3, none⟩ = some (.int .i64 t331) ∧ w'.cell? (ad327.add (x7_2).toNat) = some (.int .i64 (rd l1 x7_2))) (ds := [14]) #[false, false, false, false, false, false, false, false, false, false, false, false, false, false, false] (by kernel_rfl) rfl rfl ⟨(blk_cell BK326.out 0).trans rfl, (blk_cell BK326.out 1).trans rfl, (blk_cell BK326.out 2).trans rfl, (blk_cell BK332.out 0).trans rfl, (blk_cell BK332.out 1).trans rfl, (blk_cell BK332.out 2).trans rfl, (blk_cell BK332.out 3).trans rfl, ((HB.out.cell (World.block_lt_of_cell? w _ hw333_0)).trans hw333_0)⟩ (fun hHeld => ?_); refine with_tabW caduceusref01_Take.tab15 caduceusref01_Take.bits15 (fun HT_ HW_ => ?_)
           generalize w32.drew = w33 at HO_327000 BK323 BK326 BK332 HB hx333_0 hHeld ⊢
           refine pure_ (i := 0) (N := some 53) (v := ?_) (a' := ?_) #[true, false, false, false, false, false, false, false, false, false, false, false, false, false, false] rfl rfl (any_of HT_.out (by kernel_rfl)) (fun _ _ _ h => h) (Or.inl ⟨by rfl, ?_⟩) ?_ ?_
           rotate_left
           ·intro w'
            go_simp
            with_reducible rfl
           rotate_left
           ·simp only [Act.put, List.setIfInBounds_toArray, List.set_cons_zero, List.set_cons_succ, i64_w, i32_w]
            rfl
           refine pure_ (i := 2) (N := some 55) (v := ?_) (a' := ?_) #[true, false, true, false, false, false, false, false, false, false, false, false, false, false, false] rfl rfl (any_of HT_.out (by kernel_rfl)) (fun _ _ _ h => h) (Or.inl ⟨by rfl, ?_⟩) ?_ ?_
           rotate_left
           ·intro w'
            go_simp
            with_reducible rfl
           rotate_left
           ·simp only [Act.put, List.setIfInBounds_toArray, List.set_cons_zero, List.set_cons_succ, i64_w, i32_w]
            rfl
           refine pure_ (i := 3) (N := some 56) (v := ?_) (a' := ?_) #[true, false, true, true, false, false, false, false, false, false, false, false, false, false, false] rfl rfl (any_of HT_.out (by kernel_rfl)) (fun _ _ _ h => h) (Or.inl ⟨by rfl, ?_⟩) ?_ ?_
           rotate_left
           ·intro w'
            go_simp
            with_reducible rfl
           rotate_left
           ·simp only [Act.put, List.setIfInBounds_toArray, List.set_cons_zero, List.set_cons_succ, i64_w, i32_w]
            rfl
           refine pure_ (i := 4) (N := some 57) (v := ?_) (a' := ?_) #[true, false, true, true, true, false, false, false, false, false, false, false, false, false, false] rfl rfl (any_of HT_.out (by kernel_rfl)) (fun _ _ _ h => h) (Or.inl ⟨by rfl, ?_⟩) ?_ ?_
           rotate_left
           ·intro w'
            go_simp
            with_reducible rfl
           rotate_left
           ·simp only [Act.put, List.setIfInBounds_toArray, List.set_cons_zero, List.set_cons_succ, i64_w, i32_w]
            rfl
           refine pure_ (i := 6) (N := some 59) (v := ?_) (a' := ?_) #[true, false, true, true, true, false, true, false, false, false, false, false, false, false, false] rfl rfl (any_of HT_.out (by kernel_rfl)) (fun _ _ _ h => h) (Or.inl ⟨by rfl, ?_⟩) ?_ ?_
           rotate_left
           ·intro w'
            go_simp
            with_reducible rfl
           rotate_left
           ·simp only [Act.put, List.setIfInBounds_toArray, List.set_cons_zero, List.set_cons_succ, i64_w, i32_w]
            rfl
           refine pure_ (i := 8) (N := some 61) (v := ?_) (a' := ?_) #[true, false, true, true, true, false, true, false, true, false, false, false, false, false, false] rfl rfl (any_of HT_.out (by kernel_rfl)) (fun _ _ _ h => h) (Or.inl ⟨by rfl, ?_⟩) ?_ ?_
           rotate_left
           ·intro w'
            go_simp
            with_reducible rfl
           rotate_left
           ·simp only [Act.put, List.setIfInBounds_toArray, List.set_cons_zero, List.set_cons_succ, i64_w, i32_w]
            rfl
           refine take_ (i := 1) (N := some 54) (v := ?_) (a' := ?_) #[true, true, true, true, true, false, true, false, true, false, false, false, false, false, false] rfl rfl (take_ofW HT_.out HW_.out (by kernel_rfl)) (fun _ _ _ h => h) (Or.inl ⟨by rfl, ?_⟩) hHeld ?_ ?_
           rotate_left
           ·rintro w' ⟨s0, s1, s2, s3, s4, s5, s6, s7⟩
            go_simp
            with_reducible rfl
           rotate_left
           ·simp only [Act.put, List.setIfInBounds_toArray, List.set_cons_zero, List.set_cons_succ, i64_w, i32_w]
            rfl
           refine take_ (i := 5) (N := some 58) (v := ?_) (a' := ?_) #[true, true, true, true, true, true, true, false, true, false, false, false, false, false, false] rfl rfl (take_ofW HT_.out HW_.out (by kernel_rfl)) (fun _ _ _ h => h) (Or.inl ⟨by rfl, ?_⟩) hHeld ?_ ?_
           rotate_left
           ·rintro w' ⟨s0, s1, s2, s3, s4, s5, s6, s7⟩
            go_simp
            with_reducible rfl
           rotate_left
           ·simp only [Act.put, List.setIfInBounds_toArray, List.set_cons_zero, List.set_cons_succ, i64_w, i32_w]
            rfl
           refine take_ (i := 7) (N := some 60) (v := ?_) (a' := ?_) #[true, true, true, true, true, true, true, true, true, false, false, false, false, false, false] rfl rfl (take_ofW HT_.out HW_.out (by kernel_rfl)) (fun _ _ _ h => h) (Or.inl ⟨by rfl, ?_⟩) hHeld ?_ ?_
           rotate_left
           ·rintro w' ⟨s0, s1, s2, s3, s4, s5, s6, s7⟩
            go_simp
            with_reducible rfl
           rotate_left
           ·simp only [Act.put, List.setIfInBounds_toArray, List.set_cons_zero, List.set_cons_succ, i64_w, i32_w]
            rfl
           refine take_ (i := 9) (N := some 62) (v := ?_) (a' := ?_) #[true, true, true, true, true, true, true, true, true, true, false, false, false, false, false] rfl rfl (take_ofW HT_.out HW_.out (by kernel_rfl)) (fun _ _ _ h => h) (Or.inl ⟨by rfl, ?_⟩) hHeld ?_ ?_
           rotate_left
           ·rintro w' ⟨s0, s1, s2, s3, s4, s5, s6, s7⟩
            go_simp
            with_reducible rfl
           rotate_left
           ·simp only [Act.put, List.setIfInBounds_toArray, List.set_cons_zero, List.set_cons_succ, i64_w, i32_w]
            rfl
           refine pure_ (i := 10) (N := some 63) (v := ?_) (a' := ?_) #[true, true, true, true, true, true, true, true, true, true, true, false, false, false, false] rfl rfl (any_of HT_.out (by kernel_rfl)) (fun _ _ _ h => h) (Or.inl ⟨by rfl, ?_⟩) ?_ ?_
           rotate_left
           ·intro w'
            go_simp
            with_reducible rfl
           rotate_left
           ·simp only [Act.put, List.setIfInBounds_toArray, List.set_cons_zero, List.set_cons_succ, i64_w, i32_w]
            rfl
           refine one_ (i := 11) (N := some 64) #[true, true, true, true, true, true, true, true, true, true, true, true, false, false, false] rfl rfl (one_of HT_.out (by kernel_rfl)) (by decide) (fun K hK => ?_)
           refine value_ (w1 := ?_) (v := ?_) (by rfl) rfl ?_ ?_
           rotate_left 2
           ·go_simp
            constructor
            ·rfl
            ·rfl
           refine hK.out _ _ ⟨(blk_cell (blk_alloc BK326.out _) 0).trans rfl, (blk_cell (blk_alloc BK326.out _) 1).trans rfl, (blk_cell (blk_alloc BK326.out _) 2).trans rfl, (blk_cell (blk_alloc BK332.out _) 0).trans rfl, (blk_cell (blk_alloc BK332.out _) 1).trans rfl, (blk_cell (blk_alloc BK332.out _) 2).trans rfl, (blk_cell (blk_alloc BK332.out _) 3).trans rfl, (World.cell?_alloc_lt _ _ _ (World.block_lt_of_cell? _ _ (((HB.out.cell (World.block_lt_of_cell? w _ hw333_0)).trans hw333_0)))).trans (((HB.out.cell (World.block_lt_of_cell? w _ hw333_0)).trans hw333_0))⟩ (fun hHeld => ?_)
           clear hK K
           refine norm_ (a' := ?_) ?_ ?_
           rotate_left
           ·show Act.put _ (some 64) _ = _
            simp only [Act.put, List.setIfInBounds_toArray, List.set_cons_zero, List.set_cons_succ, i64_w, i32_w]
            rfl
           refine one_ (i := 12) (N := some 65) #[true, true, true, true, true, true, true, true, true, true, true, true, true, false, false] rfl rfl (one_of HT_.out (by kernel_rfl)) (by decide) (fun K hK => ?_)
           refine Kd.R_append_step k81 (w0 := w) w.heap.size (by rfl) (.tmp 54) (.tmp 64) 77 81 (.agg #[(.int .i64 0), (.int .i64 0), (.string ⟨#[]⟩)]) 32 rfl Try.underlying77 info81 rfl (by decide) (by omega) u327000 x327000_2 (⟨rd l1 x7_2, t328, t329⟩ : S81) [.int .i64 (rd l1 x7_2), .int .i64 t328, .string t329] (fun _ => True) (fun _ => False) rfl rfl ?aP (fun _ hk => hk.elim) ?aF ?aO ?aB ?aS ?aL ?_
           (case aP => exact k81_mkM _ _ _ (⟨rd l1 x7_2, t328, t329⟩ : S81))
           (case aB => exact (by repeat (first | (with_reducible first | exact HB.out ) )))
           (case aF => exact (fun _ _ => trivial))
           (case aO => exact (by (with_reducible repeat (fail)); exact HO_327000.out))
           (case aS => exact (below_size (by repeat (first | (with_reducible first | exact HB.out ) ))))
           (case aL => have := LMc20.out; omega)
           intro v335 w34 ho hb hg hat
           rw [← Ny334.out] at ho
           have n0_ := Aside0.mk (blk_grown (g := gb323) (o := .cells #[.slice none 0 0, .string x324001_2, .int .i64 x324002_2] 79 (0, 0)) (by (with_reducible repeat (fail)); exact BK323.out) hg (Kd.R_ne HO_327000.out BK323.out (by decide)))
           have n1_ := Aside0.mk (blk_grown (g := gb326) (o := .cells #[u327000, .string x327001_2, .int .i64 0] 79 (0, 0)) (by (with_reducible repeat (fail)); exact BK326.out) hg (Kd.R_ne HO_327000.out BK326.out (by decide)))
           have n2_ := Aside0.mk (blk_grown (g := gb332) (o := .cells #[.int .i64 t328, .string t329, .string t330, .int .i64 t331] 93 (0, 0)) (by (with_reducible repeat (fail)); exact BK332.out) hg (Kd.R_ne HO_327000.out BK332.out (by decide)))
           have n3_ := Aside0.mk (hb)
           have n4_ := Aside0.mk (ho)
           clear BK323
           clear BK326
           clear BK332
           clear HB
           clear HO_327000
           have BK323 := n0_
           have BK326 := n1_
           have BK332 := n2_
           have HB := n3_
           have HO336 := n4_
           clear n0_ n1_ n2_ n3_ n4_
           clear ho hb hg hat
           obtain ⟨Ao35, co35, eo35⟩ := Kd.R_slice HO336.out
           (first | subst eo35 )
           refine hK.out _ _ ⟨(blk_cell BK326.out 0).trans rfl, (blk_cell BK326.out 1).trans rfl, (blk_cell BK326.out 2).trans rfl, (blk_cell BK332.out 0).trans rfl, (blk_cell BK332.out 1).trans rfl, (blk_cell BK332.out 2).trans rfl, (blk_cell BK332.out 3).trans rfl, ((HB.out.cell (World.block_lt_of_cell? w _ hw333_0)).trans hw333_0)⟩ (fun hHeld => ?_)
           clear hK K
           refine norm_ (a' := ?_) ?_ ?_
           rotate_left
           ·show Act.put _ (some 65) _ = _
            simp only [Act.put, List.setIfInBounds_toArray, List.set_cons_zero, List.set_cons_succ, i64_w, i32_w]
            rfl
           refine pure_ (i := 13) (N := some 66) (v := ?_) (a' := ?_) #[true, true, true, true, true, true, true, true, true, true, true, true, true, true, false] rfl rfl (any_of HT_.out (by kernel_rfl)) (fun _ _ _ h => h) (Or.inl ⟨by rfl, ?_⟩) ?_ ?_
           rotate_left
           ·intro w'
            go_simp
            with_reducible rfl
           rotate_left
           ·simp only [Act.put, List.setIfInBounds_toArray, List.set_cons_zero, List.set_cons_succ, i64_w, i32_w]
            rfl
           refine last_ (i := 14) (N := none) #[true, true, true, true, true, true, true, true, true, true, true, true, true, true, true] rfl rfl (one_of HT_.out (by kernel_rfl)) (by decide) (fun K hK => ?_)
           have hs36 : w34.cell? ⟨gb326, 0, none⟩ = some (u327000) := (blk_cell BK326.out 0).trans rfl
           have hfs36 := blk_frozen BK326.out 0
           have hns36_0 := NB323_326.out
           have hns36_2 := NB332_326.out
           have hms36_0 := NB326_323.out
           have hms36_2 := NB326_332.out
           refine skip_ (w1 := ?_) (by rfl) rfl ?_ ?_
           rotate_left
           ·go_simp
            rfl
           refine hK.out _ _ ?_
           clear hK K
           refine done_ (done_of HT_.out (by kernel_rfl)) ?_
           have hcz37_0 : w34.cell? ⟨gb332, 0, none⟩ = some (.int .i64 t328) := (blk_cell BK332.out 0).trans rfl
           have hcz37_1 : w34.cell? ⟨gb332, 1, none⟩ = some (.string t329) := (blk_cell BK332.out 1).trans rfl
           have hcz37_2 : w34.cell? ⟨gb332, 2, none⟩ = some (.string t330) := (blk_cell BK332.out 2).trans rfl
           have hcz37_3 : w34.cell? ⟨gb332, 3, none⟩ = some (.int .i64 t331) := (blk_cell BK332.out 3).trans rfl
           have hfz37_0 := blk_frozen BK332.out 0
           have hfz37_1 := blk_frozen BK332.out 1
           have hfz37_2 := blk_frozen BK332.out 2
           have hfz37_3 := blk_frozen BK332.out 3
           have hnb38 := NB326_323.out
           have hnc38 := NB323_326.out
           have hcz39_0 : w34.cell? ⟨gb326, 0, none⟩ = some (u327000) := (blk_cell BK326.out 0).trans rfl
           have hcz39_1 : w34.cell? ⟨gb326, 1, none⟩ = some (.string x327001_2) := (blk_cell BK326.out 1).trans rfl
           have hcz39_2 : w34.cell? ⟨gb326, 2, none⟩ = some (.int .i64 0) := (blk_cell BK326.out 2).trans rfl
           have hfz39_0 := blk_frozen BK326.out 0
           have hfz39_1 := blk_frozen BK326.out 1
           have hfz39_2 := blk_frozen BK326.out 2
           try go_wp2
           go_roundg k2
           case measure => have := HK1.out; have := HK2.out; omega
           case rel => exact ⟨(wrap64 (x7_2 + 1)), (x324001_2), (x324002_2), (y334), (t330), (.slice Ao35 y334.length co35), (by first | rfl ), H', ⟨by have := HK1.out; have := HK2.out; omega⟩, ⟨by (with_reducible repeat (fail)); exact Kd.R_mono (Kd.R_far (p := ⟨gb326, 1, none⟩) (Kd.R_far (p := ⟨gb326, 0, none⟩) (Kd.R_types HO336.out BK326.out (by decide)) (fun _ hk => hk.2) (.slice Ao35 y334.length co35)) (fun _ hk => hk.2) (.string t330)) (fun _ hk => trivial)⟩, ⟨by (with_reducible repeat (fail)); refine blk_far ?_ NB323_326.out _; (with_reducible repeat (fail)); refine blk_far ?_ NB323_326.out _; (with_reducible repeat (fail)); exact BK323.out⟩, ⟨by (with_reducible repeat (fail)); refine blk_put (cs := #[.slice Ao35 y334.length co35, .string x327001_2, .int .i64 0]) ?_ 1 _ rfl; (with_reducible repeat (fail)); refine blk_put (cs := #[u327000, .string x327001_2, .int .i64 0]) ?_ 0 _ rfl; (with_reducible repeat (fail)); exact BK326.out⟩, ⟨by repeat (first | (with_reducible first | exact HB.out | refine below_set ?_ GE326.out ) )⟩⟩
          ·rw [if_neg c20] at H
           exact absurd H (by simp)
         ·rw [if_neg c19] at H
          have c19b0 : (t331 == 0) = false := beq_eq_false_iff_ne.mpr c19
          have c19b1 : (t331 != 0) = true := bne_iff_ne.mpr c19
          simp only [Option.some.injEq, Prod.mk.injEq] at H
          obtain ⟨rfl, rfl, rfl⟩ := H
          try go_wp2
          have n0_ := Aside0.mk (Kd.R_drew HO_327000.out)
          have n1_ := Aside0.mk (blk_drew BK323.out)
          have n2_ := Aside0.mk (blk_drew BK326.out)
          have n3_ := Aside0.mk (below_drew1 HB.out)
          clear HO_327000
          clear BK323
          clear BK326
          clear HB
          have HO_327000 := n0_
          have BK323 := n1_
          have BK326 := n2_
          have HB := n3_
          clear n0_ n1_ n2_ n3_
          have p327 : 0 ≤ (x7_2 : Int) := of_decide_eq_true (by first | (with_reducible assumption) )
          have q327 : x7_2 < (l1.length : Int) := of_decide_eq_true (by first | (with_reducible assumption) )
          obtain ⟨ad327, e327, hx327_0⟩ := Kd.at_int HR1.out x7_2 p327 q327
          have hw327_0 := hx327_0
          cases e327
          replace hx327_0 := (HB.out.cell (World.block_lt_of_cell? w _ hx327_0)).trans hx327_0
          replace p327 := eq_true p327
          replace q327 := eq_true q327
          refine start_ (n := 9) (S := fun w' => w'.cell? ⟨gb326, 0, none⟩ = some (u327000) ∧ w'.cell? ⟨gb326, 1, none⟩ = some (.string x327001_2) ∧ w'.cell? ⟨gb326, 2, none⟩ = some (.int .i64 0) ∧ w'.cell? (ad327.add (x7_2).toNat) = some (.int .i64 (rd l1 x7_2))) (ds := []) #[false, false, false, false, false, false, false, false, false] (by kernel_rfl) rfl rfl ⟨(blk_cell BK326.out 0).trans rfl, (blk_cell BK326.out 1).trans rfl, (blk_cell BK326.out 2).trans rfl, ((HB.out.cell (World.block_lt_of_cell? w _ hw327_0)).trans hw327_0)⟩ (fun hHeld => ?_); refine with_tabW caduceusref01_Take.tab12 caduceusref01_Take.bits12 (fun HT_ HW_ => ?_)
          generalize wr.drew = w40 at HO_327000 BK323 BK326 HB hx327_0 hHeld ⊢
          refine pure_ (i := 0) (N := some 40) (v := ?_) (a' := ?_) #[true, false, false, false, false, false, false, false, false] rfl rfl (any_of HT_.out (by kernel_rfl)) (fun _ _ _ h => h) (Or.inl ⟨by rfl, ?_⟩) ?_ ?_
          rotate_left
          ·intro w'
           go_simp
           with_reducible rfl
          rotate_left
          ·simp only [Act.put, List.setIfInBounds_toArray, List.set_cons_zero, List.set_cons_succ, i64_w, i32_w]
           rfl
          refine pure_ (i := 2) (N := some 42) (v := ?_) (a' := ?_) #[true, false, true, false, false, false, false, false, false] rfl rfl (any_of HT_.out (by kernel_rfl)) (fun _ _ _ h => h) (Or.inl ⟨by rfl, ?_⟩) ?_ ?_
          rotate_left
          ·intro w'
           go_simp
           with_reducible rfl
          rotate_left
          ·simp only [Act.put, List.setIfInBounds_toArray, List.set_cons_zero, List.set_cons_succ, i64_w, i32_w]
           rfl
          refine pure_ (i := 3) (N := some 43) (v := ?_) (a' := ?_) #[true, false, true, true, false, false, false, false, false] rfl rfl (any_of HT_.out (by kernel_rfl)) (fun _ _ _ h => h) (Or.inl ⟨by rfl, ?_⟩) ?_ ?_
          rotate_left
          ·intro w'
           go_simp
           with_reducible rfl
          rotate_left
          ·simp only [Act.put, List.setIfInBounds_toArray, List.set_cons_zero, List.set_cons_succ, i64_w, i32_w]
           rfl
          refine pure_ (i := 4) (N := some 44) (v := ?_) (a' := ?_) #[true, false, true, true, true, false, false, false, false] rfl rfl (any_of HT_.out (by kernel_rfl)) (fun _ _ _ h => h) (Or.inl ⟨by rfl, ?_⟩) ?_ ?_
          rotate_left
          ·intro w'
           go_simp
           with_reducible rfl
          rotate_left
          ·simp only [Act.put, List.setIfInBounds_toArray, List.set_cons_zero, List.set_cons_succ, i64_w, i32_w]
           rfl
          refine take_ (i := 1) (N := some 41) (v := ?_) (a' := ?_) #[true, true, true, true, true, false, false, false, false] rfl rfl (take_ofW HT_.out HW_.out (by kernel_rfl)) (fun _ _ _ h => h) (Or.inl ⟨by rfl, ?_⟩) hHeld ?_ ?_
          rotate_left
          ·rintro w' ⟨s0, s1, s2, s3⟩
           go_simp
           with_reducible rfl
          rotate_left
          ·simp only [Act.put, List.setIfInBounds_toArray, List.set_cons_zero, List.set_cons_succ, i64_w, i32_w]
           rfl
          refine take_ (i := 5) (N := some 45) (v := ?_) (a' := ?_) #[true, true, true, true, true, true, false, false, false] rfl rfl (take_ofW HT_.out HW_.out (by kernel_rfl)) (fun _ _ _ h => h) (Or.inl ⟨by rfl, ?_⟩) hHeld ?_ ?_
          rotate_left
          ·rintro w' ⟨s0, s1, s2, s3⟩
           go_simp
           with_reducible rfl
          rotate_left
          ·simp only [Act.put, List.setIfInBounds_toArray, List.set_cons_zero, List.set_cons_succ, i64_w, i32_w]
           rfl
          refine join_ (σ := Nat) 1 #[true, true, true, true, true, true, true, true, false] (fun s_ => [(46, .agg #[.int .i64 t328, .string t329, .string t330, .int .i64 t331]), (8, .pointer (some ⟨s_, 0, none⟩))]) (fun s_ w' => (w'.cell? ⟨gb326, 0, none⟩ = some (u327000) ∧ w'.cell? ⟨gb326, 1, none⟩ = some (.string x327001_2) ∧ w'.cell? ⟨gb326, 2, none⟩ = some (.int .i64 0) ∧ w'.cell? (ad327.add (x7_2).toNat) = some (.int .i64 (rd l1 x7_2))) ∧ (Kd.R k81 81 w' w.heap.size (fun _ => True) u327000 x327000_2) ∧ (w'.heap[gb323]? = some (.cells #[.slice none 0 0, .string x324001_2, .int .i64 x324002_2] 79 (0, 0))) ∧ (w'.heap[gb326]? = some (.cells #[u327000, .string x327001_2, .int .i64 0] 79 (0, 0))) ∧ (w'.heap[s_]? = some (.cells #[.int .i64 0, .string (⟨#[]⟩ : ByteArray), .string (⟨#[]⟩ : ByteArray), .int .i64 0] 93 (0, 0))) ∧ (w.heap.size ≤ s_) ∧ (w.heap.size ≤ s_) ∧ (gb323 ≠ s_) ∧ (s_ ≠ gb323) ∧ (gb326 ≠ s_) ∧ (s_ ≠ gb326) ∧ (Below w.heap.size w w')) ?_ ?_
          rotate_left
          ·intro hCont
           refine two_ (i := 6) (j := 7) (Ni := some 46) (Nj := some 8) #[true, true, true, true, true, true, true, false, false] #[true, true, true, true, true, true, false, true, false] rfl rfl rfl rfl (two_of HT_.out (by kernel_rfl)) (by decide) (by decide) (fun K hK => ?_) (fun K hK => ?_)
           ·skip
            refine goes_ Try.func54 (by kernel_rfl) rfl #[.string x327001_2, .int .i64 (rd l1 x7_2)] (by rfl) rfl rfl (by (try simp only [List.map_toArray, List.map_cons, List.map_nil]); first | rfl ) ?_
            with_reducible refine (caduceusref01_take.calls k2 x327001_2 (rd l1 x7_2) t328 t329 t330 t331 _ A18.out).mono ?_
            rintro e w41 ⟨rfl, hb⟩
            refine ⟨_, rfl, ?_⟩
            have n0_ := Aside0.mk (Kd.R_below (by (with_reducible repeat (fail)); exact HO_327000.out) hb)
            have n1_ := Aside0.mk (blk_below (g := gb323) (o := .cells #[.slice none 0 0, .string x324001_2, .int .i64 x324002_2] 79 (0, 0)) (by (with_reducible repeat (fail)); exact BK323.out) hb)
            have n2_ := Aside0.mk (blk_below (g := gb326) (o := .cells #[u327000, .string x327001_2, .int .i64 0] 79 (0, 0)) (by (with_reducible repeat (fail)); exact BK326.out) hb)
            have n3_ := Aside0.mk (below_step (by repeat (first | (with_reducible first | exact HB.out ) )) hb)
            clear HO_327000
            clear BK323
            clear BK326
            clear HB
            have HO_327000 := n0_
            have BK323 := n1_
            have BK326 := n2_
            have HB := n3_
            clear n0_ n1_ n2_ n3_
            (try clear hb)
            (try clear hb2)
            (try clear hk)
            (try clear hi)
            refine hK.out _ _ ⟨(blk_cell BK326.out 0).trans rfl, (blk_cell BK326.out 1).trans rfl, (blk_cell BK326.out 2).trans rfl, ((HB.out.cell (World.block_lt_of_cell? w _ hw327_0)).trans hw327_0)⟩ (fun hHeld => ?_)
            clear hK K
            refine norm_ (a' := ?_) ?_ ?_
            rotate_left
            ·show Act.put _ (some 46) _ = _
             simp only [Act.put, List.setIfInBounds_toArray, List.set_cons_zero, List.set_cons_succ, i64_w, i32_w]
             rfl
            refine one_ (i := 7) (N := some 8) #[true, true, true, true, true, true, true, true, false] rfl rfl (one_of HT_.out (by kernel_rfl)) (by decide) (fun K hK => ?_)
            refine box_step ?hg (N := 8) ?hd (cs := #[.int .i64 0, .string (⟨#[]⟩ : ByteArray), .string (⟨#[]⟩ : ByteArray), .int .i64 0]) (t := 93) ?hr ?_; (case hd => rfl); (case hg => rfl); (case hr => first | (go_simp; done) )
            intro gb332 hg w42 hbox hb
            have n0_ := Aside0.mk (Kd.R_below (by (with_reducible repeat (fail)); exact HO_327000.out) hb)
            have n1_ := Aside0.mk (blk_below (g := gb323) (o := .cells #[.slice none 0 0, .string x324001_2, .int .i64 x324002_2] 79 (0, 0)) (by (with_reducible repeat (fail)); exact BK323.out) hb)
            have n2_ := Aside0.mk (blk_below (g := gb326) (o := .cells #[u327000, .string x327001_2, .int .i64 0] 79 (0, 0)) (by (with_reducible repeat (fail)); exact BK326.out) hb)
            have n3_ := Aside0.mk (below_step (by repeat (first | (with_reducible first | exact HB.out ) )) hb)
            have n4_ := Aside0.mk (hbox)
            have n5_ := Aside0.mk ((by rw [hg]; exact (below_size (by repeat (first | (with_reducible first | exact HB.out ) ))) : w.heap.size ≤ gb332))
            have n6_ := Aside0.mk ((by rw [hg]; exact (below_size (by repeat (first | (with_reducible first | exact HB.out ) ))) : w.heap.size ≤ gb332))
            have n7_ := Aside0.mk ((by rw [hg]; exact Nat.ne_of_lt (blk_lt (g := gb323) (o := .cells #[.slice none 0 0, .string x324001_2, .int .i64 x324002_2] 79 (0, 0)) (by (with_reducible repeat (fail)); exact BK323.out)) : gb323 ≠ gb332))
            have n8_ := Aside0.mk ((by rw [hg]; exact Nat.ne_of_gt (blk_lt (g := gb323) (o := .cells #[.slice none 0 0, .string x324001_2, .int .i64 x324002_2] 79 (0, 0)) (by (with_reducible repeat (fail)); exact BK323.out)) : gb332 ≠ gb323))
            have n9_ := Aside0.mk ((by rw [hg]; exact Nat.ne_of_lt (blk_lt (g := gb326) (o := .cells #[u327000, .string x327001_2, .int .i64 0] 79 (0, 0)) (by (with_reducible repeat (fail)); exact BK326.out)) : gb326 ≠ gb332))
            have n10_ := Aside0.mk ((by rw [hg]; exact Nat.ne_of_gt (blk_lt (g := gb326) (o := .cells #[u327000, .string x327001_2, .int .i64 0] 79 (0, 0)) (by (with_reducible repeat (fail)); exact BK326.out)) : gb332 ≠ gb326))
            clear HO_327000
            clear BK323
            clear BK326
            clear HB
            have HO_327000 := n0_
            have BK323 := n1_
            have BK326 := n2_
            have HB := n3_
            have BK332 := n4_
            have GW332 := n5_
            have GE332 := n6_
            have NB323_332 := n7_
            have NB332_323 := n8_
            have NB326_332 := n9_
            have NB332_326 := n10_
            clear n0_ n1_ n2_ n3_ n4_ n5_ n6_ n7_ n8_ n9_ n10_
            clear hb hbox hg
            refine hK.out _ _ ⟨(blk_cell BK326.out 0).trans rfl, (blk_cell BK326.out 1).trans rfl, (blk_cell BK326.out 2).trans rfl, ((HB.out.cell (World.block_lt_of_cell? w _ hw327_0)).trans hw327_0)⟩ (fun hHeld => ?_)
            clear hK K
            refine norm_ (a' := ?_) ?_ ?_
            rotate_left
            ·show Act.put _ (some 8) _ = _
             simp only [Act.put, List.setIfInBounds_toArray, List.set_cons_zero, List.set_cons_succ, i64_w, i32_w]
             rfl
            exact norm_ (by simp only [putAll, Act.put, List.setIfInBounds_toArray, List.set_cons_zero, List.set_cons_succ]) (hCont (gb332) _ ⟨hHeld, (by (with_reducible repeat (fail)); exact HO_327000.out), (by (with_reducible repeat (fail)); exact BK323.out), (by (with_reducible repeat (fail)); exact BK326.out), (by (with_reducible repeat (fail)); exact BK332.out), GW332.out, GE332.out, NB323_332.out, NB332_323.out, NB326_332.out, NB332_326.out, (by repeat (first | (with_reducible first | exact HB.out ) ))⟩)
           ·skip
            refine box_step ?hg (N := 8) ?hd (cs := #[.int .i64 0, .string (⟨#[]⟩ : ByteArray), .string (⟨#[]⟩ : ByteArray), .int .i64 0]) (t := 93) ?hr ?_; (case hd => rfl); (case hg => rfl); (case hr => first | (go_simp; done) )
            intro gb332 hg w41 hbox hb
            have n0_ := Aside0.mk (Kd.R_below (by (with_reducible repeat (fail)); exact HO_327000.out) hb)
            have n1_ := Aside0.mk (blk_below (g := gb323) (o := .cells #[.slice none 0 0, .string x324001_2, .int .i64 x324002_2] 79 (0, 0)) (by (with_reducible repeat (fail)); exact BK323.out) hb)
            have n2_ := Aside0.mk (blk_below (g := gb326) (o := .cells #[u327000, .string x327001_2, .int .i64 0] 79 (0, 0)) (by (with_reducible repeat (fail)); exact BK326.out) hb)
            have n3_ := Aside0.mk (below_step (by repeat (first | (with_reducible first | exact HB.out ) )) hb)
            have n4_ := Aside0.mk (hbox)
            have n5_ := Aside0.mk ((by rw [hg]; exact (below_size (by repeat (first | (with_reducible first | exact HB.out ) ))) : w.heap.size ≤ gb332))
            have n6_ := Aside0.mk ((by rw [hg]; exact (below_size (by repeat (first | (with_reducible first | exact HB.out ) ))) : w.heap.size ≤ gb332))
            have n7_ := Aside0.mk ((by rw [hg]; exact Nat.ne_of_lt (blk_lt (g := gb323) (o := .cells #[.slice none 0 0, .string x324001_2, .int .i64 x324002_2] 79 (0, 0)) (by (with_reducible repeat (fail)); exact BK323.out)) : gb323 ≠ gb332))
            have n8_ := Aside0.mk ((by rw [hg]; exact Nat.ne_of_gt (blk_lt (g := gb323) (o := .cells #[.slice none 0 0, .string x324001_2, .int .i64 x324002_2] 79 (0, 0)) (by (with_reducible repeat (fail)); exact BK323.out)) : gb332 ≠ gb323))
            have n9_ := Aside0.mk ((by rw [hg]; exact Nat.ne_of_lt (blk_lt (g := gb326) (o := .cells #[u327000, .string x327001_2, .int .i64 0] 79 (0, 0)) (by (with_reducible repeat (fail)); exact BK326.out)) : gb326 ≠ gb332))
            have n10_ := Aside0.mk ((by rw [hg]; exact Nat.ne_of_gt (blk_lt (g := gb326) (o := .cells #[u327000, .string x327001_2, .int .i64 0] 79 (0, 0)) (by (with_reducible repeat (fail)); exact BK326.out)) : gb332 ≠ gb326))
            clear HO_327000
            clear BK323
            clear BK326
            clear HB
            have HO_327000 := n0_
            have BK323 := n1_
            have BK326 := n2_
            have HB := n3_
            have BK332 := n4_
            have GW332 := n5_
            have GE332 := n6_
            have NB323_332 := n7_
            have NB332_323 := n8_
            have NB326_332 := n9_
            have NB332_326 := n10_
            clear n0_ n1_ n2_ n3_ n4_ n5_ n6_ n7_ n8_ n9_ n10_
            clear hb hbox hg
            refine hK.out _ _ ⟨(blk_cell BK326.out 0).trans rfl, (blk_cell BK326.out 1).trans rfl, (blk_cell BK326.out 2).trans rfl, ((HB.out.cell (World.block_lt_of_cell? w _ hw327_0)).trans hw327_0)⟩ (fun hHeld => ?_)
            clear hK K
            refine norm_ (a' := ?_) ?_ ?_
            rotate_left
            ·show Act.put _ (some 8) _ = _
             simp only [Act.put, List.setIfInBounds_toArray, List.set_cons_zero, List.set_cons_succ, i64_w, i32_w]
             rfl
            refine one_ (i := 6) (N := some 46) #[true, true, true, true, true, true, true, true, false] rfl rfl (one_of HT_.out (by kernel_rfl)) (by decide) (fun K hK => ?_)
            refine goes_ Try.func54 (by kernel_rfl) rfl #[.string x327001_2, .int .i64 (rd l1 x7_2)] (by rfl) rfl rfl (by (try simp only [List.map_toArray, List.map_cons, List.map_nil]); first | rfl ) ?_
            with_reducible refine (caduceusref01_take.calls k2 x327001_2 (rd l1 x7_2) t328 t329 t330 t331 _ A18.out).mono ?_
            rintro e w42 ⟨rfl, hb⟩
            refine ⟨_, rfl, ?_⟩
            have n0_ := Aside0.mk (Kd.R_below (by (with_reducible repeat (fail)); exact HO_327000.out) hb)
            have n1_ := Aside0.mk (blk_below (g := gb323) (o := .cells #[.slice none 0 0, .string x324001_2, .int .i64 x324002_2] 79 (0, 0)) (by (with_reducible repeat (fail)); exact BK323.out) hb)
            have n2_ := Aside0.mk (blk_below (g := gb326) (o := .cells #[u327000, .string x327001_2, .int .i64 0] 79 (0, 0)) (by (with_reducible repeat (fail)); exact BK326.out) hb)
            have n3_ := Aside0.mk (blk_below (g := gb332) (o := .cells #[.int .i64 0, .string (⟨#[]⟩ : ByteArray), .string (⟨#[]⟩ : ByteArray), .int .i64 0] 93 (0, 0)) (by (with_reducible repeat (fail)); exact BK332.out) hb)
            have n4_ := Aside0.mk (below_step (by repeat (first | (with_reducible first | exact HB.out ) )) hb)
            clear HO_327000
            clear BK323
            clear BK326
            clear BK332
            clear HB
            have HO_327000 := n0_
            have BK323 := n1_
            have BK326 := n2_
            have BK332 := n3_
            have HB := n4_
            clear n0_ n1_ n2_ n3_ n4_
            (try clear hb)
            (try clear hb2)
            (try clear hk)
            (try clear hi)
            refine hK.out _ _ ⟨(blk_cell BK326.out 0).trans rfl, (blk_cell BK326.out 1).trans rfl, (blk_cell BK326.out 2).trans rfl, ((HB.out.cell (World.block_lt_of_cell? w _ hw327_0)).trans hw327_0)⟩ (fun hHeld => ?_)
            clear hK K
            refine norm_ (a' := ?_) ?_ ?_
            rotate_left
            ·show Act.put _ (some 46) _ = _
             simp only [Act.put, List.setIfInBounds_toArray, List.set_cons_zero, List.set_cons_succ, i64_w, i32_w]
             rfl
            exact norm_ (by simp only [putAll, Act.put, List.setIfInBounds_toArray, List.set_cons_zero, List.set_cons_succ]) (hCont (gb332) _ ⟨hHeld, (by (with_reducible repeat (fail)); exact HO_327000.out), (by (with_reducible repeat (fail)); exact BK323.out), (by (with_reducible repeat (fail)); exact BK326.out), (by (with_reducible repeat (fail)); exact BK332.out), GW332.out, GE332.out, NB323_332.out, NB332_323.out, NB326_332.out, NB332_326.out, (by repeat (first | (with_reducible first | exact HB.out ) ))⟩)
          rintro gb332 w43 ⟨hS_, h0_, h1_, h2_, h3_, h4_, h5_, h6_, h7_, h8_, h9_, h10_⟩
          have n0_ : Aside0 (Kd.R k81 81 w43 w.heap.size (fun _ => True) u327000 x327000_2) := ⟨h0_⟩
          have n1_ : Aside0 (w43.heap[gb323]? = some (.cells #[.slice none 0 0, .string x324001_2, .int .i64 x324002_2] 79 (0, 0))) := ⟨h1_⟩
          have n2_ : Aside0 (w43.heap[gb326]? = some (.cells #[u327000, .string x327001_2, .int .i64 0] 79 (0, 0))) := ⟨h2_⟩
          have n3_ : Aside0 (w43.heap[gb332]? = some (.cells #[.int .i64 0, .string (⟨#[]⟩ : ByteArray), .string (⟨#[]⟩ : ByteArray), .int .i64 0] 93 (0, 0))) := ⟨h3_⟩
          have n4_ : Aside0 (w.heap.size ≤ gb332) := ⟨h4_⟩
          have n5_ : Aside0 (w.heap.size ≤ gb332) := ⟨h5_⟩
          have n6_ : Aside0 (gb323 ≠ gb332) := ⟨h6_⟩
          have n7_ : Aside0 (gb332 ≠ gb323) := ⟨h7_⟩
          have n8_ : Aside0 (gb326 ≠ gb332) := ⟨h8_⟩
          have n9_ : Aside0 (gb332 ≠ gb326) := ⟨h9_⟩
          have n10_ : Aside0 (Below w.heap.size w w43) := ⟨h10_⟩
          clear HO_327000
          clear BK323
          clear BK326
          clear HB
          clear h0_ h1_ h2_ h3_ h4_ h5_ h6_ h7_ h8_ h9_ h10_
          have HO_327000 := n0_
          have BK323 := n1_
          have BK326 := n2_
          have BK332 := n3_
          have GW332 := n4_
          have GE332 := n5_
          have NB323_332 := n6_
          have NB332_323 := n7_
          have NB326_332 := n8_
          have NB332_326 := n9_
          have HB := n10_
          clear n0_ n1_ n2_ n3_ n4_ n5_ n6_ n7_ n8_ n9_ n10_
          have hHeld : w43.cell? ⟨gb326, 0, none⟩ = some (u327000) ∧ w43.cell? ⟨gb326, 1, none⟩ = some (.string x327001_2) ∧ w43.cell? ⟨gb326, 2, none⟩ = some (.int .i64 0) ∧ w43.cell? (ad327.add (x7_2).toNat) = some (.int .i64 (rd l1 x7_2)) := hS_
          refine norm_ (a' := ?_) ?_ ?_
          rotate_left
          ·simp only [putAll, Act.put, List.setIfInBounds_toArray, List.set_cons_zero, List.set_cons_succ]
           rfl
          refine one_ (i := 8) (N := none) #[true, true, true, true, true, true, true, true, true] rfl rfl (one_of HT_.out (by kernel_rfl)) (by decide) (fun K hK => ?_)
          have hs44 : w43.cell? ⟨gb332, 0, none⟩ = some (.int .i64 0) := (blk_cell BK332.out 0).trans rfl
          have hfs44 := blk_frozen BK332.out 0
          have hns44_0 := NB323_332.out
          have hns44_1 := NB326_332.out
          have hms44_0 := NB332_323.out
          have hms44_1 := NB332_326.out
          have hs45 : w43.cell? ⟨gb332, 1, none⟩ = some (.string (⟨#[]⟩ : ByteArray)) := (blk_cell BK332.out 1).trans rfl
          have hfs45 := blk_frozen BK332.out 1
          have hns45_0 := NB323_332.out
          have hns45_1 := NB326_332.out
          have hms45_0 := NB332_323.out
          have hms45_1 := NB332_326.out
          have hs46 : w43.cell? ⟨gb332, 2, none⟩ = some (.string (⟨#[]⟩ : ByteArray)) := (blk_cell BK332.out 2).trans rfl
          have hfs46 := blk_frozen BK332.out 2
          have hns46_0 := NB323_332.out
          have hns46_1 := NB326_332.out
          have hms46_0 := NB332_323.out
          have hms46_1 := NB332_326.out
          have hs47 : w43.cell? ⟨gb332, 3, none⟩ = some (.int .i64 0) := (blk_cell BK332.out 3).trans rfl
          have hfs47 := blk_frozen BK332.out 3
          have hns47_0 := NB323_332.out
          have hns47_1 := NB326_332.out
          have hms47_0 := NB332_323.out
          have hms47_1 := NB332_326.out
          refine skip_ (w1 := ?_) (by rfl) rfl ?_ ?_
          rotate_left
          ·go_simp
           rfl
          refine hK.out _ _ ⟨((cell_far (p := ⟨gb332, _, none⟩) NB326_332.out _).trans (((cell_far (p := ⟨gb332, _, none⟩) NB326_332.out _).trans (((cell_far (p := ⟨gb332, _, none⟩) NB326_332.out _).trans (((cell_far (p := ⟨gb332, _, none⟩) NB326_332.out _).trans (hHeld.1)))))))), ((cell_far (p := ⟨gb332, _, none⟩) NB326_332.out _).trans (((cell_far (p := ⟨gb332, _, none⟩) NB326_332.out _).trans (((cell_far (p := ⟨gb332, _, none⟩) NB326_332.out _).trans (((cell_far (p := ⟨gb332, _, none⟩) NB326_332.out _).trans (hHeld.2.1)))))))), ((cell_far (p := ⟨gb332, _, none⟩) NB326_332.out _).trans (((cell_far (p := ⟨gb332, _, none⟩) NB326_332.out _).trans (((cell_far (p := ⟨gb332, _, none⟩) NB326_332.out _).trans (((cell_far (p := ⟨gb332, _, none⟩) NB326_332.out _).trans (hHeld.2.2.1)))))))), ((cell_far (p := ⟨gb332, _, none⟩) (by first | exact Nat.ne_of_lt (Nat.lt_of_lt_of_le (by have := World.block_lt_of_cell? _ _ hw327_0; first | exact this) GW332.out) ) _).trans (((cell_far (p := ⟨gb332, _, none⟩) (by first | exact Nat.ne_of_lt (Nat.lt_of_lt_of_le (by have := World.block_lt_of_cell? _ _ hw327_0; first | exact this) GW332.out) ) _).trans (((cell_far (p := ⟨gb332, _, none⟩) (by first | exact Nat.ne_of_lt (Nat.lt_of_lt_of_le (by have := World.block_lt_of_cell? _ _ hw327_0; first | exact this) GW332.out) ) _).trans (((cell_far (p := ⟨gb332, _, none⟩) (by first | exact Nat.ne_of_lt (Nat.lt_of_lt_of_le (by have := World.block_lt_of_cell? _ _ hw327_0; first | exact this) GW332.out) ) _).trans (hHeld.2.2.2))))))))⟩ (fun hHeld => ?_)
          clear hK K
          refine done_ (done_of HT_.out (by kernel_rfl)) ?_
          have hnb48 := NB332_323.out
          have hnc48 := NB323_332.out
          have hnb49 := NB332_326.out
          have hnc49 := NB326_332.out
          have hcz50_0 : w43.cell? ⟨gb332, 0, none⟩ = some (.int .i64 0) := (blk_cell BK332.out 0).trans rfl
          have hcz50_1 : w43.cell? ⟨gb332, 1, none⟩ = some (.string (⟨#[]⟩ : ByteArray)) := (blk_cell BK332.out 1).trans rfl
          have hcz50_2 : w43.cell? ⟨gb332, 2, none⟩ = some (.string (⟨#[]⟩ : ByteArray)) := (blk_cell BK332.out 2).trans rfl
          have hcz50_3 : w43.cell? ⟨gb332, 3, none⟩ = some (.int .i64 0) := (blk_cell BK332.out 3).trans rfl
          have hfz50_0 := blk_frozen BK332.out 0
          have hfz50_1 := blk_frozen BK332.out 1
          have hfz50_2 := blk_frozen BK332.out 2
          have hfz50_3 := blk_frozen BK332.out 3
          have hnb51 := NB323_326.out
          have hnc51 := NB326_323.out
          have hcz52_0 : w43.cell? ⟨gb323, 0, none⟩ = some (.slice none 0 0) := (blk_cell BK323.out 0).trans rfl
          have hcz52_1 : w43.cell? ⟨gb323, 1, none⟩ = some (.string x324001_2) := (blk_cell BK323.out 1).trans rfl
          have hcz52_2 : w43.cell? ⟨gb323, 2, none⟩ = some (.int .i64 x324002_2) := (blk_cell BK323.out 2).trans rfl
          have hfz52_0 := blk_frozen BK323.out 0
          have hfz52_1 := blk_frozen BK323.out 1
          have hfz52_2 := blk_frozen BK323.out 2
          try go_wp2
          refine bodyPost_ret (results_cell_row rfl _ _ gb323 79 #[.slice none 0 0, .string (⟨#[]⟩ : ByteArray), .int .i64 t331] (0, 0) _ rfl (by (with_reducible repeat (fail)); refine blk_put (cs := #[.slice none 0 0, .string (⟨#[]⟩ : ByteArray), .int .i64 x324002_2]) ?_ 2 _ rfl; (with_reducible repeat (fail)); refine blk_put (cs := #[.slice none 0 0, .string x324001_2, .int .i64 x324002_2]) ?_ 1 _ rfl; (with_reducible repeat (fail)); refine blk_put (cs := #[.slice none 0 0, .string x324001_2, .int .i64 x324002_2]) ?_ 0 _ rfl; (with_reducible repeat (fail)); refine blk_far ?_ NB323_332.out _; (with_reducible repeat (fail)); refine blk_far ?_ NB323_332.out _; (with_reducible repeat (fail)); refine blk_far ?_ NB323_332.out _; (with_reducible repeat (fail)); refine blk_far ?_ NB323_332.out _; (with_reducible repeat (fail)); exact BK323.out) Try.underlying79 rfl (by kernel_rfl)) rfl ?_
          exact ⟨_, by first | rfl , by first | exact Kd.R_nil _ _ _ _ _ , by repeat (first | (with_reducible first | exact HB.out | refine below_set ?_ GE323.out | refine below_set ?_ GE332.out) )⟩
        ·rw [if_neg c17] at H
         exact absurd H (by simp)
       ·rw [if_neg c16] at H
        have c16b0 : decide (x7_2 < (l1.length : Int)) = false := decide_eq_false c16
        clear c16
        simp only [Option.some.injEq, Prod.mk.injEq] at H
        obtain ⟨rfl, rfl, rfl⟩ := H
        have hnb53 := NB326_323.out
        have hnc53 := NB323_326.out
        have hcz54_0 : wr.cell? ⟨gb326, 0, none⟩ = some (u327000) := (blk_cell BK326.out 0).trans rfl
        have hcz54_1 : wr.cell? ⟨gb326, 1, none⟩ = some (.string x327001_2) := (blk_cell BK326.out 1).trans rfl
        have hcz54_2 : wr.cell? ⟨gb326, 2, none⟩ = some (.int .i64 0) := (blk_cell BK326.out 2).trans rfl
        have hfz54_0 := blk_frozen BK326.out 0
        have hfz54_1 := blk_frozen BK326.out 1
        have hfz54_2 := blk_frozen BK326.out 2
        obtain ⟨Ao55, co55, eo55⟩ := Kd.R_slice HO_327000.out
        subst eo55
        have hcz56_0 : wr.cell? ⟨gb323, 0, none⟩ = some (.slice none 0 0) := (blk_cell BK323.out 0).trans rfl
        have hcz56_1 : wr.cell? ⟨gb323, 1, none⟩ = some (.string x324001_2) := (blk_cell BK323.out 1).trans rfl
        have hcz56_2 : wr.cell? ⟨gb323, 2, none⟩ = some (.int .i64 x324002_2) := (blk_cell BK323.out 2).trans rfl
        have hfz56_0 := blk_frozen BK323.out 0
        have hfz56_1 := blk_frozen BK323.out 1
        have hfz56_2 := blk_frozen BK323.out 2
        go_wp2
        refine bodyPost_ret (results_cell_row rfl _ _ gb323 79 #[.slice Ao55 x327000_2.length co55, .string x327001_2, .int .i64 0] (0, 0) _ rfl (by (with_reducible repeat (fail)); refine blk_put (cs := #[.slice Ao55 x327000_2.length co55, .string x327001_2, .int .i64 x324002_2]) ?_ 2 _ rfl; (with_reducible repeat (fail)); refine blk_put (cs := #[.slice Ao55 x327000_2.length co55, .string x324001_2, .int .i64 x324002_2]) ?_ 1 _ rfl; (with_reducible repeat (fail)); refine blk_put (cs := #[.slice none 0 0, .string x324001_2, .int .i64 x324002_2]) ?_ 0 _ rfl; (with_reducible repeat (fail)); exact BK323.out) Try.underlying79 rfl (by kernel_rfl)) rfl ?_
        exact ⟨_, by first | rfl , by (with_reducible repeat (fail)); exact Kd.R_mono (Kd.R_far (p := ⟨gb323, 2, none⟩) (Kd.R_far (p := ⟨gb323, 1, none⟩) (Kd.R_far (p := ⟨gb323, 0, none⟩) (Kd.R_types HO_327000.out BK323.out (by decide)) (fun _ hk => hk.2) (.slice Ao55 x327000_2.length co55)) (fun _ hk => hk.2) (.string x327001_2)) (fun _ hk => hk.2) (.int .i64 0)) (fun _ hk => trivial), by repeat (first | (with_reducible first | exact HB.out | refine below_set ?_ GE323.out ) )⟩

end Go.Proofs.Ytpdalofhekmbeaa.PViewReads
