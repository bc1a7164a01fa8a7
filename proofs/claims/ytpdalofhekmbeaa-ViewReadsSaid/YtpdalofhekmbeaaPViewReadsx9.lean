-- Written by a program of this session over the kit's printer (with contracts of the session's own).
import Derived.Test.YtpdalofhekmbeaaPViewReadsx0
import Derived.Test.YtpdalofhekmbeaaPViewReadsx2
import Derived.Test.YtpdalofhekmbeaaPViewReadsx8
namespace Go.Proofs.Ytpdalofhekmbeaa.PViewReads
open Go.RowKit Go.Proofs.YtpdalofhekmbeaaW.PrintWords Go.Proofs.YtpdalofhekmbeaaW.PrintLast Go.Proofs.YtpdalofhekmbeaaW.PrintMore
attribute [local go_sem] max2_int min2_int max_two min_two max_three min_three max_four min_four   -- for this text's walks alone
set_option linter.unusedVariables false
set_option linter.unusedSimpArgs false

theorem ne_nil_8 (l : List UInt8) : (l != []) = !l.isEmpty := by cases l <;> rfl
/-! ### view_Read: function 26 -/
mutual
def view_Read.j0 : Nat → List (S76) → ByteArray → Bool → Option (Int × (List (S53)) × Int)
 | 0, _, _, _ => none
 | k + 1, x4, x5, x26 => if x26 = true then (some (0, ([] : List (S53)), 3)) else (if 0 < (x4.length : Int) then (if 1 < (x4.length : Int) then (view_Read.l0 k x5 ((rd_T76 x4 1).f1) 0 ((rd_T76 x4 0).f1) ([] : List (S53))) else (none)) else (none))
def view_Read.l0 : Nat → ByteArray → Int → Int → Int → List (S53) → Option (Int × (List (S53)) × Int)
 | 0, _, _, _, _, _ => none
 | k + 1, x5, x36, x37, x264000, x264001 => if x37 < x36 then ((quic_Take.f k x5 (([1, 1, 3] : List Int))).bind fun bt268 => (if bt268.2.2 = 0 then (if 0 < (bt268.1.length : Int) then (if 1 < (bt268.1.length : Int) then (if 2 < (bt268.1.length : Int) then (if x264001.length < 5864062014805 then (view_Read.l0 k bt268.2.1 x36 (wrap64 (x37 + 1)) x264000 (x264001 ++ [(⟨(rd_T76 bt268.1 0).f1, (rd_T76 bt268.1 1).f1, (((rd_T76 bt268.1 2).f1) == 1)⟩ : S53)])) else (none)) else (none)) else (none)) else (none)) else (some (0, ([] : List (S53)), 3)))) else (if x5.toList = ([] : List UInt8) then ((view_Check.f k x264000 x264001).bind fun t279 => (if t279 = true then (some (x264000, x264001, 0)) else (some (0, ([] : List (S53)), 3)))) else (some (0, ([] : List (S53)), 3)))
end
def view_Read.f (k : Nat) (a0 : ByteArray) : Option (Int × (List (S53)) × Int) := (quic_Take.f k a0 (([1, 1] : List Int))).bind fun bt256 => (if bt256.2.2 = 0 then (if 1 < (bt256.1.length : Int) then (view_Read.j0 k bt256.1 bt256.2.1 (decide (((rd_T76 bt256.1 1).f1) > 15))) else (none)) else (view_Read.j0 k bt256.1 bt256.2.1 true))
theorem view_Read.mono_l : ∀ k, (∀ y0 y1 y2, LeO (view_Read.j0 k y0 y1 y2) (view_Read.j0 (k + 1) y0 y1 y2)) ∧ (∀ y0 y1 y2 y3 y4, LeO (view_Read.l0 k y0 y1 y2 y3 y4) (view_Read.l0 (k + 1) y0 y1 y2 y3 y4))
 | 0 => ⟨fun _ _ _ r h => by simp [view_Read.j0] at h, fun _ _ _ _ _ r h => by simp [view_Read.l0] at h⟩
 | k + 1 => by
  obtain ⟨ih0, ih1⟩ := view_Read.mono_l k
  refine ⟨?_, ?_⟩
  ·intro y0 y1 y2
   unfold view_Read.j0
   repeat' first
   | (with_reducible exact ih1 _ _ _ _ _)
   | (with_reducible exact LeO.refl _)
   | (with_reducible refine LeO.ite ?_ ?_)

  ·intro y0 y1 y2 y3 y4
   unfold view_Read.l0
   repeat' first
   | (with_reducible exact ih1 _ _ _ _ _)
   | (with_reducible exact quic_Take.mono _ _ _)
   | (with_reducible exact view_Check.mono _ _ _)
   | (with_reducible exact LeO.refl _)
   | (with_reducible refine LeO.ite ?_ ?_)
   | (with_reducible refine LeO.bind ?_ (fun _ => ?_))

theorem view_Read.mono : ∀ a0 k, LeO (view_Read.f k a0) (view_Read.f (k + 1) a0) := by
 intro a0 k
 obtain ⟨ih0, ih1⟩ := view_Read.mono_l k
 unfold view_Read.f
 repeat' first
   | (with_reducible exact ih0 _ _ _)
   | (with_reducible exact quic_Take.mono _ _ _)
   | (with_reducible exact LeO.refl _)
   | (with_reducible refine LeO.ite ?_ ?_)
   | (with_reducible refine LeO.bind ?_ (fun _ => ?_))

def view_Read.T10 : Bool × List (List Nat × List Nat) := (true, [([], []), ([0], [0]), ([], []), ([2], [2]), ([3], [3]), ([4], [4]), ([], []), ([6], [6]), ([7], [7]), ([8], [8]), ([], []), ([10], [10]), ([11], [11]), ([12], [12]), ([13], [13]), ([5, 9, 14], [5, 9, 14]), ([15], [15]), ([1, 16], [1, 16]), ([], []), ([0, 1, 2, 3, 4, 5, 6, 7, 8, 9, 10, 11, 12, 13, 14, 15, 16, 17], []), ([19, 17, 17, 0, 1, 2, 3, 4, 5, 6, 7, 8, 9, 10, 11, 12, 13, 14, 15, 16, 17], [17, 19]), ([18, 20, 0, 1, 2, 3, 4, 5, 6, 7, 8, 9, 10, 11, 12, 13, 14, 15, 16, 17, 18, 19, 20], [18])])
def view_Read.B10 : List Nat := [0, 1, 0, 4, 12, 28, 0, 64, 192, 448, 0, 1024, 3072, 7168, 15360, 32764, 65532, 131071, 0, 262143, 786431, 2097151]
theorem view_Read.tab10 : rtab .any (opsOf Try.f26 10) = view_Read.T10 := by kernel_rfl
theorem view_Read.bits10 : waitsOk view_Read.T10.2 view_Read.B10 = true := by kernel_rfl
set_option maxHeartbeats 8000000 in
set_option maxRecDepth 100000 in
theorem view_Read.calls (k : Nat) (a0 : ByteArray) (r1 : Int) (r2 : List (S53)) (r3 : Int) (w : World) (h : view_Read.f k a0 = some (r1, r2, r3)) :
  Calls Try.prog 26 #[.string a0] w fun e w' => ∃ v1_ : Value, e = .returned (.tuple #[.agg #[.int .i64 r1, v1_], .int .i64 r3]) ∧ Kd.R k53 53 w' w.heap.size (fun _ => True) v1_ r2 ∧ Below w.heap.size w w' := by
 have hu24 := Try.underlying24
 have hu53 := Try.underlying53
 have HB := Aside0.mk (Below.refl w.heap.size w)
 have H : ((quic_Take.f k a0 (([1, 1] : List Int))).bind fun bt256 => (if bt256.2.2 = 0 then (if 1 < (bt256.1.length : Int) then (view_Read.j0 k bt256.1 bt256.2.1 (decide (((rd_T76 bt256.1 1).f1) > 15))) else (none)) else (view_Read.j0 k bt256.1 bt256.2.1 true))) = some (r1, r2, r3) := h
 clear h
 obtain ⟨y253, hy253⟩ : ∃ y_ : List Int, y_ = (([1, 1] : List Int)) := ⟨_, rfl⟩
 replace H : ((quic_Take.f k a0 y253).bind fun bt256 => (if bt256.2.2 = 0 then (if 1 < (bt256.1.length : Int) then (view_Read.j0 k bt256.1 bt256.2.1 (decide (((rd_T76 bt256.1 1).f1) > 15))) else (none)) else (view_Read.j0 k bt256.1 bt256.2.1 true))) = some (r1, r2, r3) := by first | (rw [hy253]; with_reducible exact H)
 have Ny253 := Aside0.mk hy253
 clear hy253
 replace H := Option.bind_eq_some_iff.mp H
 obtain ⟨⟨t256, t257, t258⟩, A20, H⟩ := H
 replace H : (if t258 = 0 then (if 1 < (t256.length : Int) then (view_Read.j0 k t256 t257 (decide (((rd_T76 t256 1).f1) > 15))) else (none)) else (view_Read.j0 k t256 t257 true)) = some (r1, r2, r3) := H
 have A2 := Aside0.mk A20
 clear A20
 have HC3 := Aside0.mk H
 clear H
 go_enter Try.func26, Try.ntmps26
 go_upto_region 2 with (first | ((with_reducible refine gate_dst (N := 2) rfl ?_); refine box_event ?hg (N := 2) ?hd (cs := #[.int .i64 0, .slice none 0 0]) (t := 24) ?hr ?_; (case hd => rfl); (case hg => rfl); (case hr => first | (go_simp; done) ); intro gb252 hg w4 hbox hb; have n0_ := Aside0.mk (below_step (by repeat (first | (with_reducible first | exact HB.out ) )) hb); have n1_ := Aside0.mk (hbox); have n2_ := Aside0.mk ((by rw [hg]; exact (below_size (by repeat (first | (with_reducible first | exact HB.out ) ))) : w.heap.size ≤ gb252)); have n3_ := Aside0.mk ((by rw [hg]; exact (below_size (by repeat (first | (with_reducible first | exact HB.out ) ))) : w.heap.size ≤ gb252)); clear HB; have HB := n0_; have BK252 := n1_; have GW252 := n2_; have GE252 := n3_; clear n0_ n1_ n2_ n3_; clear hb hbox hg) | ((with_reducible refine gate_dst (N := 13) rfl ?_); refine Kd.R_lit (Kd.int .i64) _ 3 ?hg (N := 13) ?hd (xs := ([1, 1] : List Int)) (inner := [.int .i64 1, .int .i64 1]) (ok := fun _ => True) (okp := fun _ => True) ?hr ?hp (fun _ hk => hk) trivial (Below.refl _ _) (Nat.le_refl _) (by simp) ?_; (case hd => rfl); (case hg => rfl); (case hr => first | (go_simp; done) ); (case hp => exact (Reps.one (show Kd.M (Kd.int .i64) _ _ _ 1 [.int .i64 1] from rfl) (Reps.one (show Kd.M (Kd.int .i64) _ _ _ 1 [.int .i64 1] from rfl) (Reps.none _ _)))); intro v254 w5 ho6 hb hg_ hnew_; clear hg_ hnew_; (first | rw [← Ny253.out] at ho6 ); have n0_ := Aside0.mk (Kd.R_lower ho6 (below_size (by repeat (first | (with_reducible first | exact HB.out ) )))); have n1_ := Aside0.mk (blk_below (g := gb252) (o := .cells #[.int .i64 0, .slice none 0 0] 24 (0, 0)) (by (with_reducible repeat (fail)); exact BK252.out) hb); have n2_ := Aside0.mk (below_step (by repeat (first | (with_reducible first | exact HB.out ) )) hb); clear BK252; clear HB; have HO255 := n0_; have BK252 := n1_; have HB := n2_; clear n0_ n1_ n2_; clear hb ho6; obtain ⟨Ao7, co7, eo7⟩ := Kd.R_slice HO255.out; subst eo7) | ((with_reducible refine gate_callee (f := 41) rfl ?_); refine goesL_ (some 14) rfl rfl Try.func41 (by kernel_rfl) rfl #[.string a0, .slice Ao7 y253.length co7] rfl (by (try simp only [List.map_toArray, List.map_cons, List.map_nil]); first | rfl ) ?_; (with_reducible refine (quic_Take.calls k a0 _ _ y253 t256 t257 t258 _ ?side1 ?side2 A2.out).mono ?_); (case side1 => repeat (first | exact (Kd.R_reads' HO255.out).2.2 )); (case side2 => exact (Kd.R_reads' HO255.out).2.1); rintro e w8 ⟨v259, rfl, ho0, hb⟩; refine ⟨_, rfl, ?_⟩; have n0_ := Aside0.mk (Kd.R_below (by (with_reducible repeat (fail)); exact HO255.out) hb); have n1_ := Aside0.mk (Kd.R_lower ho0 (below_size (by repeat (first | (with_reducible first | exact HB.out ) )))); have n2_ := Aside0.mk (blk_below (g := gb252) (o := .cells #[.int .i64 0, .slice none 0 0] 24 (0, 0)) (by (with_reducible repeat (fail)); exact BK252.out) hb); have n3_ := Aside0.mk (below_step (by repeat (first | (with_reducible first | exact HB.out ) )) hb); clear HO255; clear BK252; clear HB; have HO255 := n0_; have HO260 := n1_; have BK252 := n2_; have HB := n3_; clear n0_ n1_ n2_ n3_; (try clear hb); (try clear hb2); (try clear hk); (try clear hi); (try clear ho0)))
 (try simp only [Act.put, List.setIfInBounds_toArray, List.set_cons_zero, List.set_cons_succ])
 go_cut [26] (fun v26 wc => ∃ (kq : Nat) (x26_2 : Bool), v26 = .bool x26_2 ∧ Aside0 (view_Read.j0 kq t256 t257 x26_2 = some (r1, r2, r3)) ∧ Aside0 (kq ≤ k) ∧ Aside0 (Kd.R k76 76 wc w.heap.size (fun _ => True) v259 t256) ∧ Aside0 (wc.heap[gb252]? = some (.cells #[.int .i64 0, (.slice none 0 0)] 24 (0, 0))) ∧ Aside0 (Below w.heap.size w wc))
 case first =>
  have H := HC3.out
  clear HC3
  by_cases c9 : t258 = 0
  ·rw [if_pos c9] at H
   have c9b0 : (t258 == 0) = true := beq_iff_eq.mpr c9
   have c9b1 : (t258 != 0) = false := bne_eq_false_iff_eq.mpr c9
   clear c9
   (first | skip)
   by_cases c10 : 1 < (t256.length : Int)
   ·rw [if_pos c10] at H
    have c10b0 : decide (1 < (t256.length : Int)) = true := decide_eq_true c10
    have c10b1 : decide (1 < t256.length) = true := decide_eq_true (by omega)
    clear c10
    have H' := Aside0.mk H
    clear H
    obtain ⟨Ao11, co11, eo11⟩ := Kd.R_slice HO260.out
    subst eo11
    have p261 : 0 ≤ (1 : Int) := (by omega)
    have q261 : 1 < (t256.length : Int) := of_decide_eq_true (by first | (with_reducible assumption) )
    obtain ⟨ad261, e261, hx261_0, hx261_1, hx261_2⟩ := at_T76 (Kd.R_reads' HO260.out).2.2 1 p261 q261
    cases e261
    (try simp only [show (1 : Int).toNat = 1 from rfl, Nat.reduceMul, Nat.reduceEqDiff, Go.Addr.add, ↓reduceIte] at hx261_0)
    (try simp only [show (1 : Int).toNat = 1 from rfl, Nat.reduceMul, Nat.reduceEqDiff, Go.Addr.add, ↓reduceIte] at hx261_1)
    (try simp only [show (1 : Int).toNat = 1 from rfl, Nat.reduceMul, Nat.reduceEqDiff, Go.Addr.add, ↓reduceIte] at hx261_2)
    have qi261 : (1 < t256.length) = True := eq_true (by omega)
    (try rw [show ((1 : Int)).toNat = 1 from rfl] at hx261_0)
    (try rw [show 1 * 3 = 3 from rfl] at hx261_0)
    (try rw [show ((1 : Int)).toNat = 1 from rfl] at hx261_1)
    (try rw [show 1 * 3 = 3 from rfl] at hx261_1)
    (try rw [show ((1 : Int)).toNat = 1 from rfl] at hx261_2)
    (try rw [show 1 * 3 = 3 from rfl] at hx261_2)
    replace p261 := eq_true p261
    replace q261 := eq_true q261
    go_wp2
    go_meet
    case rel => exact ⟨_, (decide (((rd_T76 t256 1).f1) > 15)), (by first | rfl ), H', ⟨by first | omega ⟩, ⟨by (with_reducible repeat (fail)); exact HO260.out⟩, ⟨by (with_reducible repeat (fail)); exact BK252.out⟩, ⟨by repeat (first | (with_reducible first | exact HB.out ) )⟩⟩
   ·rw [if_neg c10] at H
    exact absurd H (by simp)
  ·rw [if_neg c9] at H
   have c9b0 : (t258 == 0) = false := beq_eq_false_iff_ne.mpr c9
   have c9b1 : (t258 != 0) = true := bne_iff_ne.mpr c9
   (first | skip)
   have H' := Aside0.mk H
   clear H
   go_wp2
   go_meet
   case rel => exact ⟨_, (true), (by first | rfl ), H', ⟨by first | omega ⟩, ⟨by (with_reducible repeat (fail)); exact HO260.out⟩, ⟨by (with_reducible repeat (fail)); exact BK252.out⟩, ⟨by repeat (first | (with_reducible first | exact HB.out ) )⟩⟩
 case rest =>
  clear HC3
  try clear c1
  try clear c2
  try clear p2
  try clear q2
  try clear hx2
  try clear qi2
  try clear c4
  try clear c9
  try clear c9b0
  try clear c9b1
  try clear c10
  try clear c10b0
  try clear c10b1
  try clear hx261_0
  try clear hx261_1
  try clear hx261_2
  try clear p261
  try clear q261
  obtain ⟨kq, x26_2, rfl, HA, HJ2, HO_4, BK252, HB⟩ := hcut
  cases kq with
  | zero => exact absurd HA.out (by simp [view_Read.j0])
  | succ kj2 =>
   have H := HA.out
   clear HA
   simp only [view_Read.j0] at H
   by_cases c12 : x26_2 = true
   ·subst c12
    have H1 : (some (0, ([] : List (S53)), 3)) = some (r1, r2, r3) := by rw [if_pos rfl] at H; exact H
    clear H
    have H := H1
    clear H1
    simp only [Option.some.injEq, Prod.mk.injEq] at H
    obtain ⟨rfl, rfl, rfl⟩ := H
    have hcz13_0 : wc.cell? ⟨gb252, 0, none⟩ = some (.int .i64 0) := (blk_cell BK252.out 0).trans rfl
    have hcz13_1 : wc.cell? ⟨gb252, 1, none⟩ = some (.slice none 0 0) := (blk_cell BK252.out 1).trans rfl
    have hfz13_0 := blk_frozen BK252.out 0
    have hfz13_1 := blk_frozen BK252.out 1
    go_wp2
    refine bodyPost_ret (results_ct rfl _ _ gb252 24 #[.int .i64 0, .slice none 0 0] (0, 0) _ rfl (by (with_reducible repeat (fail)); refine blk_put (cs := #[.int .i64 0, .slice none 0 0]) ?_ 1 _ rfl; (with_reducible repeat (fail)); refine blk_put (cs := #[.int .i64 0, .slice none 0 0]) ?_ 0 _ rfl; (with_reducible repeat (fail)); exact BK252.out) Try.underlying24 rfl (by kernel_rfl)) rfl ?_
    exact ⟨_, by first | rfl , by first | exact Kd.R_nil _ _ _ _ _ , by repeat (first | (with_reducible first | exact HB.out | refine below_set ?_ GE252.out) )⟩
   ·replace c12 := Bool.eq_false_iff.mpr c12
    subst c12
    have H1 : (if 0 < (t256.length : Int) then (if 1 < (t256.length : Int) then (view_Read.l0 kj2 t257 ((rd_T76 t256 1).f1) 0 ((rd_T76 t256 0).f1) ([] : List (S53))) else (none)) else (none)) = some (r1, r2, r3) := by rw [if_neg (show ¬ (false = true) by decide)] at H; exact H
    clear H
    have H := H1
    clear H1
    by_cases c14 : 0 < (t256.length : Int)
    ·rw [if_pos c14] at H
     have c14b0 : decide (0 < (t256.length : Int)) = true := decide_eq_true c14
     have c14b1 : decide (0 < t256.length) = true := decide_eq_true (by omega)
     clear c14
     by_cases c15 : 1 < (t256.length : Int)
     ·rw [if_pos c15] at H
      have c15b0 : decide (1 < (t256.length : Int)) = true := decide_eq_true c15
      have c15b1 : decide (1 < t256.length) = true := decide_eq_true (by omega)
      clear c15
      have H' := Aside0.mk H
      clear H
      obtain ⟨Ao16, co16, eo16⟩ := Kd.R_slice HO_4.out
      subst eo16
      have p262 : 0 ≤ (0 : Int) := (by omega)
      have q262 : 0 < (t256.length : Int) := of_decide_eq_true (by first | (with_reducible assumption) )
      obtain ⟨ad262, e262, hx262_0, hx262_1, hx262_2⟩ := at_T76 (Kd.R_reads' HO_4.out).2.2 0 p262 q262
      cases e262
      have qi262 : (0 < t256.length) = True := eq_true (by omega)
      (try rw [show ((0 : Int)).toNat = 0 from rfl] at hx262_0)
      (try rw [show 0 * 3 = 0 from rfl] at hx262_0)
      (try rw [Addr.add_zero'] at hx262_0)
      (try rw [show ((0 : Int)).toNat = 0 from rfl] at hx262_1)
      (try rw [show 0 * 3 = 0 from rfl] at hx262_1)
      (try rw [Addr.add_zero'] at hx262_1)
      (try rw [show ((0 : Int)).toNat = 0 from rfl] at hx262_2)
      (try rw [show 0 * 3 = 0 from rfl] at hx262_2)
      (try rw [Addr.add_zero'] at hx262_2)
      replace p262 := eq_true p262
      replace q262 := eq_true q262
      go_wp2_with (first | ((with_reducible refine gate_dst (N := 7) rfl ?_); refine box_event ?hg (N := 7) ?hd (cs := #[.int .i64 0, .slice none 0 0]) (t := 24) ?hr ?_; (case hd => rfl); (case hg => rfl); (case hr => first | (go_simp; done) ); intro gb263 hg w17 hbox hb; have n0_ := Aside0.mk (Kd.R_below (by (with_reducible repeat (fail)); exact HO_4.out) hb); have n1_ := Aside0.mk (blk_below (g := gb252) (o := .cells #[.int .i64 0, .slice none 0 0] 24 (0, 0)) (by (with_reducible repeat (fail)); exact BK252.out) hb); have n2_ := Aside0.mk (below_step (by repeat (first | (with_reducible first | exact HB.out ) )) hb); have n3_ := Aside0.mk (hbox); have n4_ := Aside0.mk ((by rw [hg]; exact (below_size (by repeat (first | (with_reducible first | exact HB.out ) ))) : w.heap.size ≤ gb263)); have n5_ := Aside0.mk ((by rw [hg]; exact (below_size (by repeat (first | (with_reducible first | exact HB.out ) ))) : w.heap.size ≤ gb263)); have n6_ := Aside0.mk ((by rw [hg]; exact Nat.ne_of_lt (blk_lt (g := gb252) (o := .cells #[.int .i64 0, .slice none 0 0] 24 (0, 0)) (by (with_reducible repeat (fail)); exact BK252.out)) : gb252 ≠ gb263)); have n7_ := Aside0.mk ((by rw [hg]; exact Nat.ne_of_gt (blk_lt (g := gb252) (o := .cells #[.int .i64 0, .slice none 0 0] 24 (0, 0)) (by (with_reducible repeat (fail)); exact BK252.out)) : gb263 ≠ gb252)); clear HO_4; clear BK252; clear HB; have HO_4 := n0_; have BK252 := n1_; have HB := n2_; have BK263 := n3_; have GW263 := n4_; have GE263 := n5_; have NB252_263 := n6_; have NB263_252 := n7_; clear n0_ n1_ n2_ n3_ n4_ n5_ n6_ n7_; clear hb hbox hg; have hnb18 := NB263_252.out; have hnc18 := NB252_263.out; have hcz19_0 : w17.cell? ⟨gb263, 0, none⟩ = some (.int .i64 0) := (blk_cell BK263.out 0).trans rfl; have hcz19_1 : w17.cell? ⟨gb263, 1, none⟩ = some (.slice none 0 0) := (blk_cell BK263.out 1).trans rfl; have hfz19_0 := blk_frozen BK263.out 0; have hfz19_1 := blk_frozen BK263.out 1; have p264 : 0 ≤ (1 : Int) := (by omega); have q264 : 1 < (t256.length : Int) := of_decide_eq_true (by first | (with_reducible assumption) ); obtain ⟨ad264, e264, hx264_0, hx264_1, hx264_2⟩ := at_T76 (Kd.R_reads' HO_4.out).2.2 1 p264 q264; obtain rfl : ad262 = ad264 := (by injection e264); (try simp only [show (1 : Int).toNat = 1 from rfl, Nat.reduceMul, Nat.reduceEqDiff, Go.Addr.add, ↓reduceIte] at hx264_0); (try simp only [show (1 : Int).toNat = 1 from rfl, Nat.reduceMul, Nat.reduceEqDiff, Go.Addr.add, ↓reduceIte] at hx264_1); (try simp only [show (1 : Int).toNat = 1 from rfl, Nat.reduceMul, Nat.reduceEqDiff, Go.Addr.add, ↓reduceIte] at hx264_2); have qi264 : (1 < t256.length) = True := eq_true (by omega); (try rw [show ((1 : Int)).toNat = 1 from rfl] at hx264_0); (try rw [show 1 * 3 = 3 from rfl] at hx264_0); (try rw [show ((1 : Int)).toNat = 1 from rfl] at hx264_1); (try rw [show 1 * 3 = 3 from rfl] at hx264_1); (try rw [show ((1 : Int)).toNat = 1 from rfl] at hx264_2); (try rw [show 1 * 3 = 3 from rfl] at hx264_2); have hn264_0 : ad262.block ≠ gb263 := Kd.own_blk (Kd.R_ne HO_4.out BK263.out (by decide)); have hn264_1 : ad262.block ≠ gb263 := Kd.own_blk (Kd.R_ne HO_4.out BK263.out (by decide)); replace hx264_0 := (cell_far (p := ⟨gb263, 0, none⟩) (by first | exact hn264_0) (.int .i64 ((rd_T76 t256 0).f1))).trans hx264_0; replace hx264_1 := (cell_far (p := ⟨gb263, 0, none⟩) (by first | exact hn264_0) (.int .i64 ((rd_T76 t256 0).f1))).trans hx264_1; replace hx264_2 := (cell_far (p := ⟨gb263, 0, none⟩) (by first | exact hn264_0) (.int .i64 ((rd_T76 t256 0).f1))).trans hx264_2; replace hx264_0 := (cell_far (p := ⟨gb263, 1, none⟩) (by first | exact hn264_1) (.slice none 0 0)).trans hx264_0; replace hx264_1 := (cell_far (p := ⟨gb263, 1, none⟩) (by first | exact hn264_1) (.slice none 0 0)).trans hx264_1; replace hx264_2 := (cell_far (p := ⟨gb263, 1, none⟩) (by first | exact hn264_1) (.slice none 0 0)).trans hx264_2; clear hn264_0; clear hn264_1; replace p264 := eq_true p264; replace q264 := eq_true q264))
      go_loopg [5, 37] kj2 (fun kq v5 v37 w' => ∃ (x5_2 : ByteArray) (x37_2 : Int) (x253000_2 : Int) (x264001_2 : List (S53)) (u264001 : Value), v5 = .string x5_2 ∧ v37 = .int .i64 x37_2 ∧ Aside0 (view_Read.l0 kq x5_2 ((rd_T76 t256 1).f1) x37_2 ((rd_T76 t256 0).f1) x264001_2 = some (r1, r2, r3)) ∧ Aside0 (kq ≤ kj2) ∧ Aside0 (Kd.R k53 53 w' w.heap.size (fun _ => True) u264001 x264001_2) ∧ Aside0 (w'.heap[gb252]? = some (.cells #[.int .i64 x253000_2, (.slice none 0 0)] 24 (0, 0))) ∧ Aside0 (w'.heap[gb263]? = some (.cells #[.int .i64 ((rd_T76 t256 0).f1), u264001] 24 (0, 0))) ∧ Aside0 (Below w.heap.size w w'))
      case atStart => exact ⟨(t257), (0), (0), (([] : List (S53))), (.slice none 0 0), (by first | rfl ), (by first | rfl ), H', ⟨Nat.le_refl _⟩, ⟨by first | exact Kd.R_nil _ _ _ _ _ ⟩, ⟨by (with_reducible repeat (fail)); refine blk_far ?_ NB252_263.out _; (with_reducible repeat (fail)); refine blk_far ?_ NB252_263.out _; (with_reducible repeat (fail)); exact BK252.out⟩, ⟨by (with_reducible repeat (fail)); refine blk_put (cs := #[.int .i64 ((rd_T76 t256 0).f1), .slice none 0 0]) ?_ 1 _ rfl; (with_reducible repeat (fail)); refine blk_put (cs := #[.int .i64 0, .slice none 0 0]) ?_ 0 _ rfl; (with_reducible repeat (fail)); exact BK263.out⟩, ⟨by repeat (first | (with_reducible first | exact HB.out | refine below_set ?_ GE263.out) )⟩⟩
      case round =>
       clear H'
       try clear c1
       try clear c2
       try clear p2
       try clear q2
       try clear hx2
       try clear qi2
       try clear c4
       try clear c9
       try clear c9b0
       try clear c9b1
       try clear c10
       try clear c10b0
       try clear c10b1
       try clear c12
       try clear c14
       try clear c14b0
       try clear c14b1
       try clear c15
       try clear c15b0
       try clear c15b1
       try clear c18
       try clear hcz13_0
       try clear hcz13_1
       try clear hcz19_0
       try clear hcz19_1
       try clear hfz13_0
       try clear hfz13_1
       try clear hfz19_0
       try clear hfz19_1
       try clear hx261_0
       try clear hx261_1
       try clear hx261_2
       try clear hx262_0
       try clear hx262_1
       try clear hx262_2
       try clear hx264_0
       try clear hx264_1
       try clear hx264_2
       try clear p2
       try clear p261
       try clear p262
       try clear p264
       try clear q2
       try clear q261
       try clear q262
       try clear q264
       obtain ⟨x5_2, x37_2, x253000_2, x264001_2, u264001, rfl, rfl, HA, HK2, HO_264001, BK252, BK263, HB⟩ := hrel
       cases gk with
       | zero => exact absurd HA.out (by simp [view_Read.l0])
       | succ k2 =>
        have H := HA.out
        clear HA
        simp only [view_Read.l0] at H
        by_cases c20 : x37_2 < ((rd_T76 t256 1).f1)
        ·rw [if_pos c20] at H
         have c20b0 : decide (x37_2 < ((rd_T76 t256 1).f1)) = true := decide_eq_true c20
         clear c20
         obtain ⟨y265, hy265⟩ : ∃ y_ : List Int, y_ = (([1, 1, 3] : List Int)) := ⟨_, rfl⟩
         replace H : ((quic_Take.f k2 x5_2 y265).bind fun bt268 => (if bt268.2.2 = 0 then (if 0 < (bt268.1.length : Int) then (if 1 < (bt268.1.length : Int) then (if 2 < (bt268.1.length : Int) then (if x264001_2.length < 5864062014805 then (view_Read.l0 k2 bt268.2.1 ((rd_T76 t256 1).f1) (wrap64 (x37_2 + 1)) ((rd_T76 t256 0).f1) (x264001_2 ++ [(⟨(rd_T76 bt268.1 0).f1, (rd_T76 bt268.1 1).f1, (((rd_T76 bt268.1 2).f1) == 1)⟩ : S53)])) else (none)) else (none)) else (none)) else (none)) else (some (0, ([] : List (S53)), 3)))) = some (r1, r2, r3) := by first | (rw [hy265]; with_reducible exact H)
         have Ny265 := Aside0.mk hy265
         clear hy265
         replace H := Option.bind_eq_some_iff.mp H
         obtain ⟨⟨t268, t269, t270⟩, A210, H⟩ := H
         replace H : (if t270 = 0 then (if 0 < (t268.length : Int) then (if 1 < (t268.length : Int) then (if 2 < (t268.length : Int) then (if x264001_2.length < 5864062014805 then (view_Read.l0 k2 t269 ((rd_T76 t256 1).f1) (wrap64 (x37_2 + 1)) ((rd_T76 t256 0).f1) (x264001_2 ++ [(⟨(rd_T76 t268 0).f1, (rd_T76 t268 1).f1, (((rd_T76 t268 2).f1) == 1)⟩ : S53)])) else (none)) else (none)) else (none)) else (none)) else (some (0, ([] : List (S53)), 3))) = some (r1, r2, r3) := H
         have A21 := Aside0.mk A210
         clear A210
         by_cases c22 : t270 = 0
         ·rw [if_pos c22] at H
          have c22b0 : (t270 == 0) = true := beq_iff_eq.mpr c22
          have c22b1 : (t270 != 0) = false := bne_eq_false_iff_eq.mpr c22
          clear c22
          by_cases c23 : 0 < (t268.length : Int)
          ·rw [if_pos c23] at H
           have c23b0 : decide (0 < (t268.length : Int)) = true := decide_eq_true c23
           have c23b1 : decide (0 < t268.length) = true := decide_eq_true (by omega)
           clear c23
           by_cases c24 : 1 < (t268.length : Int)
           ·rw [if_pos c24] at H
            have c24b0 : decide (1 < (t268.length : Int)) = true := decide_eq_true c24
            have c24b1 : decide (1 < t268.length) = true := decide_eq_true (by omega)
            clear c24
            by_cases c25 : 2 < (t268.length : Int)
            ·rw [if_pos c25] at H
             have c25b0 : decide (2 < (t268.length : Int)) = true := decide_eq_true c25
             have c25b1 : decide (2 < t268.length) = true := decide_eq_true (by omega)
             clear c25
             by_cases c26 : x264001_2.length < 5864062014805
             ·rw [if_pos c26] at H
              have LMc26 := Aside0.mk c26
              clear c26
              obtain ⟨y276, hy276⟩ : ∃ y_ : List (S53), y_ = (x264001_2 ++ [(⟨(rd_T76 t268 0).f1, (rd_T76 t268 1).f1, (((rd_T76 t268 2).f1) == 1)⟩ : S53)]) := ⟨_, rfl⟩
              replace H : (view_Read.l0 k2 t269 ((rd_T76 t256 1).f1) (wrap64 (x37_2 + 1)) ((rd_T76 t256 0).f1) y276) = some (r1, r2, r3) := by first | (rw [hy276]; with_reducible exact H)
              have Ny276 := Aside0.mk hy276
              clear hy276
              have H' := Aside0.mk H
              clear H
              try go_wp2_with (first | ((with_reducible refine gate_dst (N := 41) rfl ?_); refine Kd.R_lit (Kd.int .i64) _ 3 ?hg (N := 41) ?hd (xs := ([1, 1, 3] : List Int)) (inner := [.int .i64 1, .int .i64 1, .int .i64 3]) (ok := fun _ => True) (okp := fun _ => True) ?hr ?hp (fun _ hk => hk) trivial (Below.refl _ _) (Nat.le_refl _) (by simp) ?_; (case hd => rfl); (case hg => rfl); (case hr => first | (go_simp; done) ); (case hp => exact (Reps.one (show Kd.M (Kd.int .i64) _ _ _ 1 [.int .i64 1] from rfl) (Reps.one (show Kd.M (Kd.int .i64) _ _ _ 1 [.int .i64 1] from rfl) (Reps.one (show Kd.M (Kd.int .i64) _ _ _ 3 [.int .i64 3] from rfl) (Reps.none _ _))))); intro v266 w27 ho28 hb hg_ hnew_; clear hg_ hnew_; (first | rw [← Ny265.out] at ho28 ); have n0_ := Aside0.mk (Kd.R_below (by (with_reducible repeat (fail)); exact HO_264001.out) hb); have n1_ := Aside0.mk (Kd.R_lower ho28 (below_size (by repeat (first | (with_reducible first | exact HB.out ) )))); have n2_ := Aside0.mk (blk_below (g := gb252) (o := .cells #[.int .i64 x253000_2, .slice none 0 0] 24 (0, 0)) (by (with_reducible repeat (fail)); exact BK252.out) hb); have n3_ := Aside0.mk (blk_below (g := gb263) (o := .cells #[.int .i64 ((rd_T76 t256 0).f1), u264001] 24 (0, 0)) (by (with_reducible repeat (fail)); exact BK263.out) hb); have n4_ := Aside0.mk (below_step (by repeat (first | (with_reducible first | exact HB.out ) )) hb); clear HO_264001; clear BK252; clear BK263; clear HB; have HO_264001 := n0_; have HO267 := n1_; have BK252 := n2_; have BK263 := n3_; have HB := n4_; clear n0_ n1_ n2_ n3_ n4_; clear hb ho28; obtain ⟨Ao29, co29, eo29⟩ := Kd.R_slice HO267.out; subst eo29) | ((with_reducible refine gate_callee (f := 41) rfl ?_); refine goesL_ (some 42) rfl rfl Try.func41 (by kernel_rfl) rfl #[.string x5_2, .slice Ao29 y265.length co29] rfl (by (try simp only [List.map_toArray, List.map_cons, List.map_nil]); first | rfl ) ?_; (with_reducible refine (quic_Take.calls k2 x5_2 _ _ y265 t268 t269 t270 _ ?side1 ?side2 A21.out).mono ?_); (case side1 => repeat (first | exact (Kd.R_reads' HO267.out).2.2 )); (case side2 => exact (Kd.R_reads' HO267.out).2.1); rintro e w30 ⟨v271, rfl, ho0, hb⟩; refine ⟨_, rfl, ?_⟩; have n0_ := Aside0.mk (Kd.R_below (by (with_reducible repeat (fail)); exact HO_264001.out) hb); have n1_ := Aside0.mk (Kd.R_below (by (with_reducible repeat (fail)); exact HO267.out) hb); have n2_ := Aside0.mk (Kd.R_lower ho0 (below_size (by repeat (first | (with_reducible first | exact HB.out ) )))); have n3_ := Aside0.mk (blk_below (g := gb252) (o := .cells #[.int .i64 x253000_2, .slice none 0 0] 24 (0, 0)) (by (with_reducible repeat (fail)); exact BK252.out) hb); have n4_ := Aside0.mk (blk_below (g := gb263) (o := .cells #[.int .i64 ((rd_T76 t256 0).f1), u264001] 24 (0, 0)) (by (with_reducible repeat (fail)); exact BK263.out) hb); have n5_ := Aside0.mk (below_step (by repeat (first | (with_reducible first | exact HB.out ) )) hb); clear HO_264001; clear HO267; clear BK252; clear BK263; clear HB; have HO_264001 := n0_; have HO267 := n1_; have HO272 := n2_; have BK252 := n3_; have BK263 := n4_; have HB := n5_; clear n0_ n1_ n2_ n3_ n4_ n5_; (try clear hb); (try clear hb2); (try clear hk); (try clear hi); (try clear ho0)))
              have n0_ := Aside0.mk (Kd.R_drew HO_264001.out)
              have n1_ := Aside0.mk (Kd.R_drew HO267.out)
              have n2_ := Aside0.mk (Kd.R_drew HO272.out)
              have n3_ := Aside0.mk (blk_drew BK252.out)
              have n4_ := Aside0.mk (blk_drew BK263.out)
              have n5_ := Aside0.mk (below_drew1 HB.out)
              clear HO_264001
              clear HO267
              clear HO272
              clear BK252
              clear BK263
              clear HB
              have HO_264001 := n0_
              have HO267 := n1_
              have HO272 := n2_
              have BK252 := n3_
              have BK263 := n4_
              have HB := n5_
              clear n0_ n1_ n2_ n3_ n4_ n5_
              obtain ⟨Ao32, co32, eo32⟩ := Kd.R_slice HO272.out
              (first | subst eo32 )
              have p273 : 0 ≤ (0 : Int) := (by omega)
              have q273 : 0 < (t268.length : Int) := of_decide_eq_true (by first | (with_reducible assumption) )
              obtain ⟨ad273, e273, hx273_0, hx273_1, hx273_2⟩ := at_T76 (Kd.R_reads' HO272.out).2.2 0 p273 q273
              cases e273
              have qi273 : (0 < t268.length) = True := eq_true (by omega)
              (try rw [show ((0 : Int)).toNat = 0 from rfl] at hx273_0)
              (try rw [show 0 * 3 = 0 from rfl] at hx273_0)
              (try rw [Addr.add_zero'] at hx273_0)
              (try rw [show ((0 : Int)).toNat = 0 from rfl] at hx273_1)
              (try rw [show 0 * 3 = 0 from rfl] at hx273_1)
              (try rw [Addr.add_zero'] at hx273_1)
              (try rw [show ((0 : Int)).toNat = 0 from rfl] at hx273_2)
              (try rw [show 0 * 3 = 0 from rfl] at hx273_2)
              (try rw [Addr.add_zero'] at hx273_2)
              replace p273 := eq_true p273
              replace q273 := eq_true q273
              have p274 : 0 ≤ (1 : Int) := (by omega)
              have q274 : 1 < (t268.length : Int) := of_decide_eq_true (by first | (with_reducible assumption) )
              obtain ⟨ad274, e274, hx274_0, hx274_1, hx274_2⟩ := at_T76 (Kd.R_reads' HO272.out).2.2 1 p274 q274
              obtain rfl : ad273 = ad274 := (by injection e274)
              (try simp only [show (1 : Int).toNat = 1 from rfl, Nat.reduceMul, Nat.reduceEqDiff, Go.Addr.add, ↓reduceIte] at hx274_0)
              (try simp only [show (1 : Int).toNat = 1 from rfl, Nat.reduceMul, Nat.reduceEqDiff, Go.Addr.add, ↓reduceIte] at hx274_1)
              (try simp only [show (1 : Int).toNat = 1 from rfl, Nat.reduceMul, Nat.reduceEqDiff, Go.Addr.add, ↓reduceIte] at hx274_2)
              have qi274 : (1 < t268.length) = True := eq_true (by omega)
              (try rw [show ((1 : Int)).toNat = 1 from rfl] at hx274_0)
              (try rw [show 1 * 3 = 3 from rfl] at hx274_0)
              (try rw [show ((1 : Int)).toNat = 1 from rfl] at hx274_1)
              (try rw [show 1 * 3 = 3 from rfl] at hx274_1)
              (try rw [show ((1 : Int)).toNat = 1 from rfl] at hx274_2)
              (try rw [show 1 * 3 = 3 from rfl] at hx274_2)
              replace p274 := eq_true p274
              replace q274 := eq_true q274
              have p275 : 0 ≤ (2 : Int) := (by omega)
              have q275 : 2 < (t268.length : Int) := of_decide_eq_true (by first | (with_reducible assumption) )
              obtain ⟨ad275, e275, hx275_0, hx275_1, hx275_2⟩ := at_T76 (Kd.R_reads' HO272.out).2.2 2 p275 q275
              obtain rfl : ad273 = ad275 := (by injection e275)
              (try simp only [show (2 : Int).toNat = 2 from rfl, Nat.reduceMul, Nat.reduceEqDiff, Go.Addr.add, ↓reduceIte] at hx275_0)
              (try simp only [show (2 : Int).toNat = 2 from rfl, Nat.reduceMul, Nat.reduceEqDiff, Go.Addr.add, ↓reduceIte] at hx275_1)
              (try simp only [show (2 : Int).toNat = 2 from rfl, Nat.reduceMul, Nat.reduceEqDiff, Go.Addr.add, ↓reduceIte] at hx275_2)
              have qi275 : (2 < t268.length) = True := eq_true (by omega)
              (try rw [show ((2 : Int)).toNat = 2 from rfl] at hx275_0)
              (try rw [show 2 * 3 = 6 from rfl] at hx275_0)
              (try rw [show ((2 : Int)).toNat = 2 from rfl] at hx275_1)
              (try rw [show 2 * 3 = 6 from rfl] at hx275_1)
              (try rw [show ((2 : Int)).toNat = 2 from rfl] at hx275_2)
              (try rw [show 2 * 3 = 6 from rfl] at hx275_2)
              replace p275 := eq_true p275
              replace q275 := eq_true q275
              refine start_ (n := 22) (S := fun w' => w'.cell? ⟨gb263, 0, none⟩ = some (.int .i64 ((rd_T76 t256 0).f1)) ∧ w'.cell? ⟨gb263, 1, none⟩ = some (u264001) ∧ w'.cell? ad273 = some (.int .i64 ((rd_T76 t268 0).f0)) ∧ w'.cell? ⟨ad273.block, ad273.off + 1, none⟩ = some (.int .i64 ((rd_T76 t268 0).f1)) ∧ w'.cell? ⟨ad273.block, ad273.off + 2, none⟩ = some (.string ((rd_T76 t268 0).f2)) ∧ w'.cell? ⟨ad273.block, ad273.off + 3, none⟩ = some (.int .i64 ((rd_T76 t268 1).f0)) ∧ w'.cell? ⟨ad273.block, ad273.off + 3 + 1, none⟩ = some (.int .i64 ((rd_T76 t268 1).f1)) ∧ w'.cell? ⟨ad273.block, ad273.off + 3 + 2, none⟩ = some (.string ((rd_T76 t268 1).f2)) ∧ w'.cell? ⟨ad273.block, ad273.off + 6, none⟩ = some (.int .i64 ((rd_T76 t268 2).f0)) ∧ w'.cell? ⟨ad273.block, ad273.off + 6 + 1, none⟩ = some (.int .i64 ((rd_T76 t268 2).f1)) ∧ w'.cell? ⟨ad273.block, ad273.off + 6 + 2, none⟩ = some (.string ((rd_T76 t268 2).f2))) (ds := [17, 20]) #[false, false, false, false, false, false, false, false, false, false, false, false, false, false, false, false, false, false, false, false, false, false] (by kernel_rfl) rfl rfl ⟨(blk_cell BK263.out 0).trans rfl, (blk_cell BK263.out 1).trans rfl, hx273_0, hx273_1, hx273_2, hx274_0, hx274_1, hx274_2, hx275_0, hx275_1, hx275_2⟩ (fun hHeld => ?_); refine with_tabW view_Read.tab10 view_Read.bits10 (fun HT_ HW_ => ?_)
              generalize w30.drew = w31 at HO_264001 HO267 HO272 BK252 BK263 HB hx273_0 hx273_1 hx273_2 hx274_0 hx274_1 hx274_2 hx275_0 hx275_1 hx275_2 hHeld ⊢
              refine pure_ (i := 0) (N := some 49) (v := ?_) (a' := ?_) #[true, false, false, false, false, false, false, false, false, false, false, false, false, false, false, false, false, false, false, false, false, false] rfl rfl (any_of HT_.out (by kernel_rfl)) (fun _ _ _ h => h) (Or.inl ⟨by rfl, ?_⟩) ?_ ?_
              rotate_left
              ·intro w'
               go_simp
               with_reducible rfl
              rotate_left
              ·simp only [Act.put, List.setIfInBounds_toArray, List.set_cons_zero, List.set_cons_succ, i64_w, i32_w]
               rfl
              refine pure_ (i := 2) (N := some 51) (v := ?_) (a' := ?_) #[true, false, true, false, false, false, false, false, false, false, false, false, false, false, false, false, false, false, false, false, false, false] rfl rfl (any_of HT_.out (by kernel_rfl)) (fun _ _ _ h => h) (Or.inl ⟨by rfl, ?_⟩) ?_ ?_
              rotate_left
              ·intro w'
               go_simp
               with_reducible rfl
              rotate_left
              ·simp only [Act.put, List.setIfInBounds_toArray, List.set_cons_zero, List.set_cons_succ, i64_w, i32_w]
               rfl
              refine pure_ (i := 3) (N := some 52) (v := ?_) (a' := ?_) #[true, false, true, true, false, false, false, false, false, false, false, false, false, false, false, false, false, false, false, false, false, false] rfl rfl (any_of HT_.out (by kernel_rfl)) (fun _ _ _ h => h) (Or.inl ⟨by rfl, ?_⟩) ?_ ?_
              rotate_left
              ·intro w'
               go_simp
               with_reducible rfl
              rotate_left
              ·simp only [Act.put, List.setIfInBounds_toArray, List.set_cons_zero, List.set_cons_succ, i64_w, i32_w]
               rfl
              refine pure_ (i := 4) (N := some 53) (v := ?_) (a' := ?_) #[true, false, true, true, true, false, false, false, false, false, false, false, false, false, false, false, false, false, false, false, false, false] rfl rfl (any_of HT_.out (by kernel_rfl)) (fun _ _ _ h => h) (Or.inl ⟨by rfl, ?_⟩) ?_ ?_
              rotate_left
              ·intro w'
               go_simp
               with_reducible rfl
              rotate_left
              ·simp only [Act.put, List.setIfInBounds_toArray, List.set_cons_zero, List.set_cons_succ, i64_w, i32_w]
               rfl
              refine pure_ (i := 6) (N := some 55) (v := ?_) (a' := ?_) #[true, false, true, true, true, false, true, false, false, false, false, false, false, false, false, false, false, false, false, false, false, false] rfl rfl (any_of HT_.out (by kernel_rfl)) (fun _ _ _ h => h) (Or.inl ⟨by rfl, ?_⟩) ?_ ?_
              rotate_left
              ·intro w'
               go_simp
               with_reducible rfl
              rotate_left
              ·simp only [Act.put, List.setIfInBounds_toArray, List.set_cons_zero, List.set_cons_succ, i64_w, i32_w]
               rfl
              refine pure_ (i := 7) (N := some 56) (v := ?_) (a' := ?_) #[true, false, true, true, true, false, true, true, false, false, false, false, false, false, false, false, false, false, false, false, false, false] rfl rfl (any_of HT_.out (by kernel_rfl)) (fun _ _ _ h => h) (Or.inl ⟨by rfl, ?_⟩) ?_ ?_
              rotate_left
              ·intro w'
               go_simp
               with_reducible rfl
              rotate_left
              ·simp only [Act.put, List.setIfInBounds_toArray, List.set_cons_zero, List.set_cons_succ, i64_w, i32_w]
               rfl
              refine pure_ (i := 8) (N := some 57) (v := ?_) (a' := ?_) #[true, false, true, true, true, false, true, true, true, false, false, false, false, false, false, false, false, false, false, false, false, false] rfl rfl (any_of HT_.out (by kernel_rfl)) (fun _ _ _ h => h) (Or.inl ⟨by rfl, ?_⟩) ?_ ?_
              rotate_left
              ·intro w'
               go_simp
               with_reducible rfl
              rotate_left
              ·simp only [Act.put, List.setIfInBounds_toArray, List.set_cons_zero, List.set_cons_succ, i64_w, i32_w]
               rfl
              refine pure_ (i := 10) (N := some 59) (v := ?_) (a' := ?_) #[true, false, true, true, true, false, true, true, true, false, true, false, false, false, false, false, false, false, false, false, false, false] rfl rfl (any_of HT_.out (by kernel_rfl)) (fun _ _ _ h => h) (Or.inl ⟨by rfl, ?_⟩) ?_ ?_
              rotate_left
              ·intro w'
               go_simp
               with_reducible rfl
              rotate_left
              ·simp only [Act.put, List.setIfInBounds_toArray, List.set_cons_zero, List.set_cons_succ, i64_w, i32_w]
               rfl
              refine pure_ (i := 11) (N := some 60) (v := ?_) (a' := ?_) #[true, false, true, true, true, false, true, true, true, false, true, true, false, false, false, false, false, false, false, false, false, false] rfl rfl (any_of HT_.out (by kernel_rfl)) (fun _ _ _ h => h) (Or.inl ⟨by rfl, ?_⟩) ?_ ?_
              rotate_left
              ·intro w'
               go_simp
               with_reducible rfl
              rotate_left
              ·simp only [Act.put, List.setIfInBounds_toArray, List.set_cons_zero, List.set_cons_succ, i64_w, i32_w]
               rfl
              refine pure_ (i := 12) (N := some 61) (v := ?_) (a' := ?_) #[true, false, true, true, true, false, true, true, true, false, true, true, true, false, false, false, false, false, false, false, false, false] rfl rfl (any_of HT_.out (by kernel_rfl)) (fun _ _ _ h => h) (Or.inl ⟨by rfl, ?_⟩) ?_ ?_
              rotate_left
              ·intro w'
               go_simp
               with_reducible rfl
              rotate_left
              ·simp only [Act.put, List.setIfInBounds_toArray, List.set_cons_zero, List.set_cons_succ, i64_w, i32_w]
               rfl
              refine pure_ (i := 18) (N := some 67) (v := ?_) (a' := ?_) #[true, false, true, true, true, false, true, true, true, false, true, true, true, false, false, false, false, false, true, false, false, false] rfl rfl (any_of HT_.out (by kernel_rfl)) (fun _ _ _ h => h) (Or.inl ⟨by rfl, ?_⟩) ?_ ?_
              rotate_left
              ·intro w'
               go_simp
               with_reducible rfl
              rotate_left
              ·simp only [Act.put, List.setIfInBounds_toArray, List.set_cons_zero, List.set_cons_succ, i64_w, i32_w]
               rfl
              refine take_ (i := 1) (N := some 50) (v := ?_) (a' := ?_) #[true, true, true, true, true, false, true, true, true, false, true, true, true, false, false, false, false, false, true, false, false, false] rfl rfl (take_ofW HT_.out HW_.out (by kernel_rfl)) (fun _ _ _ h => h) (Or.inl ⟨by rfl, ?_⟩) hHeld ?_ ?_
              rotate_left
              ·rintro w' ⟨s0, s1, s2, s3, s4, s5, s6, s7, s8, s9, s10⟩
               go_simp
               with_reducible rfl
              rotate_left
              ·simp only [Act.put, List.setIfInBounds_toArray, List.set_cons_zero, List.set_cons_succ, i64_w, i32_w]
               rfl
              refine take_ (i := 5) (N := some 54) (v := ?_) (a' := ?_) #[true, true, true, true, true, true, true, true, true, false, true, true, true, false, false, false, false, false, true, false, false, false] rfl rfl (take_ofW HT_.out HW_.out (by kernel_rfl)) (fun _ _ _ h => h) (Or.inl ⟨by rfl, ?_⟩) hHeld ?_ ?_
              rotate_left
              ·rintro w' ⟨s0, s1, s2, s3, s4, s5, s6, s7, s8, s9, s10⟩
               go_simp
               with_reducible rfl
              rotate_left
              ·simp only [Act.put, List.setIfInBounds_toArray, List.set_cons_zero, List.set_cons_succ, i64_w, i32_w]
               rfl
              refine take_ (i := 9) (N := some 58) (v := ?_) (a' := ?_) #[true, true, true, true, true, true, true, true, true, true, true, true, true, false, false, false, false, false, true, false, false, false] rfl rfl (take_ofW HT_.out HW_.out (by kernel_rfl)) (fun _ _ _ h => h) (Or.inl ⟨by rfl, ?_⟩) hHeld ?_ ?_
              rotate_left
              ·rintro w' ⟨s0, s1, s2, s3, s4, s5, s6, s7, s8, s9, s10⟩
               go_simp
               with_reducible rfl
              rotate_left
              ·simp only [Act.put, List.setIfInBounds_toArray, List.set_cons_zero, List.set_cons_succ, i64_w, i32_w]
               rfl
              refine take_ (i := 13) (N := some 62) (v := ?_) (a' := ?_) #[true, true, true, true, true, true, true, true, true, true, true, true, true, true, false, false, false, false, true, false, false, false] rfl rfl (take_ofW HT_.out HW_.out (by kernel_rfl)) (fun _ _ _ h => h) (Or.inl ⟨by rfl, ?_⟩) hHeld ?_ ?_
              rotate_left
              ·rintro w' ⟨s0, s1, s2, s3, s4, s5, s6, s7, s8, s9, s10⟩
               go_simp
               with_reducible rfl
              rotate_left
              ·simp only [Act.put, List.setIfInBounds_toArray, List.set_cons_zero, List.set_cons_succ, i64_w, i32_w]
               rfl
              refine pure_ (i := 14) (N := some 63) (v := ?_) (a' := ?_) #[true, true, true, true, true, true, true, true, true, true, true, true, true, true, true, false, false, false, true, false, false, false] rfl rfl (any_of HT_.out (by kernel_rfl)) (fun _ _ _ h => h) (Or.inl ⟨by rfl, ?_⟩) ?_ ?_
              rotate_left
              ·intro w'
               go_simp
               with_reducible rfl
              rotate_left
              ·simp only [Act.put, List.setIfInBounds_toArray, List.set_cons_zero, List.set_cons_succ, i64_w, i32_w]
               rfl
              refine pure_ (i := 15) (N := some 64) (v := ?_) (a' := ?_) #[true, true, true, true, true, true, true, true, true, true, true, true, true, true, true, true, false, false, true, false, false, false] rfl rfl (any_of HT_.out (by kernel_rfl)) (fun _ _ _ h => h) (Or.inl ⟨by rfl, ?_⟩) ?_ ?_
              rotate_left
              ·intro w'
               go_simp
               with_reducible rfl
              rotate_left
              ·simp only [Act.put, List.setIfInBounds_toArray, List.set_cons_zero, List.set_cons_succ, i64_w, i32_w]
               rfl
              refine one_ (i := 16) (N := some 65) #[true, true, true, true, true, true, true, true, true, true, true, true, true, true, true, true, true, false, true, false, false, false] rfl rfl (one_of HT_.out (by kernel_rfl)) (by decide) (fun K hK => ?_)
              refine value_ (w1 := ?_) (v := ?_) (by rfl) rfl ?_ ?_
              rotate_left 2
              ·go_simp
               constructor
               ·rfl
               ·rfl
              refine hK.out _ _ ⟨(blk_cell (blk_alloc BK263.out _) 0).trans rfl, (blk_cell (blk_alloc BK263.out _) 1).trans rfl, (World.cell?_alloc_lt _ _ _ (World.block_lt_of_cell? _ _ (hHeld.2.2.1))).trans (hHeld.2.2.1), (World.cell?_alloc_lt _ _ _ (World.block_lt_of_cell? _ _ (hHeld.2.2.2.1))).trans (hHeld.2.2.2.1), (World.cell?_alloc_lt _ _ _ (World.block_lt_of_cell? _ _ (hHeld.2.2.2.2.1))).trans (hHeld.2.2.2.2.1), (World.cell?_alloc_lt _ _ _ (World.block_lt_of_cell? _ _ (hHeld.2.2.2.2.2.1))).trans (hHeld.2.2.2.2.2.1), (World.cell?_alloc_lt _ _ _ (World.block_lt_of_cell? _ _ (hHeld.2.2.2.2.2.2.1))).trans (hHeld.2.2.2.2.2.2.1), (World.cell?_alloc_lt _ _ _ (World.block_lt_of_cell? _ _ (hHeld.2.2.2.2.2.2.2.1))).trans (hHeld.2.2.2.2.2.2.2.1), (World.cell?_alloc_lt _ _ _ (World.block_lt_of_cell? _ _ (hHeld.2.2.2.2.2.2.2.2.1))).trans (hHeld.2.2.2.2.2.2.2.2.1), (World.cell?_alloc_lt _ _ _ (World.block_lt_of_cell? _ _ (hHeld.2.2.2.2.2.2.2.2.2.1))).trans (hHeld.2.2.2.2.2.2.2.2.2.1), (World.cell?_alloc_lt _ _ _ (World.block_lt_of_cell? _ _ (hHeld.2.2.2.2.2.2.2.2.2.2))).trans (hHeld.2.2.2.2.2.2.2.2.2.2)⟩ (fun hHeld => ?_)
              clear hK K
              refine norm_ (a' := ?_) ?_ ?_
              rotate_left
              ·show Act.put _ (some 65) _ = _
               simp only [Act.put, List.setIfInBounds_toArray, List.set_cons_zero, List.set_cons_succ, i64_w, i32_w]
               rfl
              refine last_ (i := 17) (N := some 66) #[true, true, true, true, true, true, true, true, true, true, true, true, true, true, true, true, true, true, true, false, false, false] rfl rfl (one_of HT_.out (by kernel_rfl)) (by decide) (fun K hK => ?_)
              refine Kd.R_append_step k53 (w0 := w) w.heap.size (by rfl) (.tmp 50) (.tmp 65) 22 53 (.agg #[(.int .i64 0), (.int .i64 0), (.bool false)]) 24 rfl Try.underlying22 info53 rfl (by decide) (by omega) u264001 x264001_2 (⟨(rd_T76 t268 0).f1, (rd_T76 t268 1).f1, (((rd_T76 t268 2).f1) == 1)⟩ : S53) [.int .i64 ((rd_T76 t268 0).f1), .int .i64 ((rd_T76 t268 1).f1), .bool (((rd_T76 t268 2).f1) == 1)] (fun _ => True) (fun _ => False) rfl rfl ?aP (fun _ hk => hk.elim) ?aF ?aO ?aB ?aS ?aL ?_
              (case aP => exact k53_mkM _ _ _ (⟨(rd_T76 t268 0).f1, (rd_T76 t268 1).f1, (((rd_T76 t268 2).f1) == 1)⟩ : S53))
              (case aB => exact (by repeat (first | (with_reducible first | exact HB.out ) )))
              (case aF => exact (fun _ _ => trivial))
              (case aO => exact (by (with_reducible repeat (fail)); exact HO_264001.out))
              (case aS => exact (below_size (by repeat (first | (with_reducible first | exact HB.out ) ))))
              (case aL => have := LMc26.out; omega)
              intro v277 w33 ho hb hg hat
              rw [← Ny276.out] at ho
              have n0_ := Aside0.mk (blk_grown (g := gb252) (o := .cells #[.int .i64 x253000_2, .slice none 0 0] 24 (0, 0)) (by (with_reducible repeat (fail)); exact BK252.out) hg (Kd.R_ne HO_264001.out BK252.out (by decide)))
              have n1_ := Aside0.mk (blk_grown (g := gb263) (o := .cells #[.int .i64 ((rd_T76 t256 0).f1), u264001] 24 (0, 0)) (by (with_reducible repeat (fail)); exact BK263.out) hg (Kd.R_ne HO_264001.out BK263.out (by decide)))
              have n2_ := Aside0.mk (Kd.R_over' (by (with_reducible repeat (fail)); exact HO267.out) (Kd.R_typed (by (with_reducible repeat (fail)); exact HO_264001.out)) (by decide) hg)
              have n3_ := Aside0.mk (Kd.R_over' (by (with_reducible repeat (fail)); exact HO272.out) (Kd.R_typed (by (with_reducible repeat (fail)); exact HO_264001.out)) (by decide) hg)
              have n4_ := Aside0.mk (hb)
              have n5_ := Aside0.mk (ho)
              clear BK252
              clear BK263
              clear HO267
              clear HO272
              clear HB
              clear HO_264001
              have BK252 := n0_
              have BK263 := n1_
              have HO267 := n2_
              have HO272 := n3_
              have HB := n4_
              have HO278 := n5_
              clear n0_ n1_ n2_ n3_ n4_ n5_
              clear ho hb hg hat
              obtain ⟨Ao34, co34, eo34⟩ := Kd.R_slice HO278.out
              (first | subst eo34 )
              refine hK.out _ _ ?_
              clear hK K
              refine norm_ (a' := ?_) ?_ ?_
              rotate_left
              ·show Act.put _ (some 66) _ = _
               simp only [Act.put, List.setIfInBounds_toArray, List.set_cons_zero, List.set_cons_succ, i64_w, i32_w]
               rfl
              refine pure_ (i := 19) (N := some 68) (v := ?_) (a' := ?_) #[true, true, true, true, true, true, true, true, true, true, true, true, true, true, true, true, true, true, true, true, false, false] rfl rfl (any_of HT_.out (by kernel_rfl)) (fun _ _ _ h => h) (Or.inl ⟨by rfl, ?_⟩) ?_ ?_
              rotate_left
              ·intro w'
               go_simp
               with_reducible rfl
              rotate_left
              ·simp only [Act.put, List.setIfInBounds_toArray, List.set_cons_zero, List.set_cons_succ, i64_w, i32_w]
               rfl
              refine last_ (i := 20) (N := none) #[true, true, true, true, true, true, true, true, true, true, true, true, true, true, true, true, true, true, true, true, true, false] rfl rfl (one_of HT_.out (by kernel_rfl)) (by decide) (fun K hK => ?_)
              have hs35 : w33.cell? ⟨gb263, 1, none⟩ = some (u264001) := (blk_cell BK263.out 1).trans rfl
              have hfs35 := blk_frozen BK263.out 1
              have hns35_0 := NB252_263.out
              have hms35_0 := NB263_252.out
              refine skip_ (w1 := ?_) (by rfl) rfl ?_ ?_
              rotate_left
              ·go_simp
               rfl
              refine hK.out _ _ ?_
              clear hK K
              refine pure_ (i := 21) (N := some 5) (v := ?_) (a' := ?_) #[true, true, true, true, true, true, true, true, true, true, true, true, true, true, true, true, true, true, true, true, true, true] rfl rfl (any_of HT_.out (by kernel_rfl)) (fun _ _ _ h => h) (Or.inl ⟨by rfl, ?_⟩) ?_ ?_
              rotate_left
              ·intro w'
               go_simp
               with_reducible rfl
              rotate_left
              ·simp only [Act.put, List.setIfInBounds_toArray, List.set_cons_zero, List.set_cons_succ, i64_w, i32_w]
               rfl
              refine done_ (done_of HT_.out (by kernel_rfl)) ?_
              try go_wp2
              go_roundg k2
              case measure => have := HJ2.out; have := HK2.out; omega
              case rel => exact ⟨(t269), (wrap64 (x37_2 + 1)), (x253000_2), (y276), (.slice Ao34 y276.length co34), (by first | rfl ), (by first | rfl ), H', ⟨by have := HJ2.out; have := HK2.out; omega⟩, ⟨by (with_reducible repeat (fail)); exact Kd.R_mono (Kd.R_far (p := ⟨gb263, 1, none⟩) (Kd.R_types HO278.out BK263.out (by decide)) (fun _ hk => hk.2) (.slice Ao34 y276.length co34)) (fun _ hk => trivial)⟩, ⟨by (with_reducible repeat (fail)); refine blk_far ?_ NB252_263.out _; (with_reducible repeat (fail)); exact BK252.out⟩, ⟨by (with_reducible repeat (fail)); refine blk_put (cs := #[.int .i64 ((rd_T76 t256 0).f1), u264001]) ?_ 1 _ rfl; (with_reducible repeat (fail)); exact BK263.out⟩, ⟨by repeat (first | (with_reducible first | exact HB.out | refine below_set ?_ GE263.out) )⟩⟩
             ·rw [if_neg c26] at H
              exact absurd H (by simp)
            ·rw [if_neg c25] at H
             exact absurd H (by simp)
           ·rw [if_neg c24] at H
            exact absurd H (by simp)
          ·rw [if_neg c23] at H
           exact absurd H (by simp)
         ·rw [if_neg c22] at H
          have c22b0 : (t270 == 0) = false := beq_eq_false_iff_ne.mpr c22
          have c22b1 : (t270 != 0) = true := bne_iff_ne.mpr c22
          simp only [Option.some.injEq, Prod.mk.injEq] at H
          obtain ⟨rfl, rfl, rfl⟩ := H
          go_wp2_with (first | ((with_reducible refine gate_dst (N := 41) rfl ?_); refine Kd.R_lit (Kd.int .i64) _ 3 ?hg (N := 41) ?hd (xs := ([1, 1, 3] : List Int)) (inner := [.int .i64 1, .int .i64 1, .int .i64 3]) (ok := fun _ => True) (okp := fun _ => True) ?hr ?hp (fun _ hk => hk) trivial (Below.refl _ _) (Nat.le_refl _) (by simp) ?_; (case hd => rfl); (case hg => rfl); (case hr => first | (go_simp; done) ); (case hp => exact (Reps.one (show Kd.M (Kd.int .i64) _ _ _ 1 [.int .i64 1] from rfl) (Reps.one (show Kd.M (Kd.int .i64) _ _ _ 1 [.int .i64 1] from rfl) (Reps.one (show Kd.M (Kd.int .i64) _ _ _ 3 [.int .i64 3] from rfl) (Reps.none _ _))))); intro v266 w36 ho37 hb hg_ hnew_; clear hg_ hnew_; (first | rw [← Ny265.out] at ho37 ); have n0_ := Aside0.mk (Kd.R_below (by (with_reducible repeat (fail)); exact HO_264001.out) hb); have n1_ := Aside0.mk (Kd.R_lower ho37 (below_size (by repeat (first | (with_reducible first | exact HB.out ) )))); have n2_ := Aside0.mk (blk_below (g := gb252) (o := .cells #[.int .i64 x253000_2, .slice none 0 0] 24 (0, 0)) (by (with_reducible repeat (fail)); exact BK252.out) hb); have n3_ := Aside0.mk (blk_below (g := gb263) (o := .cells #[.int .i64 ((rd_T76 t256 0).f1), u264001] 24 (0, 0)) (by (with_reducible repeat (fail)); exact BK263.out) hb); have n4_ := Aside0.mk (below_step (by repeat (first | (with_reducible first | exact HB.out ) )) hb); clear HO_264001; clear BK252; clear BK263; clear HB; have HO_264001 := n0_; have HO267 := n1_; have BK252 := n2_; have BK263 := n3_; have HB := n4_; clear n0_ n1_ n2_ n3_ n4_; clear hb ho37; obtain ⟨Ao38, co38, eo38⟩ := Kd.R_slice HO267.out; subst eo38) | ((with_reducible refine gate_callee (f := 41) rfl ?_); refine goesL_ (some 42) rfl rfl Try.func41 (by kernel_rfl) rfl #[.string x5_2, .slice Ao38 y265.length co38] rfl (by (try simp only [List.map_toArray, List.map_cons, List.map_nil]); first | rfl ) ?_; (with_reducible refine (quic_Take.calls k2 x5_2 _ _ y265 t268 t269 t270 _ ?side1 ?side2 A21.out).mono ?_); (case side1 => repeat (first | exact (Kd.R_reads' HO267.out).2.2 )); (case side2 => exact (Kd.R_reads' HO267.out).2.1); rintro e w39 ⟨v271, rfl, ho0, hb⟩; refine ⟨_, rfl, ?_⟩; have n0_ := Aside0.mk (Kd.R_below (by (with_reducible repeat (fail)); exact HO_264001.out) hb); have n1_ := Aside0.mk (Kd.R_below (by (with_reducible repeat (fail)); exact HO267.out) hb); have n2_ := Aside0.mk (Kd.R_lower ho0 (below_size (by repeat (first | (with_reducible first | exact HB.out ) )))); have n3_ := Aside0.mk (blk_below (g := gb252) (o := .cells #[.int .i64 x253000_2, .slice none 0 0] 24 (0, 0)) (by (with_reducible repeat (fail)); exact BK252.out) hb); have n4_ := Aside0.mk (blk_below (g := gb263) (o := .cells #[.int .i64 ((rd_T76 t256 0).f1), u264001] 24 (0, 0)) (by (with_reducible repeat (fail)); exact BK263.out) hb); have n5_ := Aside0.mk (below_step (by repeat (first | (with_reducible first | exact HB.out ) )) hb); clear HO_264001; clear HO267; clear BK252; clear BK263; clear HB; have HO_264001 := n0_; have HO267 := n1_; have HO272 := n2_; have BK252 := n3_; have BK263 := n4_; have HB := n5_; clear n0_ n1_ n2_ n3_ n4_ n5_; (try clear hb); (try clear hb2); (try clear hk); (try clear hi); (try clear ho0); have hnb40 := NB252_263.out; have hnc40 := NB263_252.out; have hcz41_0 : w39.cell? ⟨gb252, 0, none⟩ = some (.int .i64 x253000_2) := (blk_cell BK252.out 0).trans rfl; have hcz41_1 : w39.cell? ⟨gb252, 1, none⟩ = some (.slice none 0 0) := (blk_cell BK252.out 1).trans rfl; have hfz41_0 := blk_frozen BK252.out 0; have hfz41_1 := blk_frozen BK252.out 1))
          refine bodyPost_ret (results_ct rfl _ _ gb252 24 #[.int .i64 0, .slice none 0 0] (0, 0) _ rfl (by (with_reducible repeat (fail)); refine blk_put (cs := #[.int .i64 0, .slice none 0 0]) ?_ 1 _ rfl; (with_reducible repeat (fail)); refine blk_put (cs := #[.int .i64 x253000_2, .slice none 0 0]) ?_ 0 _ rfl; (with_reducible repeat (fail)); exact BK252.out) Try.underlying24 rfl (by kernel_rfl)) rfl ?_
          exact ⟨_, by first | rfl , by first | exact Kd.R_nil _ _ _ _ _ , by repeat (first | (with_reducible first | exact HB.out | refine below_set ?_ GE252.out ) )⟩
        ·rw [if_neg c20] at H
         have c20b0 : decide (x37_2 < ((rd_T76 t256 1).f1)) = false := decide_eq_false c20
         clear c20
         by_cases c42 : x5_2.toList = ([] : List UInt8)
         ·rw [if_pos c42] at H
          have c42b0 : (x5_2.toList == ([] : List UInt8)) = true := beq_iff_eq.mpr c42
          have c42b1 : (x5_2.toList != ([] : List UInt8)) = false := bne_eq_false_iff_eq.mpr c42
          clear c42
          replace H := Option.bind_eq_some_iff.mp H
          obtain ⟨t279, A430, H⟩ := H
          replace H : (if t279 = true then (some (((rd_T76 t256 0).f1), x264001_2, 0)) else (some (0, ([] : List (S53)), 3))) = some (r1, r2, r3) := H
          have A43 := Aside0.mk A430
          clear A430
          by_cases c44 : t279 = true
          ·subst c44
           have H1 : (some (((rd_T76 t256 0).f1), x264001_2, 0)) = some (r1, r2, r3) := by rw [if_pos rfl] at H; exact H
           clear H
           have H := H1
           clear H1
           simp only [Option.some.injEq, Prod.mk.injEq] at H
           obtain ⟨rfl, rfl, rfl⟩ := H
           have hnb45 := NB263_252.out
           have hnc45 := NB252_263.out
           have hcz46_0 : wr.cell? ⟨gb263, 0, none⟩ = some (.int .i64 ((rd_T76 t256 0).f1)) := (blk_cell BK263.out 0).trans rfl
           have hcz46_1 : wr.cell? ⟨gb263, 1, none⟩ = some (u264001) := (blk_cell BK263.out 1).trans rfl
           have hfz46_0 := blk_frozen BK263.out 0
           have hfz46_1 := blk_frozen BK263.out 1
           obtain ⟨Ao47, co47, eo47⟩ := Kd.R_slice HO_264001.out
           subst eo47
           go_wp2_with (first | (go_at_call 17; (with_reducible refine (view_Check.calls k2 ((rd_T76 t256 0).f1) _ _ x264001_2 true _ ?side1 ?side2 A43.out).mono ?_); (case side1 => repeat (first | exact (Kd.R_reads' HO_264001.out).2.2 )); (case side2 => exact (Kd.R_reads' HO_264001.out).2.1); rintro e w48 ⟨rfl, hb⟩; have n0_ := Aside0.mk (Kd.R_below (by (with_reducible repeat (fail)); exact HO_264001.out) hb); have n1_ := Aside0.mk (blk_below (g := gb252) (o := .cells #[.int .i64 x253000_2, .slice none 0 0] 24 (0, 0)) (by (with_reducible repeat (fail)); exact BK252.out) hb); have n2_ := Aside0.mk (blk_below (g := gb263) (o := .cells #[.int .i64 ((rd_T76 t256 0).f1), .slice Ao47 x264001_2.length co47] 24 (0, 0)) (by (with_reducible repeat (fail)); exact BK263.out) hb); have n3_ := Aside0.mk (below_step (by repeat (first | (with_reducible first | exact HB.out ) )) hb); clear HO_264001; clear BK252; clear BK263; clear HB; have HO_264001 := n0_; have BK252 := n1_; have BK263 := n2_; have HB := n3_; clear n0_ n1_ n2_ n3_; (try clear hb); (try clear hb2); (try clear hk); (try clear hi); have hcz49_0 : w48.cell? ⟨gb263, 0, none⟩ = some (.int .i64 ((rd_T76 t256 0).f1)) := (blk_cell BK263.out 0).trans rfl; have hcz49_1 : w48.cell? ⟨gb263, 1, none⟩ = some (.slice Ao47 x264001_2.length co47) := (blk_cell BK263.out 1).trans rfl; have hfz49_0 := blk_frozen BK263.out 0; have hfz49_1 := blk_frozen BK263.out 1; have hcz50_0 : w48.cell? ⟨gb252, 0, none⟩ = some (.int .i64 x253000_2) := (blk_cell BK252.out 0).trans rfl; have hcz50_1 : w48.cell? ⟨gb252, 1, none⟩ = some (.slice none 0 0) := (blk_cell BK252.out 1).trans rfl; have hfz50_0 := blk_frozen BK252.out 0; have hfz50_1 := blk_frozen BK252.out 1))
           refine bodyPost_ret (results_ct rfl _ _ gb252 24 #[.int .i64 ((rd_T76 t256 0).f1), .slice Ao47 x264001_2.length co47] (0, 0) _ rfl (by (with_reducible repeat (fail)); refine blk_put (cs := #[.int .i64 ((rd_T76 t256 0).f1), .slice none 0 0]) ?_ 1 _ rfl; (with_reducible repeat (fail)); refine blk_put (cs := #[.int .i64 x253000_2, .slice none 0 0]) ?_ 0 _ rfl; (with_reducible repeat (fail)); exact BK252.out) Try.underlying24 rfl (by kernel_rfl)) rfl ?_
           exact ⟨_, by first | rfl , by (with_reducible repeat (fail)); exact Kd.R_mono (Kd.R_far (p := ⟨gb252, 1, none⟩) (Kd.R_far (p := ⟨gb252, 0, none⟩) (Kd.R_types HO_264001.out BK252.out (by decide)) (fun _ hk => hk.2) (.int .i64 ((rd_T76 t256 0).f1))) (fun _ hk => hk.2) (.slice Ao47 x264001_2.length co47)) (fun _ hk => trivial), by repeat (first | (with_reducible first | exact HB.out | refine below_set ?_ GE252.out ) )⟩
          ·replace c44 := Bool.eq_false_iff.mpr c44
           subst c44
           have H1 : (some (0, ([] : List (S53)), 3)) = some (r1, r2, r3) := by rw [if_neg (show ¬ (false = true) by decide)] at H; exact H
           clear H
           have H := H1
           clear H1
           simp only [Option.some.injEq, Prod.mk.injEq] at H
           obtain ⟨rfl, rfl, rfl⟩ := H
           have hnb51 := NB263_252.out
           have hnc51 := NB252_263.out
           have hcz52_0 : wr.cell? ⟨gb263, 0, none⟩ = some (.int .i64 ((rd_T76 t256 0).f1)) := (blk_cell BK263.out 0).trans rfl
           have hcz52_1 : wr.cell? ⟨gb263, 1, none⟩ = some (u264001) := (blk_cell BK263.out 1).trans rfl
           have hfz52_0 := blk_frozen BK263.out 0
           have hfz52_1 := blk_frozen BK263.out 1
           obtain ⟨Ao53, co53, eo53⟩ := Kd.R_slice HO_264001.out
           subst eo53
           go_wp2_with (first | (go_at_call 17; (with_reducible refine (view_Check.calls k2 ((rd_T76 t256 0).f1) _ _ x264001_2 false _ ?side1 ?side2 A43.out).mono ?_); (case side1 => repeat (first | exact (Kd.R_reads' HO_264001.out).2.2 )); (case side2 => exact (Kd.R_reads' HO_264001.out).2.1); rintro e w54 ⟨rfl, hb⟩; have n0_ := Aside0.mk (Kd.R_below (by (with_reducible repeat (fail)); exact HO_264001.out) hb); have n1_ := Aside0.mk (blk_below (g := gb252) (o := .cells #[.int .i64 x253000_2, .slice none 0 0] 24 (0, 0)) (by (with_reducible repeat (fail)); exact BK252.out) hb); have n2_ := Aside0.mk (blk_below (g := gb263) (o := .cells #[.int .i64 ((rd_T76 t256 0).f1), .slice Ao53 x264001_2.length co53] 24 (0, 0)) (by (with_reducible repeat (fail)); exact BK263.out) hb); have n3_ := Aside0.mk (below_step (by repeat (first | (with_reducible first | exact HB.out ) )) hb); clear HO_264001; clear BK252; clear BK263; clear HB; have HO_264001 := n0_; have BK252 := n1_; have BK263 := n2_; have HB := n3_; clear n0_ n1_ n2_ n3_; (try clear hb); (try clear hb2); (try clear hk); (try clear hi); have hcz55_0 : w54.cell? ⟨gb252, 0, none⟩ = some (.int .i64 x253000_2) := (blk_cell BK252.out 0).trans rfl; have hcz55_1 : w54.cell? ⟨gb252, 1, none⟩ = some (.slice none 0 0) := (blk_cell BK252.out 1).trans rfl; have hfz55_0 := blk_frozen BK252.out 0; have hfz55_1 := blk_frozen BK252.out 1))
           refine bodyPost_ret (results_ct rfl _ _ gb252 24 #[.int .i64 0, .slice none 0 0] (0, 0) _ rfl (by (with_reducible repeat (fail)); refine blk_put (cs := #[.int .i64 0, .slice none 0 0]) ?_ 1 _ rfl; (with_reducible repeat (fail)); refine blk_put (cs := #[.int .i64 x253000_2, .slice none 0 0]) ?_ 0 _ rfl; (with_reducible repeat (fail)); exact BK252.out) Try.underlying24 rfl (by kernel_rfl)) rfl ?_
           exact ⟨_, by first | rfl , by first | exact Kd.R_nil _ _ _ _ _ , by repeat (first | (with_reducible first | exact HB.out | refine below_set ?_ GE252.out ) )⟩
         ·rw [if_neg c42] at H
          have c42b0 : (x5_2.toList == ([] : List UInt8)) = false := beq_eq_false_iff_ne.mpr c42
          have c42b1 : (x5_2.toList != ([] : List UInt8)) = true := bne_iff_ne.mpr c42
          simp only [Option.some.injEq, Prod.mk.injEq] at H
          obtain ⟨rfl, rfl, rfl⟩ := H
          have hnb56 := NB252_263.out
          have hnc56 := NB263_252.out
          have hcz57_0 : wr.cell? ⟨gb252, 0, none⟩ = some (.int .i64 x253000_2) := (blk_cell BK252.out 0).trans rfl
          have hcz57_1 : wr.cell? ⟨gb252, 1, none⟩ = some (.slice none 0 0) := (blk_cell BK252.out 1).trans rfl
          have hfz57_0 := blk_frozen BK252.out 0
          have hfz57_1 := blk_frozen BK252.out 1
          go_wp2
          refine bodyPost_ret (results_ct rfl _ _ gb252 24 #[.int .i64 0, .slice none 0 0] (0, 0) _ rfl (by (with_reducible repeat (fail)); refine blk_put (cs := #[.int .i64 0, .slice none 0 0]) ?_ 1 _ rfl; (with_reducible repeat (fail)); refine blk_put (cs := #[.int .i64 x253000_2, .slice none 0 0]) ?_ 0 _ rfl; (with_reducible repeat (fail)); exact BK252.out) Try.underlying24 rfl (by kernel_rfl)) rfl ?_
          exact ⟨_, by first | rfl , by first | exact Kd.R_nil _ _ _ _ _ , by repeat (first | (with_reducible first | exact HB.out | refine below_set ?_ GE252.out ) )⟩
     ·rw [if_neg c15] at H
      exact absurd H (by simp)
    ·rw [if_neg c14] at H
     exact absurd H (by simp)

end Go.Proofs.Ytpdalofhekmbeaa.PViewReads
