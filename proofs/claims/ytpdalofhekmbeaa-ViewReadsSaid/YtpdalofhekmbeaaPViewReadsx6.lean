-- Written by a program of this session over the kit's printer (with contracts of the session's own).
import Derived.Test.YtpdalofhekmbeaaPViewReadsx0
import Derived.Test.YtpdalofhekmbeaaPViewReadsx2
import Derived.Test.YtpdalofhekmbeaaPViewReadsx3
import Derived.Test.YtpdalofhekmbeaaPViewReadsx4
import Derived.Test.YtpdalofhekmbeaaPViewReadsx5
namespace Go.Proofs.Ytpdalofhekmbeaa.PViewReads
open Go.RowKit Go.Proofs.YtpdalofhekmbeaaW.PrintWords Go.Proofs.YtpdalofhekmbeaaW.PrintLast Go.Proofs.YtpdalofhekmbeaaW.PrintMore
attribute [local go_sem] max2_int min2_int max_two min_two max_three min_three max_four min_four   -- for this text's walks alone
set_option linter.unusedVariables false
set_option linter.unusedSimpArgs false

/-! ### view_Text: function 28 -/
def view_Text.l0 : Nat → List (S76) → List (S53) → Int → Int → Option (ByteArray)
 | 0, _, _, _, _ => none
 | k + 1, x3, x20, x21, x22 => if x22 < x21 then (if 0 ≤ x22 then (if x22 < (x20.length : Int) then ((view_flag.f ((rd_T53 x20 x22).f2)).bind fun t174 => ((some (([(⟨1, (rd_T53 x20 x22).f0, (⟨#[]⟩ : ByteArray)⟩ : S76), (⟨1, (rd_T53 x20 x22).f1, (⟨#[]⟩ : ByteArray)⟩ : S76), (⟨3, t174, (⟨#[]⟩ : ByteArray)⟩ : S76)] : List (S76)) : List (S76))).bind fun y175 => (if x3.length + y175.length < 4398046511104 then (view_Text.l0 k (x3 ++ y175) x20 x21 (wrap64 (x22 + 1))) else (none)))) else (none)) else (none)) else ((quic_Put.f k x3).bind fun bt181 => (some bt181.1))
def view_Text.f (k : Nat) (a0_0 : Int) (l0_1 : List (S53)) : Option (ByteArray) := (view_Check.f k a0_0 l0_1).bind fun t168 => (if t168 = true then (view_Text.l0 k (([(⟨1, a0_0, (⟨#[]⟩ : ByteArray)⟩ : S76), (⟨1, (l0_1.length : Int), (⟨#[]⟩ : ByteArray)⟩ : S76)] : List (S76))) l0_1 (l0_1.length : Int) 0) else (some (⟨#[]⟩ : ByteArray)))
theorem view_Text.mono_l : ∀ k, (∀ y0 y1 y2 y3, LeO (view_Text.l0 k y0 y1 y2 y3) (view_Text.l0 (k + 1) y0 y1 y2 y3))
 | 0 => fun _ _ _ _ r h => by simp [view_Text.l0] at h
 | k + 1 => by
  have ih0 := view_Text.mono_l k
  ·intro y0 y1 y2 y3
   unfold view_Text.l0
   repeat' first
   | (with_reducible exact ih0 _ _ _ _)
   | (with_reducible exact quic_Put.mono _ _)
   | (with_reducible exact LeO.refl _)
   | (with_reducible refine LeO.ite ?_ ?_)
   | (with_reducible refine LeO.bind ?_ (fun _ => ?_))

theorem view_Text.mono : ∀ a0 a1 k, LeO (view_Text.f k a0 a1) (view_Text.f (k + 1) a0 a1) := by
 intro a0 a1 k
 have ih0 := view_Text.mono_l k
 unfold view_Text.f
 repeat' first
   | (with_reducible exact ih0 _ _ _ _)
   | (with_reducible exact view_Check.mono _ _ _)
   | (with_reducible exact LeO.refl _)
   | (with_reducible refine LeO.ite ?_ ?_)
   | (with_reducible refine LeO.bind ?_ (fun _ => ?_))

def view_Text.T7 : Bool × List (List Nat × List Nat) := (true, [([], []), ([], []), ([1], [1]), ([2], [2]), ([], []), ([4], [4]), ([5], [5]), ([], []), ([7], [7]), ([8], [8]), ([9], [9]), ([3, 6, 10], [3, 6, 10]), ([0, 11, 9], [0, 11]), ([12, 12, 0, 1, 2, 3, 4, 5, 6, 7, 8, 9, 10, 11, 12], [0, 12])])
def view_Text.B7 : List Nat := [0, 0, 2, 6, 0, 16, 48, 0, 128, 384, 896, 2046, 4095, 8191]
theorem view_Text.tab7 : rtab .any (opsOf Try.f28 7) = view_Text.T7 := by kernel_rfl
theorem view_Text.bits7 : waitsOk view_Text.T7.2 view_Text.B7 = true := by kernel_rfl
set_option maxHeartbeats 8000000 in
set_option maxRecDepth 100000 in
theorem view_Text.calls (k : Nat) (a0_0 : Int) (A0_1 : Option Addr) (c0_1 : Nat) (l0_1 : List (S53)) (r : ByteArray) (w : World) (hr0_1 : Kd.C k53 w A0_1 l0_1.length l0_1) (hc0_1 : l0_1.length ≤ c0_1) (h : view_Text.f k a0_0 l0_1 = some r) :
  Calls Try.prog 28 #[.agg #[.int .i64 a0_0, .slice A0_1 l0_1.length c0_1]] w fun e w' => e = .returned (.string r) ∧ Below w.heap.size w w' := by
 have hu24 := Try.underlying24
 have hu76 := Try.underlying76
 have hu53 := Try.underlying53
 have HR0_1 := Aside0.mk hr0_1
 have HC0_1 := Aside0.mk hc0_1
 clear hr0_1 hc0_1
 have HB := Aside0.mk (Below.refl w.heap.size w)
 have H : ((view_Check.f k a0_0 l0_1).bind fun t168 => (if t168 = true then (view_Text.l0 k (([(⟨1, a0_0, (⟨#[]⟩ : ByteArray)⟩ : S76), (⟨1, (l0_1.length : Int), (⟨#[]⟩ : ByteArray)⟩ : S76)] : List (S76))) l0_1 (l0_1.length : Int) 0) else (some (⟨#[]⟩ : ByteArray)))) = some r := h
 clear h
 replace H := Option.bind_eq_some_iff.mp H
 obtain ⟨t168, A20, H⟩ := H
 replace H : (if t168 = true then (view_Text.l0 k (([(⟨1, a0_0, (⟨#[]⟩ : ByteArray)⟩ : S76), (⟨1, (l0_1.length : Int), (⟨#[]⟩ : ByteArray)⟩ : S76)] : List (S76))) l0_1 (l0_1.length : Int) 0) else (some (⟨#[]⟩ : ByteArray))) = some r := H
 have A2 := Aside0.mk A20
 clear A20
 by_cases c3 : t168 = true
 ·subst c3
  have H1 : (view_Text.l0 k (([(⟨1, a0_0, (⟨#[]⟩ : ByteArray)⟩ : S76), (⟨1, (l0_1.length : Int), (⟨#[]⟩ : ByteArray)⟩ : S76)] : List (S76))) l0_1 (l0_1.length : Int) 0) = some r := by rw [if_pos rfl] at H; exact H
  clear H
  have H := H1
  clear H1
  obtain ⟨y169, hy169⟩ : ∃ y_ : List (S76), y_ = (([(⟨1, a0_0, (⟨#[]⟩ : ByteArray)⟩ : S76), (⟨1, (l0_1.length : Int), (⟨#[]⟩ : ByteArray)⟩ : S76)] : List (S76))) := ⟨_, rfl⟩
  replace H : (view_Text.l0 k y169 l0_1 (l0_1.length : Int) 0) = some r := by first | (rw [hy169]; with_reducible exact H)
  have Ny169 := Aside0.mk hy169
  clear hy169
  have H' := Aside0.mk H
  clear H
  go_enter Try.func28, Try.ntmps28
  go_wp2_with (first | ((with_reducible refine gate_dst (N := 1) rfl ?_); refine box_event ?hg (N := 1) ?hd (cs := #[.int .i64 a0_0, .slice A0_1 l0_1.length c0_1]) (t := 24) ?hr ?_; (case hd => rfl); (case hg => rfl); (case hr => first | (go_simp; done) ); intro gb167 hg w4 hbox hb; have n0_ := Aside0.mk (below_step (by repeat (first | (with_reducible first | exact HB.out ) )) hb); have n1_ := Aside0.mk (hbox); have n2_ := Aside0.mk ((by rw [hg]; exact (below_size (by repeat (first | (with_reducible first | exact HB.out ) ))) : w.heap.size ≤ gb167)); have n3_ := Aside0.mk ((by rw [hg]; exact (below_size (by repeat (first | (with_reducible first | exact HB.out ) ))) : w.heap.size ≤ gb167)); clear HB; have HB := n0_; have BK167 := n1_; have GW167 := n2_; have GE167 := n3_; clear n0_ n1_ n2_ n3_; clear hb hbox hg; have hcz5_0 : w4.cell? ⟨gb167, 0, none⟩ = some (.int .i64 a0_0) := (blk_cell BK167.out 0).trans rfl; have hcz5_1 : w4.cell? ⟨gb167, 1, none⟩ = some (.slice A0_1 l0_1.length c0_1) := (blk_cell BK167.out 1).trans rfl; have hfz5_0 := blk_frozen BK167.out 0; have hfz5_1 := blk_frozen BK167.out 1) | ((with_reducible refine gate_callee (f := 17) rfl ?_); refine goesL_ (some 9) rfl rfl Try.func17 (by kernel_rfl) rfl #[.agg #[.int .i64 a0_0, .slice A0_1 l0_1.length c0_1]] rfl (by (try simp only [List.map_toArray, List.map_cons, List.map_nil]); first | rfl ) ?_; (with_reducible refine (view_Check.calls k a0_0 _ _ l0_1 true _ ?side1 ?side2 A2.out).mono ?_); (case side1 => repeat (first | exact (Kd.C_below HR0_1.out HB.out) )); (case side2 => exact HC0_1.out); rintro e w6 ⟨rfl, hb⟩; refine ⟨_, rfl, ?_⟩; have n0_ := Aside0.mk (blk_below (g := gb167) (o := .cells #[.int .i64 a0_0, .slice A0_1 l0_1.length c0_1] 24 (0, 0)) (by (with_reducible repeat (fail)); exact BK167.out) hb); have n1_ := Aside0.mk (below_step (by repeat (first | (with_reducible first | exact HB.out ) )) hb); clear BK167; clear HB; have BK167 := n0_; have HB := n1_; clear n0_ n1_; (try clear hb); (try clear hb2); (try clear hk); (try clear hi); have hcz7_0 : w6.cell? ⟨gb167, 0, none⟩ = some (.int .i64 a0_0) := (blk_cell BK167.out 0).trans rfl; have hcz7_1 : w6.cell? ⟨gb167, 1, none⟩ = some (.slice A0_1 l0_1.length c0_1) := (blk_cell BK167.out 1).trans rfl; have hfz7_0 := blk_frozen BK167.out 0; have hfz7_1 := blk_frozen BK167.out 1) | ((with_reducible refine gate_dst (N := 18) rfl ?_); refine Kd.R_lit k76 _ 76 ?hg (N := 18) ?hd (xs := ([(⟨1, a0_0, (⟨#[]⟩ : ByteArray)⟩ : S76), (⟨1, (l0_1.length : Int), (⟨#[]⟩ : ByteArray)⟩ : S76)] : List (S76))) (inner := [.int .i64 1, .int .i64 a0_0, .string (⟨#[]⟩ : ByteArray), .int .i64 1, .int .i64 (l0_1.length : Int), .string (⟨#[]⟩ : ByteArray)]) (ok := fun _ => True) (okp := fun _ => True) ?hr ?hp (fun _ hk => hk) trivial (Below.refl _ _) (Nat.le_refl _) (by simp) ?_; (case hd => rfl); (case hg => rfl); (case hr => first | (go_simp; done) ); (case hp => exact (Reps.c3 (show Kd.M k76 _ _ _ (⟨1, a0_0, (⟨#[]⟩ : ByteArray)⟩ : S76) [.int .i64 1, .int .i64 a0_0, .string (⟨#[]⟩ : ByteArray)] from (k76_mkM _ _ _ (⟨1, a0_0, (⟨#[]⟩ : ByteArray)⟩ : S76) )) (Reps.c3 (show Kd.M k76 _ _ _ (⟨1, (l0_1.length : Int), (⟨#[]⟩ : ByteArray)⟩ : S76) [.int .i64 1, .int .i64 (l0_1.length : Int), .string (⟨#[]⟩ : ByteArray)] from (k76_mkM _ _ _ (⟨1, (l0_1.length : Int), (⟨#[]⟩ : ByteArray)⟩ : S76) )) (Reps.none _ _)))); intro v170 w8 ho9 hb hg_ hnew_; clear hg_ hnew_; (first | rw [← Ny169.out] at ho9 ); have n0_ := Aside0.mk (Kd.R_lower ho9 (below_size (by repeat (first | (with_reducible first | exact HB.out ) )))); have n1_ := Aside0.mk (blk_below (g := gb167) (o := .cells #[.int .i64 a0_0, .slice A0_1 l0_1.length c0_1] 24 (0, 0)) (by (with_reducible repeat (fail)); exact BK167.out) hb); have n2_ := Aside0.mk (below_step (by repeat (first | (with_reducible first | exact HB.out ) )) hb); clear BK167; clear HB; have HO171 := n0_; have BK167 := n1_; have HB := n2_; clear n0_ n1_ n2_; clear hb ho9; have hcz10_0 : w8.cell? ⟨gb167, 0, none⟩ = some (.int .i64 a0_0) := (blk_cell BK167.out 0).trans rfl; have hcz10_1 : w8.cell? ⟨gb167, 1, none⟩ = some (.slice A0_1 l0_1.length c0_1) := (blk_cell BK167.out 1).trans rfl; have hfz10_0 := blk_frozen BK167.out 0; have hfz10_1 := blk_frozen BK167.out 1))
  go_loopg [3, 22] k (fun kq v3 v22 w' => ∃ (x3_1 : List (S76)) (x22_1 : Int), v22 = .int .i64 x22_1 ∧ Aside0 (view_Text.l0 kq x3_1 l0_1 (l0_1.length : Int) x22_1 = some r) ∧ Aside0 (kq ≤ k) ∧ Aside0 (Kd.R k76 76 w' w.heap.size (fun _ => True) v3 x3_1) ∧ Aside0 (w'.heap[gb167]? = some (.cells #[.int .i64 a0_0, (.slice A0_1 l0_1.length c0_1)] 24 (0, 0))) ∧ Aside0 (Below w.heap.size w w'))
  case atStart => exact ⟨(y169), (0), (by first | rfl ), H', ⟨Nat.le_refl _⟩, ⟨by (with_reducible repeat (fail)); exact HO171.out⟩, ⟨by (with_reducible repeat (fail)); exact BK167.out⟩, ⟨by repeat (first | (with_reducible first | exact HB.out ) )⟩⟩
  case round =>
   clear H'
   try clear c1
   try clear c2
   try clear p2
   try clear c3
   try clear hcz10_0
   try clear hcz10_1
   try clear hcz5_0
   try clear hcz5_1
   try clear hcz7_0
   try clear hcz7_1
   try clear hfz10_0
   try clear hfz10_1
   try clear hfz5_0
   try clear hfz5_1
   try clear hfz7_0
   try clear hfz7_1
   obtain ⟨x3_1, x22_1, rfl, HA, HK1, HO_3, BK167, HB⟩ := hrel
   cases gk with
   | zero => exact absurd HA.out (by simp [view_Text.l0])
   | succ k1 =>
    have H := HA.out
    clear HA
    simp only [view_Text.l0] at H
    by_cases c11 : x22_1 < (l0_1.length : Int)
    ·rw [if_pos c11] at H
     have c11b0 : decide (x22_1 < (l0_1.length : Int)) = true := decide_eq_true c11
     clear c11
     by_cases c12 : 0 ≤ x22_1
     ·rw [if_pos c12] at H
      have c12b0 : decide (0 ≤ x22_1) = true := decide_eq_true c12
      clear c12
      by_cases c13 : x22_1 < (l0_1.length : Int)
      ·rw [if_pos c13] at H
       have c13b0 : decide (x22_1 < (l0_1.length : Int)) = true := decide_eq_true c13
       clear c13
       replace H := Option.bind_eq_some_iff.mp H
       obtain ⟨t174, A140, H⟩ := H
       replace H : ((some (([(⟨1, (rd_T53 l0_1 x22_1).f0, (⟨#[]⟩ : ByteArray)⟩ : S76), (⟨1, (rd_T53 l0_1 x22_1).f1, (⟨#[]⟩ : ByteArray)⟩ : S76), (⟨3, t174, (⟨#[]⟩ : ByteArray)⟩ : S76)] : List (S76)) : List (S76))).bind fun y175 => (if x3_1.length + y175.length < 4398046511104 then (view_Text.l0 k1 (x3_1 ++ y175) l0_1 (l0_1.length : Int) (wrap64 (x22_1 + 1))) else (none))) = some r := H
       have A14 := Aside0.mk A140
       clear A140
       obtain ⟨y175, hy175⟩ : ∃ y_ : List (S76), y_ = (([(⟨1, (rd_T53 l0_1 x22_1).f0, (⟨#[]⟩ : ByteArray)⟩ : S76), (⟨1, (rd_T53 l0_1 x22_1).f1, (⟨#[]⟩ : ByteArray)⟩ : S76), (⟨3, t174, (⟨#[]⟩ : ByteArray)⟩ : S76)] : List (S76))) := ⟨_, rfl⟩
       replace H : (if x3_1.length + y175.length < 4398046511104 then (view_Text.l0 k1 (x3_1 ++ y175) l0_1 (l0_1.length : Int) (wrap64 (x22_1 + 1))) else (none)) = some r := by first | (have H2_ := (Option.bind_some _ _).symm.trans H; rw [hy175]; with_reducible exact H2_)
       have Ny175 := Aside0.mk hy175
       clear hy175
       by_cases c15 : x3_1.length + y175.length < 4398046511104
       ·rw [if_pos c15] at H
        have LMc15 := Aside0.mk c15
        clear c15
        obtain ⟨y178, hy178⟩ : ∃ y_ : List (S76), y_ = (x3_1 ++ y175) := ⟨_, rfl⟩
        replace H : (view_Text.l0 k1 y178 l0_1 (l0_1.length : Int) (wrap64 (x22_1 + 1))) = some r := by first | (rw [hy178]; with_reducible exact H)
        have Ny178 := Aside0.mk hy178
        clear hy178
        have H' := Aside0.mk H
        clear H
        have p172 : 0 ≤ (x22_1 : Int) := of_decide_eq_true (by first | (with_reducible assumption) )
        have q172 : x22_1 < (l0_1.length : Int) := of_decide_eq_true (by first | (with_reducible assumption) )
        obtain ⟨ad172, e172, hx172_0, hx172_1, hx172_2⟩ := at_T53 HR0_1.out x22_1 p172 q172
        cases e172
        replace hx172_0 := (HB.out.cell (World.block_lt_of_cell? w _ hx172_0)).trans hx172_0
        replace hx172_1 := (HB.out.cell (World.block_lt_of_cell? w _ hx172_1)).trans hx172_1
        replace hx172_2 := (HB.out.cell (World.block_lt_of_cell? w _ hx172_2)).trans hx172_2
        replace p172 := eq_true p172
        replace q172 := eq_true q172
        try go_wp2_with (first | ((with_reducible refine gate_dst (N := 5) rfl ?_); refine box_event ?hg (N := 5) ?hd (cs := #[.int .i64 0, .int .i64 0, .bool false]) (t := 53) ?hr ?_; (case hd => rfl); (case hg => rfl); (case hr => first | (go_simp; done) ); intro gb173 hg w16 hbox hb; have n0_ := Aside0.mk (Kd.R_below (by (with_reducible repeat (fail)); exact HO_3.out) hb); have n1_ := Aside0.mk (blk_below (g := gb167) (o := .cells #[.int .i64 a0_0, .slice (some ad172) l0_1.length c0_1] 24 (0, 0)) (by (with_reducible repeat (fail)); exact BK167.out) hb); have n2_ := Aside0.mk (below_step (by repeat (first | (with_reducible first | exact HB.out ) )) hb); have n3_ := Aside0.mk (hbox); have n4_ := Aside0.mk ((by rw [hg]; exact (below_size (by repeat (first | (with_reducible first | exact HB.out ) ))) : w.heap.size ≤ gb173)); have n5_ := Aside0.mk ((by rw [hg]; exact (below_size (by repeat (first | (with_reducible first | exact HB.out ) ))) : w.heap.size ≤ gb173)); have n6_ := Aside0.mk ((by rw [hg]; exact Nat.ne_of_lt (blk_lt (g := gb167) (o := .cells #[.int .i64 a0_0, .slice (some ad172) l0_1.length c0_1] 24 (0, 0)) (by (with_reducible repeat (fail)); exact BK167.out)) : gb167 ≠ gb173)); have n7_ := Aside0.mk ((by rw [hg]; exact Nat.ne_of_gt (blk_lt (g := gb167) (o := .cells #[.int .i64 a0_0, .slice (some ad172) l0_1.length c0_1] 24 (0, 0)) (by (with_reducible repeat (fail)); exact BK167.out)) : gb173 ≠ gb167)); clear HO_3; clear BK167; clear HB; have HO_3 := n0_; have BK167 := n1_; have HB := n2_; have BK173 := n3_; have GW173 := n4_; have GE173 := n5_; have NB167_173 := n6_; have NB173_167 := n7_; clear n0_ n1_ n2_ n3_ n4_ n5_ n6_ n7_; clear hb hbox hg; have hnb17 := NB173_167.out; have hnc17 := NB167_173.out; have hcz18_0 : w16.cell? ⟨gb173, 0, none⟩ = some (.int .i64 0) := (blk_cell BK173.out 0).trans rfl; have hcz18_1 : w16.cell? ⟨gb173, 1, none⟩ = some (.int .i64 0) := (blk_cell BK173.out 1).trans rfl; have hcz18_2 : w16.cell? ⟨gb173, 2, none⟩ = some (.bool false) := (blk_cell BK173.out 2).trans rfl; have hfz18_0 := blk_frozen BK173.out 0; have hfz18_1 := blk_frozen BK173.out 1; have hfz18_2 := blk_frozen BK173.out 2))
        have n0_ : Aside0 (Kd.R k76 76 (((w16.setCell ⟨gb173, 0, none⟩ (.int .i64 ((rd_T53 l0_1 x22_1).f0))).setCell ⟨gb173, 1, none⟩ (.int .i64 ((rd_T53 l0_1 x22_1).f1))).setCell ⟨gb173, 2, none⟩ (.bool ((rd_T53 l0_1 x22_1).f2))) w.heap.size (fun _ => True) u3 x3_1) := ⟨by (with_reducible repeat (fail)); exact Kd.R_mono (Kd.R_far (p := ⟨gb173, 2, none⟩) (Kd.R_far (p := ⟨gb173, 1, none⟩) (Kd.R_far (p := ⟨gb173, 0, none⟩) (Kd.R_types HO_3.out BK173.out (by decide)) (fun _ hk => hk.2) (.int .i64 ((rd_T53 l0_1 x22_1).f0))) (fun _ hk => hk.2) (.int .i64 ((rd_T53 l0_1 x22_1).f1))) (fun _ hk => hk.2) (.bool ((rd_T53 l0_1 x22_1).f2))) (fun _ hk => trivial)⟩
        have n1_ : Aside0 ((((w16.setCell ⟨gb173, 0, none⟩ (.int .i64 ((rd_T53 l0_1 x22_1).f0))).setCell ⟨gb173, 1, none⟩ (.int .i64 ((rd_T53 l0_1 x22_1).f1))).setCell ⟨gb173, 2, none⟩ (.bool ((rd_T53 l0_1 x22_1).f2))).heap[gb167]? = some (.cells #[.int .i64 a0_0, .slice (some ad172) l0_1.length c0_1] 24 (0, 0))) := ⟨by (with_reducible repeat (fail)); refine blk_far ?_ NB167_173.out _; (with_reducible repeat (fail)); refine blk_far ?_ NB167_173.out _; (with_reducible repeat (fail)); refine blk_far ?_ NB167_173.out _; (with_reducible repeat (fail)); exact BK167.out⟩
        have n2_ : Aside0 ((((w16.setCell ⟨gb173, 0, none⟩ (.int .i64 ((rd_T53 l0_1 x22_1).f0))).setCell ⟨gb173, 1, none⟩ (.int .i64 ((rd_T53 l0_1 x22_1).f1))).setCell ⟨gb173, 2, none⟩ (.bool ((rd_T53 l0_1 x22_1).f2))).heap[gb173]? = some (.cells #[.int .i64 ((rd_T53 l0_1 x22_1).f0), .int .i64 ((rd_T53 l0_1 x22_1).f1), .bool ((rd_T53 l0_1 x22_1).f2)] 53 (0, 0))) := ⟨by (with_reducible repeat (fail)); refine blk_put (cs := #[.int .i64 ((rd_T53 l0_1 x22_1).f0), .int .i64 ((rd_T53 l0_1 x22_1).f1), .bool false]) ?_ 2 _ rfl; (with_reducible repeat (fail)); refine blk_put (cs := #[.int .i64 ((rd_T53 l0_1 x22_1).f0), .int .i64 0, .bool false]) ?_ 1 _ rfl; (with_reducible repeat (fail)); refine blk_put (cs := #[.int .i64 0, .int .i64 0, .bool false]) ?_ 0 _ rfl; (with_reducible repeat (fail)); exact BK173.out⟩
        have n3_ : Aside0 (Below w.heap.size w (((w16.setCell ⟨gb173, 0, none⟩ (.int .i64 ((rd_T53 l0_1 x22_1).f0))).setCell ⟨gb173, 1, none⟩ (.int .i64 ((rd_T53 l0_1 x22_1).f1))).setCell ⟨gb173, 2, none⟩ (.bool ((rd_T53 l0_1 x22_1).f2)))) := ⟨by repeat (first | (with_reducible first | exact HB.out | refine below_set ?_ GE173.out) )⟩
        (try clear HO_3)
        (try clear BK167)
        (try clear BK173)
        (try clear HB)
        generalize (((w16.setCell ⟨gb173, 0, none⟩ (.int .i64 ((rd_T53 l0_1 x22_1).f0))).setCell ⟨gb173, 1, none⟩ (.int .i64 ((rd_T53 l0_1 x22_1).f1))).setCell ⟨gb173, 2, none⟩ (.bool ((rd_T53 l0_1 x22_1).f2))) = w19 at n0_ n1_ n2_ n3_ ⊢
        have HO_3 := n0_
        have BK167 := n1_
        have BK173 := n2_
        have HB := n3_
        clear n0_ n1_ n2_ n3_
        have n0_ := Aside0.mk (Kd.R_drew HO_3.out)
        have n1_ := Aside0.mk (blk_drew BK167.out)
        have n2_ := Aside0.mk (blk_drew BK173.out)
        have n3_ := Aside0.mk (below_drew1 HB.out)
        clear HO_3
        clear BK167
        clear BK173
        clear HB
        have HO_3 := n0_
        have BK167 := n1_
        have BK173 := n2_
        have HB := n3_
        clear n0_ n1_ n2_ n3_
        refine start_ (n := 14) (S := fun w' => w'.cell? ⟨gb173, 0, none⟩ = some (.int .i64 ((rd_T53 l0_1 x22_1).f0)) ∧ w'.cell? ⟨gb173, 1, none⟩ = some (.int .i64 ((rd_T53 l0_1 x22_1).f1)) ∧ w'.cell? ⟨gb173, 2, none⟩ = some (.bool ((rd_T53 l0_1 x22_1).f2))) (ds := []) #[false, false, false, false, false, false, false, false, false, false, false, false, false, false] (by kernel_rfl) rfl rfl ⟨(blk_cell BK173.out 0).trans rfl, (blk_cell BK173.out 1).trans rfl, (blk_cell BK173.out 2).trans rfl⟩ (fun hHeld => ?_); refine with_tabW view_Text.tab7 view_Text.bits7 (fun HT_ HW_ => ?_)
        generalize w19.drew = w20 at HO_3 BK167 BK173 HB hHeld ⊢
        refine pure_ (i := 0) (N := some 26) (v := ?_) (a' := ?_) #[true, false, false, false, false, false, false, false, false, false, false, false, false, false] rfl rfl (any_of HT_.out (by kernel_rfl)) (fun _ _ _ h => h) (Or.inl ⟨by rfl, ?_⟩) ?_ ?_
        rotate_left
        ·intro w'
         go_simp
         with_reducible rfl
        rotate_left
        ·simp only [Act.put, List.setIfInBounds_toArray, List.set_cons_zero, List.set_cons_succ, i64_w, i32_w]
         rfl
        refine pure_ (i := 1) (N := some 27) (v := ?_) (a' := ?_) #[true, true, false, false, false, false, false, false, false, false, false, false, false, false] rfl rfl (any_of HT_.out (by kernel_rfl)) (fun _ _ _ h => h) (Or.inl ⟨by rfl, ?_⟩) ?_ ?_
        rotate_left
        ·intro w'
         go_simp
         with_reducible rfl
        rotate_left
        ·simp only [Act.put, List.setIfInBounds_toArray, List.set_cons_zero, List.set_cons_succ, i64_w, i32_w]
         rfl
        refine pure_ (i := 4) (N := some 30) (v := ?_) (a' := ?_) #[true, true, false, false, true, false, false, false, false, false, false, false, false, false] rfl rfl (any_of HT_.out (by kernel_rfl)) (fun _ _ _ h => h) (Or.inl ⟨by rfl, ?_⟩) ?_ ?_
        rotate_left
        ·intro w'
         go_simp
         with_reducible rfl
        rotate_left
        ·simp only [Act.put, List.setIfInBounds_toArray, List.set_cons_zero, List.set_cons_succ, i64_w, i32_w]
         rfl
        refine pure_ (i := 7) (N := some 33) (v := ?_) (a' := ?_) #[true, true, false, false, true, false, false, true, false, false, false, false, false, false] rfl rfl (any_of HT_.out (by kernel_rfl)) (fun _ _ _ h => h) (Or.inl ⟨by rfl, ?_⟩) ?_ ?_
        rotate_left
        ·intro w'
         go_simp
         with_reducible rfl
        rotate_left
        ·simp only [Act.put, List.setIfInBounds_toArray, List.set_cons_zero, List.set_cons_succ, i64_w, i32_w]
         rfl
        refine take_ (i := 2) (N := some 28) (v := ?_) (a' := ?_) #[true, true, true, false, true, false, false, true, false, false, false, false, false, false] rfl rfl (take_ofW HT_.out HW_.out (by kernel_rfl)) (fun _ _ _ h => h) (Or.inl ⟨by rfl, ?_⟩) hHeld ?_ ?_
        rotate_left
        ·rintro w' ⟨s0, s1, s2⟩
         go_simp
         with_reducible rfl
        rotate_left
        ·simp only [Act.put, List.setIfInBounds_toArray, List.set_cons_zero, List.set_cons_succ, i64_w, i32_w]
         rfl
        refine pure_ (i := 3) (N := some 29) (v := ?_) (a' := ?_) #[true, true, true, true, true, false, false, true, false, false, false, false, false, false] rfl rfl (any_of HT_.out (by kernel_rfl)) (fun _ _ _ h => h) (Or.inl ⟨by rfl, ?_⟩) ?_ ?_
        rotate_left
        ·intro w'
         go_simp
         with_reducible rfl
        rotate_left
        ·simp only [Act.put, List.setIfInBounds_toArray, List.set_cons_zero, List.set_cons_succ, i64_w, i32_w]
         rfl
        refine take_ (i := 5) (N := some 31) (v := ?_) (a' := ?_) #[true, true, true, true, true, true, false, true, false, false, false, false, false, false] rfl rfl (take_ofW HT_.out HW_.out (by kernel_rfl)) (fun _ _ _ h => h) (Or.inl ⟨by rfl, ?_⟩) hHeld ?_ ?_
        rotate_left
        ·rintro w' ⟨s0, s1, s2⟩
         go_simp
         with_reducible rfl
        rotate_left
        ·simp only [Act.put, List.setIfInBounds_toArray, List.set_cons_zero, List.set_cons_succ, i64_w, i32_w]
         rfl
        refine pure_ (i := 6) (N := some 32) (v := ?_) (a' := ?_) #[true, true, true, true, true, true, true, true, false, false, false, false, false, false] rfl rfl (any_of HT_.out (by kernel_rfl)) (fun _ _ _ h => h) (Or.inl ⟨by rfl, ?_⟩) ?_ ?_
        rotate_left
        ·intro w'
         go_simp
         with_reducible rfl
        rotate_left
        ·simp only [Act.put, List.setIfInBounds_toArray, List.set_cons_zero, List.set_cons_succ, i64_w, i32_w]
         rfl
        refine take_ (i := 8) (N := some 34) (v := ?_) (a' := ?_) #[true, true, true, true, true, true, true, true, true, false, false, false, false, false] rfl rfl (take_ofW HT_.out HW_.out (by kernel_rfl)) (fun _ _ _ h => h) (Or.inl ⟨by rfl, ?_⟩) hHeld ?_ ?_
        rotate_left
        ·rintro w' ⟨s0, s1, s2⟩
         go_simp
         with_reducible rfl
        rotate_left
        ·simp only [Act.put, List.setIfInBounds_toArray, List.set_cons_zero, List.set_cons_succ, i64_w, i32_w]
         rfl
        refine one_ (i := 9) (N := some 35) #[true, true, true, true, true, true, true, true, true, true, false, false, false, false] rfl rfl (one_of HT_.out (by kernel_rfl)) (by decide) (fun K hK => ?_)
        refine goes_ Try.func43 (by kernel_rfl) rfl #[.bool ((rd_T53 l0_1 x22_1).f2)] (by rfl) rfl rfl (by (try simp only [List.map_toArray, List.map_cons, List.map_nil]); first | rfl ) ?_
        with_reducible refine (view_flag.calls ((rd_T53 l0_1 x22_1).f2) t174 _ A14.out).mono ?_
        rintro e w' ⟨rfl, ⟨nd, rfl⟩⟩
        refine ⟨_, rfl, ?_⟩
        refine hK.out _ _ ⟨(blk_cell BK173.out 0).trans rfl, (blk_cell BK173.out 1).trans rfl, (blk_cell BK173.out 2).trans rfl⟩ (fun hHeld => ?_)
        clear hK K
        refine norm_ (a' := ?_) ?_ ?_
        rotate_left
        ·show Act.put _ (some 35) _ = _
         simp only [Act.put, List.setIfInBounds_toArray, List.set_cons_zero, List.set_cons_succ, i64_w, i32_w]
         rfl
        refine pure_ (i := 10) (N := some 36) (v := ?_) (a' := ?_) #[true, true, true, true, true, true, true, true, true, true, true, false, false, false] rfl rfl (any_of HT_.out (by kernel_rfl)) (fun _ _ _ h => h) (Or.inl ⟨by rfl, ?_⟩) ?_ ?_
        rotate_left
        ·intro w'
         go_simp
         with_reducible rfl
        rotate_left
        ·simp only [Act.put, List.setIfInBounds_toArray, List.set_cons_zero, List.set_cons_succ, i64_w, i32_w]
         rfl
        refine one_ (i := 11) (N := some 37) #[true, true, true, true, true, true, true, true, true, true, true, true, false, false] rfl rfl (one_of HT_.out (by kernel_rfl)) (by decide) (fun K hK => ?_)
        refine Kd.R_lit_step k76 _ 76 ?hg (N := 37) ?hd (xs := ([(⟨1, (rd_T53 l0_1 x22_1).f0, (⟨#[]⟩ : ByteArray)⟩ : S76), (⟨1, (rd_T53 l0_1 x22_1).f1, (⟨#[]⟩ : ByteArray)⟩ : S76), (⟨3, t174, (⟨#[]⟩ : ByteArray)⟩ : S76)] : List (S76))) (inner := [.int .i64 1, .int .i64 ((rd_T53 l0_1 x22_1).f0), .string (⟨#[]⟩ : ByteArray), .int .i64 1, .int .i64 ((rd_T53 l0_1 x22_1).f1), .string (⟨#[]⟩ : ByteArray), .int .i64 3, .int .i64 t174, .string (⟨#[]⟩ : ByteArray)]) (ok := fun _ => True) (okp := fun _ => True) ?hr ?hp (fun _ hk => hk) trivial (Below.refl _ _) (Nat.le_refl _) (by simp) ?_; (case hd => rfl); (case hg => rfl); (case hr => first | (go_simp; done) ); (case hp => exact (Reps.c3 (show Kd.M k76 _ _ _ (⟨1, (rd_T53 l0_1 x22_1).f0, (⟨#[]⟩ : ByteArray)⟩ : S76) [.int .i64 1, .int .i64 ((rd_T53 l0_1 x22_1).f0), .string (⟨#[]⟩ : ByteArray)] from (k76_mkM _ _ _ (⟨1, (rd_T53 l0_1 x22_1).f0, (⟨#[]⟩ : ByteArray)⟩ : S76) )) (Reps.c3 (show Kd.M k76 _ _ _ (⟨1, (rd_T53 l0_1 x22_1).f1, (⟨#[]⟩ : ByteArray)⟩ : S76) [.int .i64 1, .int .i64 ((rd_T53 l0_1 x22_1).f1), .string (⟨#[]⟩ : ByteArray)] from (k76_mkM _ _ _ (⟨1, (rd_T53 l0_1 x22_1).f1, (⟨#[]⟩ : ByteArray)⟩ : S76) )) (Reps.c3 (show Kd.M k76 _ _ _ (⟨3, t174, (⟨#[]⟩ : ByteArray)⟩ : S76) [.int .i64 3, .int .i64 t174, .string (⟨#[]⟩ : ByteArray)] from (k76_mkM _ _ _ (⟨3, t174, (⟨#[]⟩ : ByteArray)⟩ : S76) )) (Reps.none _ _)))))
        intro v176 w21 ho22 hb hg_ hnew_
        clear hg_ hnew_
        (first | rw [← Ny175.out] at ho22 )
        have n0_ := Aside0.mk (Kd.R_elder' (by (with_reducible repeat (first | apply Kd.R_drewN )); exact HO_3.out) (Kd.R_base ho22) hb)
        have n1_ := Aside0.mk (Kd.R_lower (Kd.R_new' ho22 (Kd.R_lt (by (with_reducible repeat (first | apply Kd.R_drewN )); exact HO_3.out))) (below_size (by repeat (first | (with_reducible first | exact HB.out | apply pw_below_drewN ) ))))
        have n2_ := Aside0.mk (blk_below (g := gb167) (o := .cells #[.int .i64 a0_0, .slice (some ad172) l0_1.length c0_1] 24 (0, 0)) (by (with_reducible repeat (first | refine blk_drewN ?_ _ )); exact BK167.out) hb)
        have n3_ := Aside0.mk (blk_below (g := gb173) (o := .cells #[.int .i64 ((rd_T53 l0_1 x22_1).f0), .int .i64 ((rd_T53 l0_1 x22_1).f1), .bool ((rd_T53 l0_1 x22_1).f2)] 53 (0, 0)) (by (with_reducible repeat (first | refine blk_drewN ?_ _ )); exact BK173.out) hb)
        have n4_ := Aside0.mk (below_step (by repeat (first | (with_reducible first | exact HB.out | apply pw_below_drewN ) )) hb)
        clear HO_3
        clear BK167
        clear BK173
        clear HB
        have HO_3 := n0_
        have HO177 := n1_
        have BK167 := n2_
        have BK173 := n3_
        have HB := n4_
        clear n0_ n1_ n2_ n3_ n4_
        clear hb ho22
        obtain ⟨Ao24, co24, eo24⟩ := Kd.R_slice HO177.out
        (first | subst eo24 )
        refine hK.out _ _ ⟨(blk_cell BK173.out 0).trans rfl, (blk_cell BK173.out 1).trans rfl, (blk_cell BK173.out 2).trans rfl⟩ (fun hHeld => ?_)
        clear hK K
        refine norm_ (a' := ?_) ?_ ?_
        rotate_left
        ·show Act.put _ (some 37) _ = _
         simp only [Act.put, List.setIfInBounds_toArray, List.set_cons_zero, List.set_cons_succ, i64_w, i32_w]
         rfl
        refine one_ (i := 12) (N := some 38) #[true, true, true, true, true, true, true, true, true, true, true, true, true, false] rfl rfl (one_of HT_.out (by kernel_rfl)) (by decide) (fun K hK => ?_)
        refine Kd.R_append_rows_step k76 (w0 := w) w.heap.size (by rfl) (.tmp 26) (.tmp 37) 72 76 (.agg #[(.int .i64 0), (.int .i64 0), (.string ⟨#[]⟩)]) 32 rfl Try.underlying72 info76 rfl (by decide) (by omega) u3 x3_1 y175 _ _ _ (fun k_ => some k_ ≠ (.slice Ao24 y175.length co24 : Value).ownBlock) (fun _ => False) rfl rfl ?aO ?aR (fun _ _ h => h) (fun _ h => h.elim) ?aF ?aB ?aS ?aL ?_
        (case aR => repeat (first | exact (Kd.R_reads' HO177.out).2.2 ))
        (case aB => exact (by repeat (first | (with_reducible first | exact HB.out ) )))
        (case aF => exact (fun k_ hk => Kd.fresh' (Kd.R_lt (by (with_reducible repeat (fail)); exact HO177.out)) k_ hk))
        (case aO => exact (by (with_reducible repeat (fail)); exact Kd.R_mono HO_3.out (fun _ hk => hk.2)))
        (case aS => exact (below_size (by repeat (first | (with_reducible first | exact HB.out ) ))))
        (case aL => have := LMc15.out; omega)
        intro v179 w23 ho hb hg hat
        rw [← Ny178.out] at ho
        have n0_ := Aside0.mk (blk_grown (g := gb167) (o := .cells #[.int .i64 a0_0, .slice (some ad172) l0_1.length c0_1] 24 (0, 0)) (by (with_reducible repeat (fail)); exact BK167.out) hg (Kd.R_ne HO_3.out BK167.out (by decide)))
        have n1_ := Aside0.mk (blk_grown (g := gb173) (o := .cells #[.int .i64 ((rd_T53 l0_1 x22_1).f0), .int .i64 ((rd_T53 l0_1 x22_1).f1), .bool ((rd_T53 l0_1 x22_1).f2)] 53 (0, 0)) (by (with_reducible repeat (fail)); exact BK173.out) hg (Kd.R_ne HO_3.out BK173.out (by decide)))
        have n2_ := Aside0.mk (Kd.R_after (ok := (fun _ => True)) (by (with_reducible repeat (fail)); exact HO177.out) hg hat)
        have n3_ := Aside0.mk (hb)
        have n4_ := Aside0.mk (ho)
        clear BK167
        clear BK173
        clear HO177
        clear HB
        clear HO_3
        have BK167 := n0_
        have BK173 := n1_
        have HO177 := n2_
        have HB := n3_
        have HO180 := n4_
        clear n0_ n1_ n2_ n3_ n4_
        clear ho hb hg hat
        refine hK.out _ _ ⟨(blk_cell BK173.out 0).trans rfl, (blk_cell BK173.out 1).trans rfl, (blk_cell BK173.out 2).trans rfl⟩ (fun hHeld => ?_)
        clear hK K
        refine norm_ (a' := ?_) ?_ ?_
        rotate_left
        ·show Act.put _ (some 38) _ = _
         simp only [Act.put, List.setIfInBounds_toArray, List.set_cons_zero, List.set_cons_succ, i64_w, i32_w]
         rfl
        refine pure_ (i := 13) (N := some 3) (v := ?_) (a' := ?_) #[true, true, true, true, true, true, true, true, true, true, true, true, true, true] rfl rfl (any_of HT_.out (by kernel_rfl)) (fun _ _ _ h => h) (Or.inl ⟨by rfl, ?_⟩) ?_ ?_
        rotate_left
        ·intro w'
         go_simp
         with_reducible rfl
        rotate_left
        ·simp only [Act.put, List.setIfInBounds_toArray, List.set_cons_zero, List.set_cons_succ, i64_w, i32_w]
         rfl
        refine done_ (done_of HT_.out (by kernel_rfl)) ?_
        try go_wp2
        go_roundg k1
        case measure => have := HK1.out; omega
        case rel => exact ⟨(y178), (wrap64 (x22_1 + 1)), (by first | rfl ), H', ⟨by have := HK1.out; omega⟩, ⟨by (with_reducible repeat (fail)); exact Kd.R_mono HO180.out (fun _ hk => trivial)⟩, ⟨by (with_reducible repeat (fail)); exact BK167.out⟩, ⟨by repeat (first | (with_reducible first | exact HB.out ) )⟩⟩
       ·rw [if_neg c15] at H
        exact absurd H (by simp)
      ·rw [if_neg c13] at H
       exact absurd H (by simp)
     ·rw [if_neg c12] at H
      exact absurd H (by simp)
    ·rw [if_neg c11] at H
     have c11b0 : decide (x22_1 < (l0_1.length : Int)) = false := decide_eq_false c11
     clear c11
     replace H := Option.bind_eq_some_iff.mp H
     obtain ⟨⟨t181, t182⟩, A250, H⟩ := H
     replace H : (some t181) = some r := H
     have A25 := Aside0.mk A250
     clear A250
     obtain rfl := Option.some.inj H
     obtain ⟨Ao26, co26, eo26⟩ := Kd.R_slice HO_3.out
     subst eo26
     go_wp2_with (first | ((with_reducible refine gate_callee (f := 44) rfl ?_); refine goesL_ (some 42) rfl rfl Try.func44 (by kernel_rfl) rfl #[.slice Ao26 x3_1.length co26] rfl (by (try simp only [List.map_toArray, List.map_cons, List.map_nil]); first | rfl ) ?_; (with_reducible refine (quic_Put.calls k1 _ _ x3_1 t181 t182 _ ?side1 ?side2 A25.out).mono ?_); (case side1 => repeat (first | exact (Kd.R_reads' HO_3.out).2.2 )); (case side2 => exact (Kd.R_reads' HO_3.out).2.1); rintro e w27 ⟨rfl, hb⟩; refine ⟨_, rfl, ?_⟩; have n0_ := Aside0.mk (Kd.R_below (by (with_reducible repeat (fail)); exact HO_3.out) hb); have n1_ := Aside0.mk (blk_below (g := gb167) (o := .cells #[.int .i64 a0_0, .slice A0_1 l0_1.length c0_1] 24 (0, 0)) (by (with_reducible repeat (fail)); exact BK167.out) hb); have n2_ := Aside0.mk (below_step (by repeat (first | (with_reducible first | exact HB.out ) )) hb); clear HO_3; clear BK167; clear HB; have HO_3 := n0_; have BK167 := n1_; have HB := n2_; clear n0_ n1_ n2_; (try clear hb); (try clear hb2); (try clear hk); (try clear hi)))
     go_ret
     exact ⟨by first | rfl , by repeat (first | (with_reducible first | exact HB.out ) )⟩
 ·replace c3 := Bool.eq_false_iff.mpr c3
  subst c3
  have H1 : (some (⟨#[]⟩ : ByteArray)) = some r := by rw [if_neg (show ¬ (false = true) by decide)] at H; exact H
  clear H
  have H := H1
  clear H1
  obtain rfl := Option.some.inj H
  go_enter Try.func28, Try.ntmps28
  go_wp2_with (first | ((with_reducible refine gate_dst (N := 1) rfl ?_); refine box_event ?hg (N := 1) ?hd (cs := #[.int .i64 a0_0, .slice A0_1 l0_1.length c0_1]) (t := 24) ?hr ?_; (case hd => rfl); (case hg => rfl); (case hr => first | (go_simp; done) ); intro gb167 hg w28 hbox hb; have n0_ := Aside0.mk (below_step (by repeat (first | (with_reducible first | exact HB.out ) )) hb); have n1_ := Aside0.mk (hbox); have n2_ := Aside0.mk ((by rw [hg]; exact (below_size (by repeat (first | (with_reducible first | exact HB.out ) ))) : w.heap.size ≤ gb167)); have n3_ := Aside0.mk ((by rw [hg]; exact (below_size (by repeat (first | (with_reducible first | exact HB.out ) ))) : w.heap.size ≤ gb167)); clear HB; have HB := n0_; have BK167 := n1_; have GW167 := n2_; have GE167 := n3_; clear n0_ n1_ n2_ n3_; clear hb hbox hg; have hcz29_0 : w28.cell? ⟨gb167, 0, none⟩ = some (.int .i64 a0_0) := (blk_cell BK167.out 0).trans rfl; have hcz29_1 : w28.cell? ⟨gb167, 1, none⟩ = some (.slice A0_1 l0_1.length c0_1) := (blk_cell BK167.out 1).trans rfl; have hfz29_0 := blk_frozen BK167.out 0; have hfz29_1 := blk_frozen BK167.out 1) | ((with_reducible refine gate_callee (f := 17) rfl ?_); refine goesL_ (some 9) rfl rfl Try.func17 (by kernel_rfl) rfl #[.agg #[.int .i64 a0_0, .slice A0_1 l0_1.length c0_1]] rfl (by (try simp only [List.map_toArray, List.map_cons, List.map_nil]); first | rfl ) ?_; (with_reducible refine (view_Check.calls k a0_0 _ _ l0_1 false _ ?side1 ?side2 A2.out).mono ?_); (case side1 => repeat (first | exact (Kd.C_below HR0_1.out HB.out) )); (case side2 => exact HC0_1.out); rintro e w30 ⟨rfl, hb⟩; refine ⟨_, rfl, ?_⟩; have n0_ := Aside0.mk (blk_below (g := gb167) (o := .cells #[.int .i64 a0_0, .slice A0_1 l0_1.length c0_1] 24 (0, 0)) (by (with_reducible repeat (fail)); exact BK167.out) hb); have n1_ := Aside0.mk (below_step (by repeat (first | (with_reducible first | exact HB.out ) )) hb); clear BK167; clear HB; have BK167 := n0_; have HB := n1_; clear n0_ n1_; (try clear hb); (try clear hb2); (try clear hk); (try clear hi)))
  go_ret
  exact ⟨by first | rfl , by repeat (first | (with_reducible first | exact HB.out ) )⟩

/-! ### caduceuslaw14_awake: function 8 -/
def caduceuslaw14_awake.f (k : Nat)  : Option (Bool) := (view_First.f k (([1, 2, 3] : List Int))).bind fun bt186 => ((view_Down.f k bt186.1 bt186.2.1 2).bind fun bt192 => ((view_Up.f k bt192.1 bt192.2.1 2).bind fun bt198 => (if bt186.2.2 = 0 then (if bt192.2.2 = 0 then (if bt198.2.2 = 0 then (if bt192.1 = 2 then ((view_Live.f k bt192.1 bt192.2.1).bind fun t204 => ((caduceusref10_Same.f k t204 (([1, 3] : List Int))).bind fun t210 => (if t210 = true then ((view_Text.f k bt198.1 bt198.2.1).bind fun t211 => (some (t211.toList == ([3, 3, 1, 1, 1, 2, 2, 1, 3, 1, 1] : List UInt8)))) else none))) else none) else none) else none) else none)))
theorem caduceuslaw14_awake.mono : ∀ k, LeO (caduceuslaw14_awake.f k ) (caduceuslaw14_awake.f (k + 1) ) := by
 intro  k
 unfold caduceuslaw14_awake.f
 repeat' first
   | (with_reducible exact caduceusref10_Same.mono _ _ _)
   | (with_reducible exact view_Down.mono _ _ _ _)
   | (with_reducible exact view_First.mono _ _)
   | (with_reducible exact view_Live.mono _ _ _)
   | (with_reducible exact view_Text.mono _ _ _)
   | (with_reducible exact view_Up.mono _ _ _ _)
   | (with_reducible exact LeO.refl _)
   | (with_reducible refine LeO.ite ?_ ?_)
   | (with_reducible refine LeO.bind ?_ (fun _ => ?_))

set_option maxHeartbeats 8000000 in
set_option maxRecDepth 100000 in
theorem caduceuslaw14_awake.calls (k : Nat)  (r : Bool) (w : World) (h : caduceuslaw14_awake.f k  = some r) :
  Calls Try.prog 8 #[] w fun e w' => e = .returned (.bool r) ∧ Below w.heap.size w w' := by
 have hu24 := Try.underlying24
 have HB := Aside0.mk (Below.refl w.heap.size w)
 have H : ((view_First.f k (([1, 2, 3] : List Int))).bind fun bt186 => ((view_Down.f k bt186.1 bt186.2.1 2).bind fun bt192 => ((view_Up.f k bt192.1 bt192.2.1 2).bind fun bt198 => (if bt186.2.2 = 0 then (if bt192.2.2 = 0 then (if bt198.2.2 = 0 then (if bt192.1 = 2 then ((view_Live.f k bt192.1 bt192.2.1).bind fun t204 => ((caduceusref10_Same.f k t204 (([1, 3] : List Int))).bind fun t210 => (if t210 = true then ((view_Text.f k bt198.1 bt198.2.1).bind fun t211 => (some (t211.toList == ([3, 3, 1, 1, 1, 2, 2, 1, 3, 1, 1] : List UInt8)))) else none))) else none) else none) else none) else none)))) = some r := h
 clear h
 obtain ⟨y183, hy183⟩ : ∃ y_ : List Int, y_ = (([1, 2, 3] : List Int)) := ⟨_, rfl⟩
 replace H : ((view_First.f k y183).bind fun bt186 => ((view_Down.f k bt186.1 bt186.2.1 2).bind fun bt192 => ((view_Up.f k bt192.1 bt192.2.1 2).bind fun bt198 => (if bt186.2.2 = 0 then (if bt192.2.2 = 0 then (if bt198.2.2 = 0 then (if bt192.1 = 2 then ((view_Live.f k bt192.1 bt192.2.1).bind fun t204 => ((caduceusref10_Same.f k t204 (([1, 3] : List Int))).bind fun t210 => (if t210 = true then ((view_Text.f k bt198.1 bt198.2.1).bind fun t211 => (some (t211.toList == ([3, 3, 1, 1, 1, 2, 2, 1, 3, 1, 1] : List UInt8)))) else none))) else none) else none) else none) else none)))) = some r := by first | (rw [hy183]; with_reducible exact H)
 have Ny183 := Aside0.mk hy183
 clear hy183
 replace H := Option.bind_eq_some_iff.mp H
 obtain ⟨⟨t186, t187, t190⟩, A10, H⟩ := H
 replace H : ((view_Down.f k t186 t187 2).bind fun bt192 => ((view_Up.f k bt192.1 bt192.2.1 2).bind fun bt198 => (if t190 = 0 then (if bt192.2.2 = 0 then (if bt198.2.2 = 0 then (if bt192.1 = 2 then ((view_Live.f k bt192.1 bt192.2.1).bind fun t204 => ((caduceusref10_Same.f k t204 (([1, 3] : List Int))).bind fun t210 => (if t210 = true then ((view_Text.f k bt198.1 bt198.2.1).bind fun t211 => (some (t211.toList == ([3, 3, 1, 1, 1, 2, 2, 1, 3, 1, 1] : List UInt8)))) else none))) else none) else none) else none) else none))) = some r := H
 have A1 := Aside0.mk A10
 clear A10
 replace H := Option.bind_eq_some_iff.mp H
 obtain ⟨⟨t192, t193, t196⟩, A20, H⟩ := H
 replace H : ((view_Up.f k t192 t193 2).bind fun bt198 => (if t190 = 0 then (if t196 = 0 then (if bt198.2.2 = 0 then (if t192 = 2 then ((view_Live.f k t192 t193).bind fun t204 => ((caduceusref10_Same.f k t204 (([1, 3] : List Int))).bind fun t210 => (if t210 = true then ((view_Text.f k bt198.1 bt198.2.1).bind fun t211 => (some (t211.toList == ([3, 3, 1, 1, 1, 2, 2, 1, 3, 1, 1] : List UInt8)))) else none))) else none) else none) else none) else none)) = some r := H
 have A2 := Aside0.mk A20
 clear A20
 replace H := Option.bind_eq_some_iff.mp H
 obtain ⟨⟨t198, t199, t202⟩, A30, H⟩ := H
 replace H : (if t190 = 0 then (if t196 = 0 then (if t202 = 0 then (if t192 = 2 then ((view_Live.f k t192 t193).bind fun t204 => ((caduceusref10_Same.f k t204 (([1, 3] : List Int))).bind fun t210 => (if t210 = true then ((view_Text.f k t198 t199).bind fun t211 => (some (t211.toList == ([3, 3, 1, 1, 1, 2, 2, 1, 3, 1, 1] : List UInt8)))) else none))) else none) else none) else none) else none) = some r := H
 have A3 := Aside0.mk A30
 clear A30
 by_cases c4 : t190 = 0
 ·rw [if_pos c4] at H
  have c4b0 : (t190 == 0) = true := beq_iff_eq.mpr c4
  have c4b1 : (t190 != 0) = false := bne_eq_false_iff_eq.mpr c4
  clear c4
  by_cases c5 : t196 = 0
  ·rw [if_pos c5] at H
   have c5b0 : (t196 == 0) = true := beq_iff_eq.mpr c5
   have c5b1 : (t196 != 0) = false := bne_eq_false_iff_eq.mpr c5
   clear c5
   by_cases c6 : t202 = 0
   ·rw [if_pos c6] at H
    have c6b0 : (t202 == 0) = true := beq_iff_eq.mpr c6
    have c6b1 : (t202 != 0) = false := bne_eq_false_iff_eq.mpr c6
    clear c6
    by_cases c7 : t192 = 2
    ·rw [if_pos c7] at H
     have c7b0 : (t192 == 2) = true := beq_iff_eq.mpr c7
     have c7b1 : (t192 != 2) = false := bne_eq_false_iff_eq.mpr c7
     clear c7
     replace H := Option.bind_eq_some_iff.mp H
     obtain ⟨t204, A80, H⟩ := H
     replace H : ((caduceusref10_Same.f k t204 (([1, 3] : List Int))).bind fun t210 => (if t210 = true then ((view_Text.f k t198 t199).bind fun t211 => (some (t211.toList == ([3, 3, 1, 1, 1, 2, 2, 1, 3, 1, 1] : List UInt8)))) else none)) = some r := H
     have A8 := Aside0.mk A80
     clear A80
     obtain ⟨y207, hy207⟩ : ∃ y_ : List Int, y_ = (([1, 3] : List Int)) := ⟨_, rfl⟩
     replace H : ((caduceusref10_Same.f k t204 y207).bind fun t210 => (if t210 = true then ((view_Text.f k t198 t199).bind fun t211 => (some (t211.toList == ([3, 3, 1, 1, 1, 2, 2, 1, 3, 1, 1] : List UInt8)))) else none)) = some r := by first | (rw [hy207]; with_reducible exact H)
     have Ny207 := Aside0.mk hy207
     clear hy207
     replace H := Option.bind_eq_some_iff.mp H
     obtain ⟨t210, A90, H⟩ := H
     replace H : (if t210 = true then ((view_Text.f k t198 t199).bind fun t211 => (some (t211.toList == ([3, 3, 1, 1, 1, 2, 2, 1, 3, 1, 1] : List UInt8)))) else none) = some r := H
     have A9 := Aside0.mk A90
     clear A90
     by_cases c10 : t210 = true
     ·subst c10
      have H1 : ((view_Text.f k t198 t199).bind fun t211 => (some (t211.toList == ([3, 3, 1, 1, 1, 2, 2, 1, 3, 1, 1] : List UInt8)))) = some r := by rw [if_pos rfl] at H; exact H
      clear H
      have H := H1
      clear H1
      replace H := Option.bind_eq_some_iff.mp H
      obtain ⟨t211, A110, H⟩ := H
      replace H : (some (t211.toList == ([3, 3, 1, 1, 1, 2, 2, 1, 3, 1, 1] : List UInt8))) = some r := H
      have A11 := Aside0.mk A110
      clear A110
      obtain rfl := Option.some.inj H
      go_enter Try.func8, Try.ntmps8
      go_wp2_with (first | ((with_reducible refine gate_dst (N := 8) rfl ?_); (try (refine gate_guard (by rfl) ?_; dsimp only)); refine Kd.R_lit (Kd.int .i64) _ 3 ?hg (N := 8) ?hd (xs := ([1, 2, 3] : List Int)) (inner := [.int .i64 1, .int .i64 2, .int .i64 3]) (ok := fun _ => True) (okp := fun _ => True) ?hr ?hp (fun _ hk => hk) trivial (Below.refl _ _) (Nat.le_refl _) (by simp) ?_; (case hd => rfl); (case hg => rfl); (case hr => first | (go_simp; done) ); (case hp => exact (Reps.one (show Kd.M (Kd.int .i64) _ _ _ 1 [.int .i64 1] from rfl) (Reps.one (show Kd.M (Kd.int .i64) _ _ _ 2 [.int .i64 2] from rfl) (Reps.one (show Kd.M (Kd.int .i64) _ _ _ 3 [.int .i64 3] from rfl) (Reps.none _ _))))); intro v184 w12 ho13 hb hg_ hnew_; clear hg_ hnew_; (first | rw [← Ny183.out] at ho13 ); have n0_ := Aside0.mk (Kd.R_lower ho13 (below_size (by repeat (first | (with_reducible first | exact HB.out ) )))); have n1_ := Aside0.mk (below_step (by repeat (first | (with_reducible first | exact HB.out ) )) hb); clear HB; have HO185 := n0_; have HB := n1_; clear n0_ n1_; clear hb ho13; obtain ⟨Ao14, co14, eo14⟩ := Kd.R_slice HO185.out; subst eo14) | ((with_reducible refine gate_callee (f := 14) rfl ?_); refine goesL_ (some 9) rfl rfl Try.func14 (by kernel_rfl) rfl #[.slice Ao14 y183.length co14] rfl (by (try simp only [List.map_toArray, List.map_cons, List.map_nil]); first | rfl ) ?_; (with_reducible refine (view_First.calls k _ _ y183 t186 t187 t190 _ ?side1 ?side2 A1.out).mono ?_); (case side1 => repeat (first | exact (Kd.R_reads' HO185.out).2.2 )); (case side2 => exact (Kd.R_reads' HO185.out).2.1); rintro e w15 ⟨v188, rfl, ho0, hb⟩; refine ⟨_, rfl, ?_⟩; have n0_ := Aside0.mk (Kd.R_below (by (with_reducible repeat (fail)); exact HO185.out) hb); have n1_ := Aside0.mk (Kd.R_lower ho0 (below_size (by repeat (first | (with_reducible first | exact HB.out ) )))); have n2_ := Aside0.mk (below_step (by repeat (first | (with_reducible first | exact HB.out ) )) hb); clear HO185; clear HB; have HO185 := n0_; have HO189 := n1_; have HB := n2_; clear n0_ n1_ n2_; (try clear hb); (try clear hb2); (try clear hk); (try clear hi); (try clear ho0)) | ((with_reducible refine gate_dst (N := 1) rfl ?_); (try (refine gate_guard (by rfl) ?_; dsimp only)); refine box_event ?hg (N := 1) ?hd (cs := #[.int .i64 0, .slice none 0 0]) (t := 24) ?hr ?_; (case hd => rfl); (case hg => rfl); (case hr => first | (go_simp; done) ); intro gb191 hg w16 hbox hb; have n0_ := Aside0.mk (Kd.R_below (by (with_reducible repeat (fail)); exact HO185.out) hb); have n1_ := Aside0.mk (Kd.R_below (by (with_reducible repeat (fail)); exact HO189.out) hb); have n2_ := Aside0.mk (below_step (by repeat (first | (with_reducible first | exact HB.out ) )) hb); have n3_ := Aside0.mk (hbox); have n4_ := Aside0.mk ((by rw [hg]; exact (below_size (by repeat (first | (with_reducible first | exact HB.out ) ))) : w.heap.size ≤ gb191)); have n5_ := Aside0.mk ((by rw [hg]; exact (below_size (by repeat (first | (with_reducible first | exact HB.out ) ))) : w.heap.size ≤ gb191)); clear HO185; clear HO189; clear HB; have HO185 := n0_; have HO189 := n1_; have HB := n2_; have BK191 := n3_; have GW191 := n4_; have GE191 := n5_; clear n0_ n1_ n2_ n3_ n4_ n5_; clear hb hbox hg; have hcz17_0 : w16.cell? ⟨gb191, 0, none⟩ = some (.int .i64 0) := (blk_cell BK191.out 0).trans rfl; have hcz17_1 : w16.cell? ⟨gb191, 1, none⟩ = some (.slice none 0 0) := (blk_cell BK191.out 1).trans rfl; have hfz17_0 := blk_frozen BK191.out 0; have hfz17_1 := blk_frozen BK191.out 1; obtain ⟨Ao18, co18, eo18⟩ := Kd.R_slice HO189.out; subst eo18) | ((with_reducible refine gate_callee (f := 9) rfl ?_); refine goesL_ (some 14) rfl rfl Try.func9 (by kernel_rfl) rfl #[.agg #[.int .i64 t186, .slice Ao18 t187.length co18], .int .i64 2] rfl (by (try simp only [List.map_toArray, List.map_cons, List.map_nil]); first | rfl ) ?_; (with_reducible refine (view_Down.calls k t186 _ _ t187 2 t192 t193 t196 _ ?side1 ?side2 A2.out).mono ?_); (case side1 => refine (Kd.R_reads' (e := 53) (base := w.heap.size) (ok := fun k_ => True) (n := t187.length) (c := co18) ?_).2.2; exact (by (with_reducible repeat (fail)); exact (Kd.R_mono (Kd.R_far (p := ⟨gb191, 1, none⟩) (Kd.R_far (p := ⟨gb191, 0, none⟩) (Kd.R_types HO189.out BK191.out (by decide)) (fun _ hk => hk.2) (.int .i64 t186)) (fun _ hk => hk.2) (.slice Ao18 t187.length co18)) (fun _ h_ => h_.1)))); (case side2 => exact (Kd.R_reads' HO189.out).2.1); rintro e w19 ⟨v194, rfl, ho0, hb⟩; refine ⟨_, rfl, ?_⟩; have n0_ := Aside0.mk (Kd.R_below (by (with_reducible repeat (fail)); exact (Kd.R_mono (Kd.R_far (p := ⟨gb191, 1, none⟩) (Kd.R_far (p := ⟨gb191, 0, none⟩) (Kd.R_types HO185.out BK191.out (by decide)) (fun _ hk => hk.2) (.int .i64 t186)) (fun _ hk => hk.2) (.slice Ao18 t187.length co18)) (fun _ h_ => h_.1))) hb); have n1_ := Aside0.mk (Kd.R_elder' (by (with_reducible repeat (fail)); exact (Kd.R_mono (Kd.R_far (p := ⟨gb191, 1, none⟩) (Kd.R_far (p := ⟨gb191, 0, none⟩) (Kd.R_types HO189.out BK191.out (by decide)) (fun _ hk => hk.2) (.int .i64 t186)) (fun _ hk => hk.2) (.slice Ao18 t187.length co18)) (fun _ h_ => h_.1))) (Kd.R_base ho0) hb); have n2_ := Aside0.mk (Kd.R_lower (Kd.R_new' ho0 (Kd.R_lt (by (with_reducible repeat (fail)); exact (Kd.R_mono (Kd.R_far (p := ⟨gb191, 1, none⟩) (Kd.R_far (p := ⟨gb191, 0, none⟩) (Kd.R_types HO189.out BK191.out (by decide)) (fun _ hk => hk.2) (.int .i64 t186)) (fun _ hk => hk.2) (.slice Ao18 t187.length co18)) (fun _ h_ => h_.1))))) (below_size (by repeat (first | (with_reducible first | exact HB.out | refine below_set ?_ GE191.out) )))); have n3_ := Aside0.mk (blk_below (g := gb191) (o := .cells #[.int .i64 t186, .slice Ao18 t187.length co18] 24 (0, 0)) (by (with_reducible repeat (fail)); refine blk_put (cs := #[.int .i64 t186, .slice none 0 0]) ?_ 1 _ rfl; (with_reducible repeat (fail)); refine blk_put (cs := #[.int .i64 0, .slice none 0 0]) ?_ 0 _ rfl; (with_reducible repeat (fail)); exact BK191.out) hb); have n4_ := Aside0.mk (below_step (by repeat (first | (with_reducible first | exact HB.out | refine below_set ?_ GE191.out) )) hb); clear HO185; clear HO189; clear BK191; clear HB; have HO185 := n0_; have HO189 := n1_; have HO195 := n2_; have BK191 := n3_; have HB := n4_; clear n0_ n1_ n2_ n3_ n4_; (try clear hb); (try clear hb2); (try clear hk); (try clear hi); (try clear ho0)) | ((with_reducible refine gate_dst (N := 3) rfl ?_); (try (refine gate_guard (by rfl) ?_; dsimp only)); refine box_event ?hg (N := 3) ?hd (cs := #[.int .i64 0, .slice none 0 0]) (t := 24) ?hr ?_; (case hd => rfl); (case hg => rfl); (case hr => first | (go_simp; done) ); intro gb197 hg w20 hbox hb; have n0_ := Aside0.mk (Kd.R_below (by (with_reducible repeat (fail)); exact HO185.out) hb); have n1_ := Aside0.mk (Kd.R_below (by (with_reducible repeat (fail)); exact HO189.out) hb); have n2_ := Aside0.mk (Kd.R_below (by (with_reducible repeat (fail)); exact HO195.out) hb); have n3_ := Aside0.mk (blk_below (g := gb191) (o := .cells #[.int .i64 t186, .slice Ao18 t187.length co18] 24 (0, 0)) (by (with_reducible repeat (fail)); exact BK191.out) hb); have n4_ := Aside0.mk (below_step (by repeat (first | (with_reducible first | exact HB.out ) )) hb); have n5_ := Aside0.mk (hbox); have n6_ := Aside0.mk ((by rw [hg]; exact (below_size (by repeat (first | (with_reducible first | exact HB.out ) ))) : w.heap.size ≤ gb197)); have n7_ := Aside0.mk ((by rw [hg]; exact (below_size (by repeat (first | (with_reducible first | exact HB.out ) ))) : w.heap.size ≤ gb197)); have n8_ := Aside0.mk ((by rw [hg]; exact Nat.ne_of_lt (blk_lt (g := gb191) (o := .cells #[.int .i64 t186, .slice Ao18 t187.length co18] 24 (0, 0)) (by (with_reducible repeat (fail)); exact BK191.out)) : gb191 ≠ gb197)); have n9_ := Aside0.mk ((by rw [hg]; exact Nat.ne_of_gt (blk_lt (g := gb191) (o := .cells #[.int .i64 t186, .slice Ao18 t187.length co18] 24 (0, 0)) (by (with_reducible repeat (fail)); exact BK191.out)) : gb197 ≠ gb191)); clear HO185; clear HO189; clear HO195; clear BK191; clear HB; have HO185 := n0_; have HO189 := n1_; have HO195 := n2_; have BK191 := n3_; have HB := n4_; have BK197 := n5_; have GW197 := n6_; have GE197 := n7_; have NB191_197 := n8_; have NB197_191 := n9_; clear n0_ n1_ n2_ n3_ n4_ n5_ n6_ n7_ n8_ n9_; clear hb hbox hg; have hnb21 := NB197_191.out; have hnc21 := NB191_197.out; have hcz22_0 : w20.cell? ⟨gb197, 0, none⟩ = some (.int .i64 0) := (blk_cell BK197.out 0).trans rfl; have hcz22_1 : w20.cell? ⟨gb197, 1, none⟩ = some (.slice none 0 0) := (blk_cell BK197.out 1).trans rfl; have hfz22_0 := blk_frozen BK197.out 0; have hfz22_1 := blk_frozen BK197.out 1; obtain ⟨Ao23, co23, eo23⟩ := Kd.R_slice HO195.out; subst eo23) | ((with_reducible refine gate_callee (f := 12) rfl ?_); refine goesL_ (some 19) rfl rfl Try.func12 (by kernel_rfl) rfl #[.agg #[.int .i64 t192, .slice Ao23 t193.length co23], .int .i64 2] rfl (by (try simp only [List.map_toArray, List.map_cons, List.map_nil]); first | rfl ) ?_; (with_reducible refine (view_Up.calls k t192 _ _ t193 2 t198 t199 t202 _ ?side1 ?side2 A3.out).mono ?_); (case side1 => refine (Kd.R_reads' (e := 53) (base := w.heap.size) (ok := fun k_ => (True ∧ some k_ ≠ (.slice Ao18 t187.length co18 : Value).ownBlock)) (n := t193.length) (c := co23) ?_).2.2; exact (by (with_reducible repeat (fail)); exact (Kd.R_mono (Kd.R_far (p := ⟨gb197, 1, none⟩) (Kd.R_far (p := ⟨gb197, 0, none⟩) (Kd.R_types HO195.out BK197.out (by decide)) (fun _ hk => hk.2) (.int .i64 t192)) (fun _ hk => hk.2) (.slice Ao23 t193.length co23)) (fun _ h_ => h_.1)))); (case side2 => exact (Kd.R_reads' HO195.out).2.1); rintro e w24 ⟨v200, rfl, ho0, hb⟩; refine ⟨_, rfl, ?_⟩; have n0_ := Aside0.mk (Kd.R_below (by (with_reducible repeat (fail)); exact (Kd.R_mono (Kd.R_far (p := ⟨gb197, 1, none⟩) (Kd.R_far (p := ⟨gb197, 0, none⟩) (Kd.R_types HO185.out BK197.out (by decide)) (fun _ hk => hk.2) (.int .i64 t192)) (fun _ hk => hk.2) (.slice Ao23 t193.length co23)) (fun _ h_ => h_.1))) hb); have n1_ := Aside0.mk (Kd.R_elder' (by (with_reducible repeat (fail)); exact (Kd.R_mono (Kd.R_far (p := ⟨gb197, 1, none⟩) (Kd.R_far (p := ⟨gb197, 0, none⟩) (Kd.R_types HO189.out BK197.out (by decide)) (fun _ hk => hk.2) (.int .i64 t192)) (fun _ hk => hk.2) (.slice Ao23 t193.length co23)) (fun _ h_ => h_.1))) (Kd.R_base ho0) hb); have n2_ := Aside0.mk (Kd.R_elder' (by (with_reducible repeat (fail)); exact (Kd.R_mono (Kd.R_far (p := ⟨gb197, 1, none⟩) (Kd.R_far (p := ⟨gb197, 0, none⟩) (Kd.R_types HO195.out BK197.out (by decide)) (fun _ hk => hk.2) (.int .i64 t192)) (fun _ hk => hk.2) (.slice Ao23 t193.length co23)) (fun _ h_ => h_.1))) (Kd.R_base ho0) hb); have n3_ := Aside0.mk (Kd.R_lower (Kd.R_new' (Kd.R_new' ho0 (Kd.R_lt (by (with_reducible repeat (fail)); exact (Kd.R_mono (Kd.R_far (p := ⟨gb197, 1, none⟩) (Kd.R_far (p := ⟨gb197, 0, none⟩) (Kd.R_types HO189.out BK197.out (by decide)) (fun _ hk => hk.2) (.int .i64 t192)) (fun _ hk => hk.2) (.slice Ao23 t193.length co23)) (fun _ h_ => h_.1))))) (Kd.R_lt (by (with_reducible repeat (fail)); exact (Kd.R_mono (Kd.R_far (p := ⟨gb197, 1, none⟩) (Kd.R_far (p := ⟨gb197, 0, none⟩) (Kd.R_types HO195.out BK197.out (by decide)) (fun _ hk => hk.2) (.int .i64 t192)) (fun _ hk => hk.2) (.slice Ao23 t193.length co23)) (fun _ h_ => h_.1))))) (below_size (by repeat (first | (with_reducible first | exact HB.out | refine below_set ?_ GE197.out) )))); have n4_ := Aside0.mk (blk_below (g := gb191) (o := .cells #[.int .i64 t186, .slice Ao18 t187.length co18] 24 (0, 0)) (by (with_reducible repeat (fail)); refine blk_far ?_ NB191_197.out _; (with_reducible repeat (fail)); refine blk_far ?_ NB191_197.out _; (with_reducible repeat (fail)); exact BK191.out) hb); have n5_ := Aside0.mk (blk_below (g := gb197) (o := .cells #[.int .i64 t192, .slice Ao23 t193.length co23] 24 (0, 0)) (by (with_reducible repeat (fail)); refine blk_put (cs := #[.int .i64 t192, .slice none 0 0]) ?_ 1 _ rfl; (with_reducible repeat (fail)); refine blk_put (cs := #[.int .i64 0, .slice none 0 0]) ?_ 0 _ rfl; (with_reducible repeat (fail)); exact BK197.out) hb); have n6_ := Aside0.mk (below_step (by repeat (first | (with_reducible first | exact HB.out | refine below_set ?_ GE197.out) )) hb); clear HO185; clear HO189; clear HO195; clear BK191; clear BK197; clear HB; have HO185 := n0_; have HO189 := n1_; have HO195 := n2_; have HO201 := n3_; have BK191 := n4_; have BK197 := n5_; have HB := n6_; clear n0_ n1_ n2_ n3_ n4_ n5_ n6_; (try clear hb); (try clear hb2); (try clear hk); (try clear hi); (try clear ho0)) | ((with_reducible refine gate_dst (N := 5) rfl ?_); (try (refine gate_guard (by rfl) ?_; dsimp only)); refine box_event ?hg (N := 5) ?hd (cs := #[.int .i64 0, .slice none 0 0]) (t := 24) ?hr ?_; (case hd => rfl); (case hg => rfl); (case hr => first | (go_simp; done) ); intro gb203 hg w25 hbox hb; have n0_ := Aside0.mk (Kd.R_below (by (with_reducible repeat (fail)); exact HO185.out) hb); have n1_ := Aside0.mk (Kd.R_below (by (with_reducible repeat (fail)); exact HO189.out) hb); have n2_ := Aside0.mk (Kd.R_below (by (with_reducible repeat (fail)); exact HO195.out) hb); have n3_ := Aside0.mk (Kd.R_below (by (with_reducible repeat (fail)); exact HO201.out) hb); have n4_ := Aside0.mk (blk_below (g := gb191) (o := .cells #[.int .i64 t186, .slice Ao18 t187.length co18] 24 (0, 0)) (by (with_reducible repeat (fail)); exact BK191.out) hb); have n5_ := Aside0.mk (blk_below (g := gb197) (o := .cells #[.int .i64 t192, .slice Ao23 t193.length co23] 24 (0, 0)) (by (with_reducible repeat (fail)); exact BK197.out) hb); have n6_ := Aside0.mk (below_step (by repeat (first | (with_reducible first | exact HB.out ) )) hb); have n7_ := Aside0.mk (hbox); have n8_ := Aside0.mk ((by rw [hg]; exact (below_size (by repeat (first | (with_reducible first | exact HB.out ) ))) : w.heap.size ≤ gb203)); have n9_ := Aside0.mk ((by rw [hg]; exact (below_size (by repeat (first | (with_reducible first | exact HB.out ) ))) : w.heap.size ≤ gb203)); have n10_ := Aside0.mk ((by rw [hg]; exact Nat.ne_of_lt (blk_lt (g := gb191) (o := .cells #[.int .i64 t186, .slice Ao18 t187.length co18] 24 (0, 0)) (by (with_reducible repeat (fail)); exact BK191.out)) : gb191 ≠ gb203)); have n11_ := Aside0.mk ((by rw [hg]; exact Nat.ne_of_gt (blk_lt (g := gb191) (o := .cells #[.int .i64 t186, .slice Ao18 t187.length co18] 24 (0, 0)) (by (with_reducible repeat (fail)); exact BK191.out)) : gb203 ≠ gb191)); have n12_ := Aside0.mk ((by rw [hg]; exact Nat.ne_of_lt (blk_lt (g := gb197) (o := .cells #[.int .i64 t192, .slice Ao23 t193.length co23] 24 (0, 0)) (by (with_reducible repeat (fail)); exact BK197.out)) : gb197 ≠ gb203)); have n13_ := Aside0.mk ((by rw [hg]; exact Nat.ne_of_gt (blk_lt (g := gb197) (o := .cells #[.int .i64 t192, .slice Ao23 t193.length co23] 24 (0, 0)) (by (with_reducible repeat (fail)); exact BK197.out)) : gb203 ≠ gb197)); clear HO185; clear HO189; clear HO195; clear HO201; clear BK191; clear BK197; clear HB; have HO185 := n0_; have HO189 := n1_; have HO195 := n2_; have HO201 := n3_; have BK191 := n4_; have BK197 := n5_; have HB := n6_; have BK203 := n7_; have GW203 := n8_; have GE203 := n9_; have NB191_203 := n10_; have NB203_191 := n11_; have NB197_203 := n12_; have NB203_197 := n13_; clear n0_ n1_ n2_ n3_ n4_ n5_ n6_ n7_ n8_ n9_ n10_ n11_ n12_ n13_; clear hb hbox hg; have hnb26 := NB203_191.out; have hnc26 := NB191_203.out; have hnb27 := NB203_197.out; have hnc27 := NB197_203.out; have hcz28_0 : w25.cell? ⟨gb203, 0, none⟩ = some (.int .i64 0) := (blk_cell BK203.out 0).trans rfl; have hcz28_1 : w25.cell? ⟨gb203, 1, none⟩ = some (.slice none 0 0) := (blk_cell BK203.out 1).trans rfl; have hfz28_0 := blk_frozen BK203.out 0; have hfz28_1 := blk_frozen BK203.out 1; obtain ⟨Ao29, co29, eo29⟩ := Kd.R_slice HO201.out; subst eo29; have hcz30_0 : w25.cell? ⟨gb197, 0, none⟩ = some (.int .i64 t192) := (blk_cell BK197.out 0).trans rfl; have hcz30_1 : w25.cell? ⟨gb197, 1, none⟩ = some (.slice Ao23 t193.length co23) := (blk_cell BK197.out 1).trans rfl; have hfz30_0 := blk_frozen BK197.out 0; have hfz30_1 := blk_frozen BK197.out 1) | (go_at_call 20; (with_reducible refine (view_Live.calls k t192 _ _ t193 t204 _ ?side1 ?side2 A8.out).mono ?_); (case side1 => refine (Kd.R_reads' (e := 53) (base := w.heap.size) (ok := fun k_ => ((True ∧ some k_ ≠ (.slice Ao18 t187.length co18 : Value).ownBlock) ∧ some k_ ≠ (.slice Ao29 t199.length co29 : Value).ownBlock)) (n := t193.length) (c := co23) ?_).2.2; exact (by (with_reducible repeat (fail)); exact (Kd.R_mono (Kd.R_far (p := ⟨gb203, 1, none⟩) (Kd.R_far (p := ⟨gb203, 0, none⟩) (Kd.R_types HO195.out BK203.out (by decide)) (fun _ hk => hk.2) (.int .i64 t198)) (fun _ hk => hk.2) (.slice Ao29 t199.length co29)) (fun _ h_ => h_.1)))); (case side2 => exact (Kd.R_reads' HO195.out).2.1); rintro e w31 ⟨v205, rfl, ho0, hb⟩; have n0_ := Aside0.mk (Kd.R_elder' (by (with_reducible repeat (fail)); exact (Kd.R_mono (Kd.R_far (p := ⟨gb203, 1, none⟩) (Kd.R_far (p := ⟨gb203, 0, none⟩) (Kd.R_types HO185.out BK203.out (by decide)) (fun _ hk => hk.2) (.int .i64 t198)) (fun _ hk => hk.2) (.slice Ao29 t199.length co29)) (fun _ h_ => h_.1))) (Kd.R_base ho0) hb); have n1_ := Aside0.mk (Kd.R_below (by (with_reducible repeat (fail)); exact (Kd.R_mono (Kd.R_far (p := ⟨gb203, 1, none⟩) (Kd.R_far (p := ⟨gb203, 0, none⟩) (Kd.R_types HO189.out BK203.out (by decide)) (fun _ hk => hk.2) (.int .i64 t198)) (fun _ hk => hk.2) (.slice Ao29 t199.length co29)) (fun _ h_ => h_.1))) hb); have n2_ := Aside0.mk (Kd.R_below (by (with_reducible repeat (fail)); exact (Kd.R_mono (Kd.R_far (p := ⟨gb203, 1, none⟩) (Kd.R_far (p := ⟨gb203, 0, none⟩) (Kd.R_types HO195.out BK203.out (by decide)) (fun _ hk => hk.2) (.int .i64 t198)) (fun _ hk => hk.2) (.slice Ao29 t199.length co29)) (fun _ h_ => h_.1))) hb); have n3_ := Aside0.mk (Kd.R_below (by (with_reducible repeat (fail)); exact (Kd.R_mono (Kd.R_far (p := ⟨gb203, 1, none⟩) (Kd.R_far (p := ⟨gb203, 0, none⟩) (Kd.R_types HO201.out BK203.out (by decide)) (fun _ hk => hk.2) (.int .i64 t198)) (fun _ hk => hk.2) (.slice Ao29 t199.length co29)) (fun _ h_ => h_.1))) hb); have n4_ := Aside0.mk (Kd.R_lower (Kd.R_new' ho0 (Kd.R_lt (by (with_reducible repeat (fail)); exact (Kd.R_mono (Kd.R_far (p := ⟨gb203, 1, none⟩) (Kd.R_far (p := ⟨gb203, 0, none⟩) (Kd.R_types HO185.out BK203.out (by decide)) (fun _ hk => hk.2) (.int .i64 t198)) (fun _ hk => hk.2) (.slice Ao29 t199.length co29)) (fun _ h_ => h_.1))))) (below_size (by repeat (first | (with_reducible first | exact HB.out | refine below_set ?_ GE203.out) )))); have n5_ := Aside0.mk (blk_below (g := gb191) (o := .cells #[.int .i64 t186, .slice Ao18 t187.length co18] 24 (0, 0)) (by (with_reducible repeat (fail)); refine blk_far ?_ NB191_203.out _; (with_reducible repeat (fail)); refine blk_far ?_ NB191_203.out _; (with_reducible repeat (fail)); exact BK191.out) hb); have n6_ := Aside0.mk (blk_below (g := gb197) (o := .cells #[.int .i64 t192, .slice Ao23 t193.length co23] 24 (0, 0)) (by (with_reducible repeat (fail)); refine blk_far ?_ NB197_203.out _; (with_reducible repeat (fail)); refine blk_far ?_ NB197_203.out _; (with_reducible repeat (fail)); exact BK197.out) hb); have n7_ := Aside0.mk (blk_below (g := gb203) (o := .cells #[.int .i64 t198, .slice Ao29 t199.length co29] 24 (0, 0)) (by (with_reducible repeat (fail)); refine blk_put (cs := #[.int .i64 t198, .slice none 0 0]) ?_ 1 _ rfl; (with_reducible repeat (fail)); refine blk_put (cs := #[.int .i64 0, .slice none 0 0]) ?_ 0 _ rfl; (with_reducible repeat (fail)); exact BK203.out) hb); have n8_ := Aside0.mk (below_step (by repeat (first | (with_reducible first | exact HB.out | refine below_set ?_ GE203.out) )) hb); clear HO185; clear HO189; clear HO195; clear HO201; clear BK191; clear BK197; clear BK203; clear HB; have HO185 := n0_; have HO189 := n1_; have HO195 := n2_; have HO201 := n3_; have HO206 := n4_; have BK191 := n5_; have BK197 := n6_; have BK203 := n7_; have HB := n8_; clear n0_ n1_ n2_ n3_ n4_ n5_ n6_ n7_ n8_; (try clear hb); (try clear hb2); (try clear hk); (try clear hi); (try clear ho0)) | ((with_reducible refine gate_dst (N := 40) rfl ?_); (try (refine gate_guard (by rfl) ?_; dsimp only)); refine Kd.R_lit (Kd.int .i64) _ 3 ?hg (N := 40) ?hd (xs := ([1, 3] : List Int)) (inner := [.int .i64 1, .int .i64 3]) (ok := fun _ => True) (okp := fun _ => True) ?hr ?hp (fun _ hk => hk) trivial (Below.refl _ _) (Nat.le_refl _) (by simp) ?_; (case hd => rfl); (case hg => rfl); (case hr => first | (go_simp; done) ); (case hp => exact (Reps.one (show Kd.M (Kd.int .i64) _ _ _ 1 [.int .i64 1] from rfl) (Reps.one (show Kd.M (Kd.int .i64) _ _ _ 3 [.int .i64 3] from rfl) (Reps.none _ _)))); intro v208 w32 ho33 hb hg_ hnew_; clear hg_ hnew_; (first | rw [← Ny207.out] at ho33 ); have n0_ := Aside0.mk (Kd.R_elder' (by (with_reducible repeat (fail)); exact HO185.out) (Kd.R_base ho33) hb); have n1_ := Aside0.mk (Kd.R_below (by (with_reducible repeat (fail)); exact HO189.out) hb); have n2_ := Aside0.mk (Kd.R_below (by (with_reducible repeat (fail)); exact HO195.out) hb); have n3_ := Aside0.mk (Kd.R_below (by (with_reducible repeat (fail)); exact HO201.out) hb); have n4_ := Aside0.mk (Kd.R_elder' (by (with_reducible repeat (fail)); exact HO206.out) (Kd.R_base ho33) hb); have n5_ := Aside0.mk (Kd.R_lower (Kd.R_new' (Kd.R_new' ho33 (Kd.R_lt (by (with_reducible repeat (fail)); exact HO185.out))) (Kd.R_lt (by (with_reducible repeat (fail)); exact HO206.out))) (below_size (by repeat (first | (with_reducible first | exact HB.out ) )))); have n6_ := Aside0.mk (blk_below (g := gb191) (o := .cells #[.int .i64 t186, .slice Ao18 t187.length co18] 24 (0, 0)) (by (with_reducible repeat (fail)); exact BK191.out) hb); have n7_ := Aside0.mk (blk_below (g := gb197) (o := .cells #[.int .i64 t192, .slice Ao23 t193.length co23] 24 (0, 0)) (by (with_reducible repeat (fail)); exact BK197.out) hb); have n8_ := Aside0.mk (blk_below (g := gb203) (o := .cells #[.int .i64 t198, .slice Ao29 t199.length co29] 24 (0, 0)) (by (with_reducible repeat (fail)); exact BK203.out) hb); have n9_ := Aside0.mk (below_step (by repeat (first | (with_reducible first | exact HB.out ) )) hb); clear HO185; clear HO189; clear HO195; clear HO201; clear HO206; clear BK191; clear BK197; clear BK203; clear HB; have HO185 := n0_; have HO189 := n1_; have HO195 := n2_; have HO201 := n3_; have HO206 := n4_; have HO209 := n5_; have BK191 := n6_; have BK197 := n7_; have BK203 := n8_; have HB := n9_; clear n0_ n1_ n2_ n3_ n4_ n5_ n6_ n7_ n8_ n9_; clear hb ho33; obtain ⟨Ao34, co34, eo34⟩ := Kd.R_slice HO206.out; subst eo34; obtain ⟨Ao35, co35, eo35⟩ := Kd.R_slice HO209.out; subst eo35) | (go_at_call 19; (with_reducible refine (caduceusref10_Same.calls k _ _ t204 _ _ y207 true _ ?side1 ?side2 ?side3 ?side4 A9.out).mono ?_); (case side1 => repeat (first | exact (Kd.R_reads' HO206.out).2.2 )); (case side2 => exact (Kd.R_reads' HO206.out).2.1); (case side3 => repeat (first | exact (Kd.R_reads' HO209.out).2.2 )); (case side4 => exact (Kd.R_reads' HO209.out).2.1); rintro e w' ⟨rfl, ⟨nd, rfl⟩⟩; have hcz36_0 : w32.cell? ⟨gb203, 0, none⟩ = some (.int .i64 t198) := (blk_cell BK203.out 0).trans rfl; have hcz36_1 : w32.cell? ⟨gb203, 1, none⟩ = some (.slice Ao29 t199.length co29) := (blk_cell BK203.out 1).trans rfl; have hfz36_0 := blk_frozen BK203.out 0; have hfz36_1 := blk_frozen BK203.out 1) | (go_at_call 28; (with_reducible refine (view_Text.calls k t198 _ _ t199 t211 _ ?side1 ?side2 A11.out).mono ?_); (case side1 => repeat (first | exact (Kd.R_reads' HO201.out).2.2 )); (case side2 => exact (Kd.R_reads' HO201.out).2.1); rintro e w37 ⟨rfl, hb⟩; have n0_ := Aside0.mk (Kd.R_below (by (with_reducible repeat (first | apply Kd.R_drewN )); exact HO185.out) hb); have n1_ := Aside0.mk (Kd.R_below (by (with_reducible repeat (first | apply Kd.R_drewN )); exact HO189.out) hb); have n2_ := Aside0.mk (Kd.R_below (by (with_reducible repeat (first | apply Kd.R_drewN )); exact HO195.out) hb); have n3_ := Aside0.mk (Kd.R_below (by (with_reducible repeat (first | apply Kd.R_drewN )); exact HO201.out) hb); have n4_ := Aside0.mk (Kd.R_below (by (with_reducible repeat (first | apply Kd.R_drewN )); exact HO206.out) hb); have n5_ := Aside0.mk (Kd.R_below (by (with_reducible repeat (first | apply Kd.R_drewN )); exact HO209.out) hb); have n6_ := Aside0.mk (blk_below (g := gb191) (o := .cells #[.int .i64 t186, .slice Ao18 t187.length co18] 24 (0, 0)) (by (with_reducible repeat (first | refine blk_drewN ?_ _ )); exact BK191.out) hb); have n7_ := Aside0.mk (blk_below (g := gb197) (o := .cells #[.int .i64 t192, .slice Ao23 t193.length co23] 24 (0, 0)) (by (with_reducible repeat (first | refine blk_drewN ?_ _ )); exact BK197.out) hb); have n8_ := Aside0.mk (blk_below (g := gb203) (o := .cells #[.int .i64 t198, .slice Ao29 t199.length co29] 24 (0, 0)) (by (with_reducible repeat (first | refine blk_drewN ?_ _ )); exact BK203.out) hb); have n9_ := Aside0.mk (below_step (by repeat (first | (with_reducible first | exact HB.out | apply pw_below_drewN ) )) hb); clear HO185; clear HO189; clear HO195; clear HO201; clear HO206; clear HO209; clear BK191; clear BK197; clear BK203; clear HB; have HO185 := n0_; have HO189 := n1_; have HO195 := n2_; have HO201 := n3_; have HO206 := n4_; have HO209 := n5_; have BK191 := n6_; have BK197 := n7_; have BK203 := n8_; have HB := n9_; clear n0_ n1_ n2_ n3_ n4_ n5_ n6_ n7_ n8_ n9_; (try clear hb); (try clear hb2); (try clear hk); (try clear hi)))
      go_ret
      exact ⟨by first | rfl , by repeat (first | (with_reducible first | exact HB.out ) )⟩
     ·replace c10 := Bool.eq_false_iff.mpr c10
      subst c10
      have H1 : (none : Option _) = some r := by rw [if_neg (show ¬ (false = true) by decide)] at H; exact H
      cases H1
    ·rw [if_neg c7] at H
     cases H
   ·rw [if_neg c6] at H
    cases H
  ·rw [if_neg c5] at H
   cases H
 ·rw [if_neg c4] at H
  cases H
/-! ### caduceuslaw14_Ref: function 11 -/
def caduceuslaw14_Ref.l0 : Nat → Int → Int → List (S53) → Int → List (S62) → Option (Int × (List (S62)))
 | 0, _, _, _, _, _ => none
 | k + 1, x4, x213000, x213001, x215000, x215001 => if x4 < (x213001.length : Int) then (if 0 ≤ x4 then (if x215001.length < 5864062014805 then (caduceuslaw14_Ref.l0 k (wrap64 (x4 + 1)) x213000 x213001 x215000 (x215001 ++ [(⟨(rd_T53 x213001 x4).f0, (rd_T53 x213001 x4).f1, (rd_T53 x213001 x4).f2⟩ : S62)])) else (none)) else (none)) else (some (x215000, x215001))
def caduceuslaw14_Ref.f (k : Nat) (a0_0 : Int) (l0_1 : List (S53)) : Option (Int × (List (S62))) := caduceuslaw14_Ref.l0 k 0 a0_0 l0_1 a0_0 ([] : List (S62))
theorem caduceuslaw14_Ref.mono_l : ∀ k, (∀ y0 y1 y2 y3 y4, LeO (caduceuslaw14_Ref.l0 k y0 y1 y2 y3 y4) (caduceuslaw14_Ref.l0 (k + 1) y0 y1 y2 y3 y4))
 | 0 => fun _ _ _ _ _ r h => by simp [caduceuslaw14_Ref.l0] at h
 | k + 1 => by
  have ih0 := caduceuslaw14_Ref.mono_l k
  ·intro y0 y1 y2 y3 y4
   unfold caduceuslaw14_Ref.l0
   repeat' first
   | (with_reducible exact ih0 _ _ _ _ _)
   | (with_reducible exact LeO.refl _)
   | (with_reducible refine LeO.ite ?_ ?_)

theorem caduceuslaw14_Ref.mono : ∀ a0 a1 k, LeO (caduceuslaw14_Ref.f k a0 a1) (caduceuslaw14_Ref.f (k + 1) a0 a1) := by
 intro a0 a1 k
 have ih0 := caduceuslaw14_Ref.mono_l k
 unfold caduceuslaw14_Ref.f
 repeat' first
   | (with_reducible exact ih0 _ _ _ _ _)

def caduceuslaw14_Ref.T5 : Bool × List (List Nat × List Nat) := (true, [([], []), ([0], [0]), ([], []), ([2], [2]), ([], []), ([3, 4], [3, 4]), ([5], [5]), ([6], [6]), ([1, 7], [1, 7]), ([0, 1, 2, 3, 4, 5, 6, 7, 8], []), ([9, 8, 8, 0, 1, 2, 3, 4, 5, 6, 7, 8], [8, 9])])
def caduceuslaw14_Ref.B5 : List Nat := [0, 1, 0, 4, 0, 28, 60, 124, 255, 511, 1023]
theorem caduceuslaw14_Ref.tab5 : rtab .any (opsOf Try.f11 5) = caduceuslaw14_Ref.T5 := by kernel_rfl
theorem caduceuslaw14_Ref.bits5 : waitsOk caduceuslaw14_Ref.T5.2 caduceuslaw14_Ref.B5 = true := by kernel_rfl
set_option maxHeartbeats 8000000 in
set_option maxRecDepth 100000 in
theorem caduceuslaw14_Ref.calls (k : Nat) (a0_0 : Int) (A0_1 : Option Addr) (c0_1 : Nat) (l0_1 : List (S53)) (r1 : Int) (r2 : List (S62)) (w : World) (hr0_1 : Kd.C k53 w A0_1 l0_1.length l0_1) (hc0_1 : l0_1.length ≤ c0_1) (h : caduceuslaw14_Ref.f k a0_0 l0_1 = some (r1, r2)) :
  Calls Try.prog 11 #[.agg #[.int .i64 a0_0, .slice A0_1 l0_1.length c0_1]] w fun e w' => ∃ v1_ : Value, e = .returned (.agg #[.int .i64 r1, v1_]) ∧ Kd.R k62 62 w' w.heap.size (fun _ => True) v1_ r2 ∧ Below w.heap.size w w' := by
 have hu24 := Try.underlying24
 have hu32 := Try.underlying32
 have hu53 := Try.underlying53
 have HR0_1 := Aside0.mk hr0_1
 have HC0_1 := Aside0.mk hc0_1
 clear hr0_1 hc0_1
 have HB := Aside0.mk (Below.refl w.heap.size w)
 have H : (caduceuslaw14_Ref.l0 k 0 a0_0 l0_1 a0_0 ([] : List (S62))) = some (r1, r2) := h
 clear h
 have H' := Aside0.mk H
 clear H
 go_enter Try.func11, Try.ntmps11
 go_wp2_with (first | ((with_reducible refine gate_dst (N := 1) rfl ?_); refine box_event ?hg (N := 1) ?hd (cs := #[.int .i64 a0_0, .slice A0_1 l0_1.length c0_1]) (t := 24) ?hr ?_; (case hd => rfl); (case hg => rfl); (case hr => first | (go_simp; done) ); intro gb212 hg w2 hbox hb; have n0_ := Aside0.mk (below_step (by repeat (first | (with_reducible first | exact HB.out ) )) hb); have n1_ := Aside0.mk (hbox); have n2_ := Aside0.mk ((by rw [hg]; exact (below_size (by repeat (first | (with_reducible first | exact HB.out ) ))) : w.heap.size ≤ gb212)); have n3_ := Aside0.mk ((by rw [hg]; exact (below_size (by repeat (first | (with_reducible first | exact HB.out ) ))) : w.heap.size ≤ gb212)); clear HB; have HB := n0_; have BK212 := n1_; have GW212 := n2_; have GE212 := n3_; clear n0_ n1_ n2_ n3_; clear hb hbox hg) | ((with_reducible refine gate_dst (N := 2) rfl ?_); refine box_event ?hg (N := 2) ?hd (cs := #[.int .i64 0, .slice none 0 0]) (t := 32) ?hr ?_; (case hd => rfl); (case hg => rfl); (case hr => first | (go_simp; done) ); intro gb213 hg w3 hbox hb; have n0_ := Aside0.mk (blk_below (g := gb212) (o := .cells #[.int .i64 a0_0, .slice A0_1 l0_1.length c0_1] 24 (0, 0)) (by (with_reducible repeat (fail)); exact BK212.out) hb); have n1_ := Aside0.mk (below_step (by repeat (first | (with_reducible first | exact HB.out ) )) hb); have n2_ := Aside0.mk (hbox); have n3_ := Aside0.mk ((by rw [hg]; exact (below_size (by repeat (first | (with_reducible first | exact HB.out ) ))) : w.heap.size ≤ gb213)); have n4_ := Aside0.mk ((by rw [hg]; exact (below_size (by repeat (first | (with_reducible first | exact HB.out ) ))) : w.heap.size ≤ gb213)); have n5_ := Aside0.mk ((by rw [hg]; exact Nat.ne_of_lt (blk_lt (g := gb212) (o := .cells #[.int .i64 a0_0, .slice A0_1 l0_1.length c0_1] 24 (0, 0)) (by (with_reducible repeat (fail)); exact BK212.out)) : gb212 ≠ gb213)); have n6_ := Aside0.mk ((by rw [hg]; exact Nat.ne_of_gt (blk_lt (g := gb212) (o := .cells #[.int .i64 a0_0, .slice A0_1 l0_1.length c0_1] 24 (0, 0)) (by (with_reducible repeat (fail)); exact BK212.out)) : gb213 ≠ gb212)); clear BK212; clear HB; have BK212 := n0_; have HB := n1_; have BK213 := n2_; have GW213 := n3_; have GE213 := n4_; have NB212_213 := n5_; have NB213_212 := n6_; clear n0_ n1_ n2_ n3_ n4_ n5_ n6_; clear hb hbox hg; have hnb4 := NB212_213.out; have hnc4 := NB213_212.out; have hcz5_0 : w3.cell? ⟨gb212, 0, none⟩ = some (.int .i64 a0_0) := (blk_cell BK212.out 0).trans rfl; have hcz5_1 : w3.cell? ⟨gb212, 1, none⟩ = some (.slice A0_1 l0_1.length c0_1) := (blk_cell BK212.out 1).trans rfl; have hfz5_0 := blk_frozen BK212.out 0; have hfz5_1 := blk_frozen BK212.out 1) | ((with_reducible refine gate_dst (N := 3) rfl ?_); refine box_event ?hg (N := 3) ?hd (cs := #[.int .i64 0, .slice none 0 0]) (t := 32) ?hr ?_; (case hd => rfl); (case hg => rfl); (case hr => first | (go_simp; done) ); intro gb214 hg w6 hbox hb; have n0_ := Aside0.mk (blk_below (g := gb212) (o := .cells #[.int .i64 a0_0, .slice A0_1 l0_1.length c0_1] 24 (0, 0)) (by (with_reducible repeat (fail)); exact BK212.out) hb); have n1_ := Aside0.mk (blk_below (g := gb213) (o := .cells #[.int .i64 0, .slice none 0 0] 32 (0, 0)) (by (with_reducible repeat (fail)); exact BK213.out) hb); have n2_ := Aside0.mk (below_step (by repeat (first | (with_reducible first | exact HB.out ) )) hb); have n3_ := Aside0.mk (hbox); have n4_ := Aside0.mk ((by rw [hg]; exact (below_size (by repeat (first | (with_reducible first | exact HB.out ) ))) : w.heap.size ≤ gb214)); have n5_ := Aside0.mk ((by rw [hg]; exact (below_size (by repeat (first | (with_reducible first | exact HB.out ) ))) : w.heap.size ≤ gb214)); have n6_ := Aside0.mk ((by rw [hg]; exact Nat.ne_of_lt (blk_lt (g := gb212) (o := .cells #[.int .i64 a0_0, .slice A0_1 l0_1.length c0_1] 24 (0, 0)) (by (with_reducible repeat (fail)); exact BK212.out)) : gb212 ≠ gb214)); have n7_ := Aside0.mk ((by rw [hg]; exact Nat.ne_of_gt (blk_lt (g := gb212) (o := .cells #[.int .i64 a0_0, .slice A0_1 l0_1.length c0_1] 24 (0, 0)) (by (with_reducible repeat (fail)); exact BK212.out)) : gb214 ≠ gb212)); have n8_ := Aside0.mk ((by rw [hg]; exact Nat.ne_of_lt (blk_lt (g := gb213) (o := .cells #[.int .i64 0, .slice none 0 0] 32 (0, 0)) (by (with_reducible repeat (fail)); exact BK213.out)) : gb213 ≠ gb214)); have n9_ := Aside0.mk ((by rw [hg]; exact Nat.ne_of_gt (blk_lt (g := gb213) (o := .cells #[.int .i64 0, .slice none 0 0] 32 (0, 0)) (by (with_reducible repeat (fail)); exact BK213.out)) : gb214 ≠ gb213)); clear BK212; clear BK213; clear HB; have BK212 := n0_; have BK213 := n1_; have HB := n2_; have BK214 := n3_; have GW214 := n4_; have GE214 := n5_; have NB212_214 := n6_; have NB214_212 := n7_; have NB213_214 := n8_; have NB214_213 := n9_; clear n0_ n1_ n2_ n3_ n4_ n5_ n6_ n7_ n8_ n9_; clear hb hbox hg; have hnb7 := NB214_212.out; have hnc7 := NB212_214.out; have hnb8 := NB214_213.out; have hnc8 := NB213_214.out; have hcz9_0 : w6.cell? ⟨gb214, 0, none⟩ = some (.int .i64 0) := (blk_cell BK214.out 0).trans rfl; have hcz9_1 : w6.cell? ⟨gb214, 1, none⟩ = some (.slice none 0 0) := (blk_cell BK214.out 1).trans rfl; have hfz9_0 := blk_frozen BK214.out 0; have hfz9_1 := blk_frozen BK214.out 1))
 go_loopg [4] k (fun kq v4 w' => ∃ (x4_1 : Int) (x215001_1 : List (S62)) (u215001 : Value), v4 = .int .i64 x4_1 ∧ Aside0 (caduceuslaw14_Ref.l0 kq x4_1 a0_0 l0_1 a0_0 x215001_1 = some (r1, r2)) ∧ Aside0 (kq ≤ k) ∧ Aside0 (Kd.R k62 62 w' w.heap.size (fun _ => True) u215001 x215001_1) ∧ Aside0 (w'.heap[gb212]? = some (.cells #[.int .i64 a0_0, (.slice A0_1 l0_1.length c0_1)] 24 (0, 0))) ∧ Aside0 (w'.heap[gb213]? = some (.cells #[.int .i64 0, (.slice none 0 0)] 32 (0, 0))) ∧ Aside0 (w'.heap[gb214]? = some (.cells #[.int .i64 a0_0, u215001] 32 (0, 0))) ∧ Aside0 (Below w.heap.size w w'))
 case atStart => exact ⟨(0), (([] : List (S62))), (.slice none 0 0), (by first | rfl ), H', ⟨Nat.le_refl _⟩, ⟨by first | exact Kd.R_nil _ _ _ _ _ ⟩, ⟨by (with_reducible repeat (fail)); refine blk_far ?_ NB212_214.out _; (with_reducible repeat (fail)); refine blk_far ?_ NB212_214.out _; (with_reducible repeat (fail)); exact BK212.out⟩, ⟨by (with_reducible repeat (fail)); refine blk_far ?_ NB213_214.out _; (with_reducible repeat (fail)); refine blk_far ?_ NB213_214.out _; (with_reducible repeat (fail)); exact BK213.out⟩, ⟨by (with_reducible repeat (fail)); refine blk_put (cs := #[.int .i64 a0_0, .slice none 0 0]) ?_ 1 _ rfl; (with_reducible repeat (fail)); refine blk_put (cs := #[.int .i64 0, .slice none 0 0]) ?_ 0 _ rfl; (with_reducible repeat (fail)); exact BK214.out⟩, ⟨by repeat (first | (with_reducible first | exact HB.out | refine below_set ?_ GE214.out) )⟩⟩
 case round =>
  clear H'
  try clear c1
  try clear p2
  try clear c4
  try clear c7
  try clear c8
  try clear hcz5_0
  try clear hcz5_1
  try clear hcz9_0
  try clear hcz9_1
  try clear hfz5_0
  try clear hfz5_1
  try clear hfz9_0
  try clear hfz9_1
  obtain ⟨x4_1, x215001_1, u215001, rfl, HA, HK1, HO_215001, BK212, BK213, BK214, HB⟩ := hrel
  cases gk with
  | zero => exact absurd HA.out (by simp [caduceuslaw14_Ref.l0])
  | succ k1 =>
   have H := HA.out
   clear HA
   simp only [caduceuslaw14_Ref.l0] at H
   by_cases c10 : x4_1 < (l0_1.length : Int)
   ·rw [if_pos c10] at H
    have c10b0 : decide (x4_1 < (l0_1.length : Int)) = true := decide_eq_true c10
    clear c10
    by_cases c11 : 0 ≤ x4_1
    ·rw [if_pos c11] at H
     have c11b0 : decide (0 ≤ x4_1) = true := decide_eq_true c11
     clear c11
     by_cases c12 : x215001_1.length < 5864062014805
     ·rw [if_pos c12] at H
      have LMc12 := Aside0.mk c12
      clear c12
      obtain ⟨y216, hy216⟩ : ∃ y_ : List (S62), y_ = (x215001_1 ++ [(⟨(rd_T53 l0_1 x4_1).f0, (rd_T53 l0_1 x4_1).f1, (rd_T53 l0_1 x4_1).f2⟩ : S62)]) := ⟨_, rfl⟩
      replace H : (caduceuslaw14_Ref.l0 k1 (wrap64 (x4_1 + 1)) a0_0 l0_1 a0_0 y216) = some (r1, r2) := by first | (rw [hy216]; with_reducible exact H)
      have Ny216 := Aside0.mk hy216
      clear hy216
      have H' := Aside0.mk H
      clear H
      have hnb13 := NB212_213.out
      have hnc13 := NB213_212.out
      have hnb14 := NB212_214.out
      have hnc14 := NB214_212.out
      have hcz15_0 : wr.cell? ⟨gb212, 0, none⟩ = some (.int .i64 a0_0) := (blk_cell BK212.out 0).trans rfl
      have hcz15_1 : wr.cell? ⟨gb212, 1, none⟩ = some (.slice A0_1 l0_1.length c0_1) := (blk_cell BK212.out 1).trans rfl
      have hfz15_0 := blk_frozen BK212.out 0
      have hfz15_1 := blk_frozen BK212.out 1
      try go_wp2
      have n0_ := Aside0.mk (Kd.R_drew HO_215001.out)
      have n1_ := Aside0.mk (blk_drew BK212.out)
      have n2_ := Aside0.mk (blk_drew BK213.out)
      have n3_ := Aside0.mk (blk_drew BK214.out)
      have n4_ := Aside0.mk (below_drew1 HB.out)
      clear HO_215001
      clear BK212
      clear BK213
      clear BK214
      clear HB
      have HO_215001 := n0_
      have BK212 := n1_
      have BK213 := n2_
      have BK214 := n3_
      have HB := n4_
      clear n0_ n1_ n2_ n3_ n4_
      have p215 : 0 ≤ (x4_1 : Int) := of_decide_eq_true (by first | (with_reducible assumption) )
      have q215 : x4_1 < (l0_1.length : Int) := of_decide_eq_true (by first | (with_reducible assumption) )
      obtain ⟨ad215, e215, hx215_0, hx215_1, hx215_2⟩ := at_T53 HR0_1.out x4_1 p215 q215
      have hw215_2 := hx215_2
      have hw215_1 := hx215_1
      have hw215_0 := hx215_0
      cases e215
      replace hx215_0 := (HB.out.cell (World.block_lt_of_cell? w _ hx215_0)).trans hx215_0
      replace hx215_1 := (HB.out.cell (World.block_lt_of_cell? w _ hx215_1)).trans hx215_1
      replace hx215_2 := (HB.out.cell (World.block_lt_of_cell? w _ hx215_2)).trans hx215_2
      replace p215 := eq_true p215
      replace q215 := eq_true q215
      refine start_ (n := 11) (S := fun w' => w'.cell? ⟨gb214, 0, none⟩ = some (.int .i64 a0_0) ∧ w'.cell? ⟨gb214, 1, none⟩ = some (u215001) ∧ w'.cell? ⟨gb212, 0, none⟩ = some (.int .i64 a0_0) ∧ w'.cell? ⟨gb212, 1, none⟩ = some (.slice (some ad215) l0_1.length c0_1) ∧ w'.cell? (ad215.add ((x4_1).toNat * 3)) = some (.int .i64 ((rd_T53 l0_1 x4_1).f0)) ∧ w'.cell? ⟨(ad215.add ((x4_1).toNat * 3)).block, (ad215.add ((x4_1).toNat * 3)).off + 1, none⟩ = some (.int .i64 ((rd_T53 l0_1 x4_1).f1)) ∧ w'.cell? ⟨(ad215.add ((x4_1).toNat * 3)).block, (ad215.add ((x4_1).toNat * 3)).off + 2, none⟩ = some (.bool ((rd_T53 l0_1 x4_1).f2))) (ds := [10]) #[false, false, false, false, false, false, false, false, false, false, false] (by kernel_rfl) rfl rfl ⟨(blk_cell BK214.out 0).trans rfl, (blk_cell BK214.out 1).trans rfl, (blk_cell BK212.out 0).trans rfl, (blk_cell BK212.out 1).trans rfl, ((HB.out.cell (World.block_lt_of_cell? w _ hw215_0)).trans hw215_0), ((HB.out.cell (World.block_lt_of_cell? w _ hw215_1)).trans hw215_1), ((HB.out.cell (World.block_lt_of_cell? w _ hw215_2)).trans hw215_2)⟩ (fun hHeld => ?_); refine with_tabW caduceuslaw14_Ref.tab5 caduceuslaw14_Ref.bits5 (fun HT_ HW_ => ?_)
      generalize wr.drew = w16 at HO_215001 BK212 BK213 BK214 HB hx215_0 hx215_1 hx215_2 hHeld ⊢
      refine pure_ (i := 0) (N := some 15) (v := ?_) (a' := ?_) #[true, false, false, false, false, false, false, false, false, false, false] rfl rfl (any_of HT_.out (by kernel_rfl)) (fun _ _ _ h => h) (Or.inl ⟨by rfl, ?_⟩) ?_ ?_
      rotate_left
      ·intro w'
       go_simp
       with_reducible rfl
      rotate_left
      ·simp only [Act.put, List.setIfInBounds_toArray, List.set_cons_zero, List.set_cons_succ, i64_w, i32_w]
       rfl
      refine pure_ (i := 2) (N := some 17) (v := ?_) (a' := ?_) #[true, false, true, false, false, false, false, false, false, false, false] rfl rfl (any_of HT_.out (by kernel_rfl)) (fun _ _ _ h => h) (Or.inl ⟨by rfl, ?_⟩) ?_ ?_
      rotate_left
      ·intro w'
       go_simp
       with_reducible rfl
      rotate_left
      ·simp only [Act.put, List.setIfInBounds_toArray, List.set_cons_zero, List.set_cons_succ, i64_w, i32_w]
       rfl
      refine pure_ (i := 4) (N := some 19) (v := ?_) (a' := ?_) #[true, false, true, false, true, false, false, false, false, false, false] rfl rfl (any_of HT_.out (by kernel_rfl)) (fun _ _ _ h => h) (Or.inl ⟨by rfl, ?_⟩) ?_ ?_
      rotate_left
      ·intro w'
       go_simp
       with_reducible rfl
      rotate_left
      ·simp only [Act.put, List.setIfInBounds_toArray, List.set_cons_zero, List.set_cons_succ, i64_w, i32_w]
       rfl
      refine take_ (i := 1) (N := some 16) (v := ?_) (a' := ?_) #[true, true, true, false, true, false, false, false, false, false, false] rfl rfl (take_ofW HT_.out HW_.out (by kernel_rfl)) (fun _ _ _ h => h) (Or.inl ⟨by rfl, ?_⟩) hHeld ?_ ?_
      rotate_left
      ·rintro w' ⟨s0, s1, s2, s3, s4, s5, s6⟩
       go_simp
       with_reducible rfl
      rotate_left
      ·simp only [Act.put, List.setIfInBounds_toArray, List.set_cons_zero, List.set_cons_succ, i64_w, i32_w]
       rfl
      refine take_ (i := 3) (N := some 18) (v := ?_) (a' := ?_) #[true, true, true, true, true, false, false, false, false, false, false] rfl rfl (take_ofW HT_.out HW_.out (by kernel_rfl)) (fun _ _ _ h => h) (Or.inl ⟨by rfl, ?_⟩) hHeld ?_ ?_
      rotate_left
      ·rintro w' ⟨s0, s1, s2, s3, s4, s5, s6⟩
       go_simp
       with_reducible rfl
      rotate_left
      ·simp only [Act.put, List.setIfInBounds_toArray, List.set_cons_zero, List.set_cons_succ, i64_w, i32_w]
       rfl
      refine pure_ (i := 5) (N := some 20) (v := ?_) (a' := ?_) #[true, true, true, true, true, true, false, false, false, false, false] rfl rfl (any_of HT_.out (by kernel_rfl)) (fun _ _ _ h => h) (Or.inl ⟨by rfl, ?_⟩) ?_ ?_
      rotate_left
      ·intro w'
       go_simp
       with_reducible rfl
      rotate_left
      ·simp only [Act.put, List.setIfInBounds_toArray, List.set_cons_zero, List.set_cons_succ, i64_w, i32_w]
       rfl
      refine take_ (i := 6) (N := some 21) (v := ?_) (a' := ?_) #[true, true, true, true, true, true, true, false, false, false, false] rfl rfl (take_ofW HT_.out HW_.out (by kernel_rfl)) (fun _ _ _ h => h) (Or.inl ⟨by rfl, ?_⟩) hHeld ?_ ?_
      rotate_left
      ·rintro w' ⟨s0, s1, s2, s3, s4, s5, s6⟩
       go_simp
       with_reducible rfl
      rotate_left
      ·simp only [Act.put, List.setIfInBounds_toArray, List.set_cons_zero, List.set_cons_succ, i64_w, i32_w]
       rfl
      refine one_ (i := 7) (N := some 22) #[true, true, true, true, true, true, true, true, false, false, false] rfl rfl (one_of HT_.out (by kernel_rfl)) (by decide) (fun K hK => ?_)
      refine value_ (w1 := ?_) (v := ?_) (by rfl) rfl ?_ ?_
      rotate_left 2
      ·go_simp
       constructor
       ·rfl
       ·rfl
      refine hK.out _ _ ⟨(blk_cell (blk_alloc BK214.out _) 0).trans rfl, (blk_cell (blk_alloc BK214.out _) 1).trans rfl, (blk_cell (blk_alloc BK212.out _) 0).trans rfl, (blk_cell (blk_alloc BK212.out _) 1).trans rfl, (World.cell?_alloc_lt _ _ _ (World.block_lt_of_cell? _ _ (((HB.out.cell (World.block_lt_of_cell? w _ hw215_0)).trans hw215_0)))).trans (((HB.out.cell (World.block_lt_of_cell? w _ hw215_0)).trans hw215_0)), (World.cell?_alloc_lt _ _ _ (World.block_lt_of_cell? _ _ (((HB.out.cell (World.block_lt_of_cell? w _ hw215_1)).trans hw215_1)))).trans (((HB.out.cell (World.block_lt_of_cell? w _ hw215_1)).trans hw215_1)), (World.cell?_alloc_lt _ _ _ (World.block_lt_of_cell? _ _ (((HB.out.cell (World.block_lt_of_cell? w _ hw215_2)).trans hw215_2)))).trans (((HB.out.cell (World.block_lt_of_cell? w _ hw215_2)).trans hw215_2))⟩ (fun hHeld => ?_)
      clear hK K
      refine norm_ (a' := ?_) ?_ ?_
      rotate_left
      ·show Act.put _ (some 22) _ = _
       simp only [Act.put, List.setIfInBounds_toArray, List.set_cons_zero, List.set_cons_succ, i64_w, i32_w]
       rfl
      refine one_ (i := 8) (N := some 23) #[true, true, true, true, true, true, true, true, true, false, false] rfl rfl (one_of HT_.out (by kernel_rfl)) (by decide) (fun K hK => ?_)
      refine Kd.R_append_step k62 (w0 := w) w.heap.size (by rfl) (.tmp 16) (.tmp 22) 30 62 (.agg #[(.int .i64 0), (.int .i64 0), (.bool false)]) 24 rfl Try.underlying30 info62 rfl (by decide) (by omega) u215001 x215001_1 (⟨(rd_T53 l0_1 x4_1).f0, (rd_T53 l0_1 x4_1).f1, (rd_T53 l0_1 x4_1).f2⟩ : S62) [.int .i64 ((rd_T53 l0_1 x4_1).f0), .int .i64 ((rd_T53 l0_1 x4_1).f1), .bool ((rd_T53 l0_1 x4_1).f2)] (fun _ => True) (fun _ => False) rfl rfl ?aP (fun _ hk => hk.elim) ?aF ?aO ?aB ?aS ?aL ?_
      (case aP => exact k62_mkM _ _ _ (⟨(rd_T53 l0_1 x4_1).f0, (rd_T53 l0_1 x4_1).f1, (rd_T53 l0_1 x4_1).f2⟩ : S62))
      (case aB => exact (by repeat (first | (with_reducible first | exact HB.out ) )))
      (case aF => exact (fun _ _ => trivial))
      (case aO => exact (by (with_reducible repeat (fail)); exact HO_215001.out))
      (case aS => exact (below_size (by repeat (first | (with_reducible first | exact HB.out ) ))))
      (case aL => have := LMc12.out; omega)
      intro v217 w17 ho hb hg hat
      rw [← Ny216.out] at ho
      have n0_ := Aside0.mk (blk_grown (g := gb212) (o := .cells #[.int .i64 a0_0, .slice (some ad215) l0_1.length c0_1] 24 (0, 0)) (by (with_reducible repeat (fail)); exact BK212.out) hg (Kd.R_ne HO_215001.out BK212.out (by decide)))
      have n1_ := Aside0.mk (blk_grown (g := gb213) (o := .cells #[.int .i64 0, .slice none 0 0] 32 (0, 0)) (by (with_reducible repeat (fail)); exact BK213.out) hg (Kd.R_ne HO_215001.out BK213.out (by decide)))
      have n2_ := Aside0.mk (blk_grown (g := gb214) (o := .cells #[.int .i64 a0_0, u215001] 32 (0, 0)) (by (with_reducible repeat (fail)); exact BK214.out) hg (Kd.R_ne HO_215001.out BK214.out (by decide)))
      have n3_ := Aside0.mk (hb)
      have n4_ := Aside0.mk (ho)
      clear BK212
      clear BK213
      clear BK214
      clear HB
      clear HO_215001
      have BK212 := n0_
      have BK213 := n1_
      have BK214 := n2_
      have HB := n3_
      have HO218 := n4_
      clear n0_ n1_ n2_ n3_ n4_
      clear ho hb hg hat
      obtain ⟨Ao18, co18, eo18⟩ := Kd.R_slice HO218.out
      (first | subst eo18 )
      refine hK.out _ _ ⟨(blk_cell BK214.out 0).trans rfl, (blk_cell BK214.out 1).trans rfl, (blk_cell BK212.out 0).trans rfl, (blk_cell BK212.out 1).trans rfl, ((HB.out.cell (World.block_lt_of_cell? w _ hw215_0)).trans hw215_0), ((HB.out.cell (World.block_lt_of_cell? w _ hw215_1)).trans hw215_1), ((HB.out.cell (World.block_lt_of_cell? w _ hw215_2)).trans hw215_2)⟩ (fun hHeld => ?_)
      clear hK K
      refine norm_ (a' := ?_) ?_ ?_
      rotate_left
      ·show Act.put _ (some 23) _ = _
       simp only [Act.put, List.setIfInBounds_toArray, List.set_cons_zero, List.set_cons_succ, i64_w, i32_w]
       rfl
      refine pure_ (i := 9) (N := some 24) (v := ?_) (a' := ?_) #[true, true, true, true, true, true, true, true, true, true, false] rfl rfl (any_of HT_.out (by kernel_rfl)) (fun _ _ _ h => h) (Or.inl ⟨by rfl, ?_⟩) ?_ ?_
      rotate_left
      ·intro w'
       go_simp
       with_reducible rfl
      rotate_left
      ·simp only [Act.put, List.setIfInBounds_toArray, List.set_cons_zero, List.set_cons_succ, i64_w, i32_w]
       rfl
      refine last_ (i := 10) (N := none) #[true, true, true, true, true, true, true, true, true, true, true] rfl rfl (one_of HT_.out (by kernel_rfl)) (by decide) (fun K hK => ?_)
      have hs19 : w17.cell? ⟨gb214, 1, none⟩ = some (u215001) := (blk_cell BK214.out 1).trans rfl
      have hfs19 := blk_frozen BK214.out 1
      have hns19_0 := NB212_214.out
      have hns19_1 := NB213_214.out
      have hms19_0 := NB214_212.out
      have hms19_1 := NB214_213.out
      refine skip_ (w1 := ?_) (by rfl) rfl ?_ ?_
      rotate_left
      ·go_simp
       rfl
      refine hK.out _ _ ?_
      clear hK K
      refine done_ (done_of HT_.out (by kernel_rfl)) ?_
      try go_wp2
      go_roundg k1
      case measure => have := HK1.out; omega
      case rel => exact ⟨(wrap64 (x4_1 + 1)), (y216), (.slice Ao18 y216.length co18), (by first | rfl ), H', ⟨by have := HK1.out; omega⟩, ⟨by (with_reducible repeat (fail)); exact Kd.R_mono (Kd.R_far (p := ⟨gb214, 1, none⟩) (Kd.R_types HO218.out BK214.out (by decide)) (fun _ hk => hk.2) (.slice Ao18 y216.length co18)) (fun _ hk => trivial)⟩, ⟨by (with_reducible repeat (fail)); refine blk_far ?_ NB212_214.out _; (with_reducible repeat (fail)); exact BK212.out⟩, ⟨by (with_reducible repeat (fail)); refine blk_far ?_ NB213_214.out _; (with_reducible repeat (fail)); exact BK213.out⟩, ⟨by (with_reducible repeat (fail)); refine blk_put (cs := #[.int .i64 a0_0, u215001]) ?_ 1 _ rfl; (with_reducible repeat (fail)); exact BK214.out⟩, ⟨by repeat (first | (with_reducible first | exact HB.out | refine below_set ?_ GE214.out) )⟩⟩
     ·rw [if_neg c12] at H
      exact absurd H (by simp)
    ·rw [if_neg c11] at H
     exact absurd H (by simp)
   ·rw [if_neg c10] at H
    have c10b0 : decide (x4_1 < (l0_1.length : Int)) = false := decide_eq_false c10
    clear c10
    simp only [Option.some.injEq, Prod.mk.injEq] at H
    obtain ⟨rfl, rfl⟩ := H
    have hnb20 := NB212_213.out
    have hnc20 := NB213_212.out
    have hnb21 := NB212_214.out
    have hnc21 := NB214_212.out
    have hcz22_0 : wr.cell? ⟨gb212, 0, none⟩ = some (.int .i64 a0_0) := (blk_cell BK212.out 0).trans rfl
    have hcz22_1 : wr.cell? ⟨gb212, 1, none⟩ = some (.slice A0_1 l0_1.length c0_1) := (blk_cell BK212.out 1).trans rfl
    have hfz22_0 := blk_frozen BK212.out 0
    have hfz22_1 := blk_frozen BK212.out 1
    have hnb23 := NB214_213.out
    have hnc23 := NB213_214.out
    have hcz24_0 : wr.cell? ⟨gb214, 0, none⟩ = some (.int .i64 a0_0) := (blk_cell BK214.out 0).trans rfl
    have hcz24_1 : wr.cell? ⟨gb214, 1, none⟩ = some (u215001) := (blk_cell BK214.out 1).trans rfl
    have hfz24_0 := blk_frozen BK214.out 0
    have hfz24_1 := blk_frozen BK214.out 1
    have hcz25_0 : wr.cell? ⟨gb213, 0, none⟩ = some (.int .i64 0) := (blk_cell BK213.out 0).trans rfl
    have hcz25_1 : wr.cell? ⟨gb213, 1, none⟩ = some (.slice none 0 0) := (blk_cell BK213.out 1).trans rfl
    have hfz25_0 := blk_frozen BK213.out 0
    have hfz25_1 := blk_frozen BK213.out 1
    obtain ⟨Ao26, co26, eo26⟩ := Kd.R_slice HO_215001.out
    subst eo26
    go_wp2
    refine bodyPost_ret (results_cell_row rfl _ _ gb213 32 #[.int .i64 a0_0, .slice Ao26 x215001_1.length co26] (0, 0) _ rfl (by (with_reducible repeat (fail)); refine blk_put (cs := #[.int .i64 a0_0, .slice none 0 0]) ?_ 1 _ rfl; (with_reducible repeat (fail)); refine blk_put (cs := #[.int .i64 0, .slice none 0 0]) ?_ 0 _ rfl; (with_reducible repeat (fail)); exact BK213.out) Try.underlying32 rfl (by kernel_rfl)) rfl ?_
    exact ⟨_, by first | rfl , by (with_reducible repeat (fail)); exact Kd.R_mono (Kd.R_far (p := ⟨gb213, 1, none⟩) (Kd.R_far (p := ⟨gb213, 0, none⟩) (Kd.R_types HO_215001.out BK213.out (by decide)) (fun _ hk => hk.2) (.int .i64 a0_0)) (fun _ hk => hk.2) (.slice Ao26 x215001_1.length co26)) (fun _ hk => trivial), by repeat (first | (with_reducible first | exact HB.out | refine below_set ?_ GE213.out ) )⟩

end Go.Proofs.Ytpdalofhekmbeaa.PViewReads
