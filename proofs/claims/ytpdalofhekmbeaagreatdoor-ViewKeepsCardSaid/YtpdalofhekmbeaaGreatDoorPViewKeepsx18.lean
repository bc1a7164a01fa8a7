-- Written by a program of this session over the kit's printer (with contracts of the session's own).
import Derived.Test.YtpdalofhekmbeaaGreatDoorPViewKeepsx0
import Derived.Test.YtpdalofhekmbeaaGreatDoorPViewKeepsx3
import Derived.Test.YtpdalofhekmbeaaGreatDoorPViewKeepsx7
import Derived.Test.YtpdalofhekmbeaaGreatDoorPViewKeepsx14
import Derived.Test.YtpdalofhekmbeaaGreatDoorPViewKeepsx16
import Derived.Test.YtpdalofhekmbeaaGreatDoorPViewKeepsx17
namespace Go.Proofs.YtpdalofhekmbeaaGreatDoor.PViewKeeps
open Go.RowKit Go.Proofs.YtpdalofhekmbeaaGreatDoorW.PrintWords Go.Proofs.YtpdalofhekmbeaaGreatDoorW.PrintLast Go.Proofs.YtpdalofhekmbeaaGreatDoorW.PrintMore
attribute [local go_sem] max2_int min2_int max_two min_two max_three min_three max_four min_four   -- for this text's walks alone
set_option linter.unusedVariables false
set_option linter.unusedSimpArgs false

/-! ### caduceuslaw14_ViewKeeps: function 3 -/
mutual
def caduceuslaw14_ViewKeeps.j0 : Nat → ByteArray → Bool → Int → List (S53) → Int → List (S53) → Option (Bool)
 | 0, _, _, _, _, _, _ => none
 | k + 1, x2, x22, x364000, x364001, x365000, x365001 => if x22 = true then ((caduceuslaw14_awake.f k).bind fun t367 => (some t367)) else ((caduceuslaw14_Ref.f k x364000 x364001).bind fun bt368 => ((caduceusref14_Heirs.f k bt368.1 bt368.2 x2).bind fun t372 => ((view_Owner.f k x364000 x364001 x2).bind fun bt375 => (if (bt375.2 != (decide ((t372.length : Int) > 0))) = true then none else (if bt375.2 = true then (if 0 < (t372.length : Int) then (if bt375.1 = (rd t372 0) then (caduceuslaw14_ViewKeeps.j1 k x2 t372 false x364000 x364001 x365000 x365001) else none) else (none)) else (caduceuslaw14_ViewKeeps.j1 k x2 t372 (bt375.1 != 0) x364000 x364001 x365000 x365001))))))
def caduceuslaw14_ViewKeeps.j1 : Nat → ByteArray → List Int → Bool → Int → List (S53) → Int → List (S53) → Option (Bool)
 | 0, _, _, _, _, _, _, _ => none
 | k + 1, x2, x7, x56, x364000, x364001, x365000, x365001 => if x56 = true then none else ((caduceuslaw14_awake.f k).bind fun t378 => (if t378 = true then ((view_Heirs.f k x364000 x364001 x2).bind fun t379 => ((caduceusref10_Same.f k t379 x7).bind fun t382 => (if t382 = true then ((view_Gone.f k x364000 x364001 x365000 x365001).bind fun t383 => ((caduceuslaw14_Ref.f k x364000 x364001).bind fun bt386 => ((caduceuslaw14_Ref.f k x365000 x365001).bind fun bt390 => ((caduceusref14_Gone.f k bt386.1 bt386.2 bt390.1 bt390.2).bind fun t394 => ((caduceusref10_Same.f k t383 t394).bind fun t397 => (some t397)))))) else none))) else none))
end
def caduceuslaw14_ViewKeeps.f (k : Nat) (a0_0 : Int) (l0_1 : List (S53)) (a1_0 : Int) (l1_1 : List (S53)) (a2 : ByteArray) : Option (Bool) := (caduceuslaw14_few.f a0_0 l0_1).bind fun t365 => (if t365 = true then ((caduceuslaw14_few.f a1_0 l1_1).bind fun t366 => (if t366 = true then (caduceuslaw14_ViewKeeps.j0 k a2 (decide ((a2.size : Int) > 200)) a0_0 l0_1 a1_0 l1_1) else (caduceuslaw14_ViewKeeps.j0 k a2 true a0_0 l0_1 a1_0 l1_1))) else (caduceuslaw14_ViewKeeps.j0 k a2 true a0_0 l0_1 a1_0 l1_1))
theorem caduceuslaw14_ViewKeeps.mono_l : ∀ k, (∀ y0 y1 y2 y3 y4 y5, LeO (caduceuslaw14_ViewKeeps.j0 k y0 y1 y2 y3 y4 y5) (caduceuslaw14_ViewKeeps.j0 (k + 1) y0 y1 y2 y3 y4 y5)) ∧ (∀ y0 y1 y2 y3 y4 y5 y6, LeO (caduceuslaw14_ViewKeeps.j1 k y0 y1 y2 y3 y4 y5 y6) (caduceuslaw14_ViewKeeps.j1 (k + 1) y0 y1 y2 y3 y4 y5 y6))
 | 0 => ⟨fun _ _ _ _ _ _ r h => by simp [caduceuslaw14_ViewKeeps.j0] at h, fun _ _ _ _ _ _ _ r h => by simp [caduceuslaw14_ViewKeeps.j1] at h⟩
 | k + 1 => by
  obtain ⟨ih0, ih1⟩ := caduceuslaw14_ViewKeeps.mono_l k
  refine ⟨?_, ?_⟩
  ·intro y0 y1 y2 y3 y4 y5
   unfold caduceuslaw14_ViewKeeps.j0
   repeat' first
   | (with_reducible exact ih1 _ _ _ _ _ _ _)
   | (with_reducible exact caduceuslaw14_Ref.mono _ _ _)
   | (with_reducible exact caduceuslaw14_awake.mono _)
   | (with_reducible exact caduceusref14_Heirs.mono _ _ _ _)
   | (with_reducible exact view_Owner.mono _ _ _ _)
   | (with_reducible exact LeO.refl _)
   | (with_reducible refine LeO.ite ?_ ?_)
   | (with_reducible refine LeO.bind ?_ (fun _ => ?_))

  ·intro y0 y1 y2 y3 y4 y5 y6
   unfold caduceuslaw14_ViewKeeps.j1
   repeat' first
   | (with_reducible exact caduceuslaw14_Ref.mono _ _ _)
   | (with_reducible exact caduceuslaw14_awake.mono _)
   | (with_reducible exact caduceusref10_Same.mono _ _ _)
   | (with_reducible exact caduceusref14_Gone.mono _ _ _ _ _)
   | (with_reducible exact view_Gone.mono _ _ _ _ _)
   | (with_reducible exact view_Heirs.mono _ _ _ _)
   | (with_reducible exact LeO.refl _)
   | (with_reducible refine LeO.ite ?_ ?_)
   | (with_reducible refine LeO.bind ?_ (fun _ => ?_))

theorem caduceuslaw14_ViewKeeps.mono : ∀ a0 a1 a2 a3 a4 k, LeO (caduceuslaw14_ViewKeeps.f k a0 a1 a2 a3 a4) (caduceuslaw14_ViewKeeps.f (k + 1) a0 a1 a2 a3 a4) := by
 intro a0 a1 a2 a3 a4 k
 obtain ⟨ih0, ih1⟩ := caduceuslaw14_ViewKeeps.mono_l k
 unfold caduceuslaw14_ViewKeeps.f
 repeat' first
   | (with_reducible exact ih0 _ _ _ _ _ _)
   | (with_reducible exact LeO.refl _)
   | (with_reducible refine LeO.ite ?_ ?_)
   | (with_reducible refine LeO.bind ?_ (fun _ => ?_))

def caduceuslaw14_ViewKeeps.T7 : Bool × List (List Nat × List Nat) := (true, [([], []), ([0, 0], [0]), ([1], [1]), ([1], [1]), ([2, 3, 1, 1], [1, 2, 3]), ([1], [1]), ([4, 5, 4, 1], [1, 4, 5]), ([1, 6], [1, 6]), ([7, 6], [7]), ([8], [8]), ([8], [8]), ([9, 10, 8, 8], [8, 9, 10]), ([8], [8]), ([12, 11, 8], [8, 12]), ([8], [8]), ([14, 13, 8], [8, 14]), ([13, 15, 15, 8], [8, 13, 15]), ([11, 16, 16, 8], [8, 11, 16]), ([8, 17], [8, 17]), ([18, 17, 0, 1, 2, 3, 4, 5, 6, 7, 8, 9, 10, 11, 12, 13, 14, 15, 16, 17, 18], [18])])
def caduceuslaw14_ViewKeeps.B7 : List Nat := [0, 1, 3, 3, 15, 3, 63, 127, 255, 511, 511, 2047, 511, 8191, 511, 32767, 65535, 131071, 262143, 524287]
theorem caduceuslaw14_ViewKeeps.tab7 : rtab .any (opsOf Tryz.f3 7) = caduceuslaw14_ViewKeeps.T7 := by kernel_rfl
theorem caduceuslaw14_ViewKeeps.bits7 : waitsOk caduceuslaw14_ViewKeeps.T7.2 caduceuslaw14_ViewKeeps.B7 = true := by kernel_rfl
set_option maxHeartbeats 8000000 in
set_option maxRecDepth 100000 in
theorem caduceuslaw14_ViewKeeps.calls (k : Nat) (a0_0 : Int) (A0_1 : Option Addr) (c0_1 : Nat) (l0_1 : List (S53)) (a1_0 : Int) (A1_1 : Option Addr) (c1_1 : Nat) (l1_1 : List (S53)) (a2 : ByteArray) (r : Bool) (w : World) (hr0_1 : Kd.C k53 w A0_1 l0_1.length l0_1) (hc0_1 : l0_1.length ≤ c0_1) (hr1_1 : Kd.C k53 w A1_1 l1_1.length l1_1) (hc1_1 : l1_1.length ≤ c1_1) (h : caduceuslaw14_ViewKeeps.f k a0_0 l0_1 a1_0 l1_1 a2 = some r) (hT : NC.TabW w) :
  Calls Tryz.prog 3 #[.agg #[.int .i64 a0_0, .slice A0_1 l0_1.length c0_1], .agg #[.int .i64 a1_0, .slice A1_1 l1_1.length c1_1], .string a2] w fun e w' => e = .returned (.bool r) ∧ Below w.heap.size w w' := by
 have HT := Aside0.mk hT
 clear hT
 have hu24 := Tryz.underlying24
 have HR0_1 := Aside0.mk hr0_1
 have HC0_1 := Aside0.mk hc0_1
 clear hr0_1 hc0_1
 have HR1_1 := Aside0.mk hr1_1
 have HC1_1 := Aside0.mk hc1_1
 clear hr1_1 hc1_1
 have HB := Aside0.mk (Below.refl w.heap.size w)
 have H : ((caduceuslaw14_few.f a0_0 l0_1).bind fun t365 => (if t365 = true then ((caduceuslaw14_few.f a1_0 l1_1).bind fun t366 => (if t366 = true then (caduceuslaw14_ViewKeeps.j0 k a2 (decide ((a2.size : Int) > 200)) a0_0 l0_1 a1_0 l1_1) else (caduceuslaw14_ViewKeeps.j0 k a2 true a0_0 l0_1 a1_0 l1_1))) else (caduceuslaw14_ViewKeeps.j0 k a2 true a0_0 l0_1 a1_0 l1_1))) = some r := h
 clear h
 have HC4 := Aside0.mk H
 clear H
 go_enter Tryz.func3, Tryz.ntmps3
 go_upto_region 1 with (first | ((with_reducible refine gate_dst (N := 3) rfl ?_); (try (refine gate_guard (by rfl) ?_; dsimp only)); refine box_event ?hg (N := 3) ?hd (cs := #[.int .i64 a0_0, .slice A0_1 l0_1.length c0_1]) (t := 24) ?hr ?_; (case hd => rfl); (case hg => rfl); (case hr => first | (go_simp; done) ); intro gb363 hg w5 hbox hb; have n0_ := Aside0.mk (below_step (by repeat (first | (with_reducible first | exact HB.out ) )) hb); have n1_ := Aside0.mk (hbox); have n2_ := Aside0.mk ((by rw [hg]; exact (below_size (by repeat (first | (with_reducible first | exact HB.out ) ))) : w.heap.size ≤ gb363)); have n3_ := Aside0.mk ((by rw [hg]; exact (below_size (by repeat (first | (with_reducible first | exact HB.out ) ))) : w.heap.size ≤ gb363)); clear HB; have HB := n0_; have BK363 := n1_; have GW363 := n2_; have GE363 := n3_; clear n0_ n1_ n2_ n3_; clear hb hbox hg) | ((with_reducible refine gate_dst (N := 4) rfl ?_); (try (refine gate_guard (by rfl) ?_; dsimp only)); refine box_event ?hg (N := 4) ?hd (cs := #[.int .i64 a1_0, .slice A1_1 l1_1.length c1_1]) (t := 24) ?hr ?_; (case hd => rfl); (case hg => rfl); (case hr => first | (go_simp; done) ); intro gb364 hg w6 hbox hb; have n0_ := Aside0.mk (blk_below (g := gb363) (o := .cells #[.int .i64 a0_0, .slice A0_1 l0_1.length c0_1] 24 (0, 0)) (by (with_reducible repeat (fail)); exact BK363.out) hb); have n1_ := Aside0.mk (below_step (by repeat (first | (with_reducible first | exact HB.out ) )) hb); have n2_ := Aside0.mk (hbox); have n3_ := Aside0.mk ((by rw [hg]; exact (below_size (by repeat (first | (with_reducible first | exact HB.out ) ))) : w.heap.size ≤ gb364)); have n4_ := Aside0.mk ((by rw [hg]; exact (below_size (by repeat (first | (with_reducible first | exact HB.out ) ))) : w.heap.size ≤ gb364)); have n5_ := Aside0.mk ((by rw [hg]; exact Nat.ne_of_lt (blk_lt (g := gb363) (o := .cells #[.int .i64 a0_0, .slice A0_1 l0_1.length c0_1] 24 (0, 0)) (by (with_reducible repeat (fail)); exact BK363.out)) : gb363 ≠ gb364)); have n6_ := Aside0.mk ((by rw [hg]; exact Nat.ne_of_gt (blk_lt (g := gb363) (o := .cells #[.int .i64 a0_0, .slice A0_1 l0_1.length c0_1] 24 (0, 0)) (by (with_reducible repeat (fail)); exact BK363.out)) : gb364 ≠ gb363)); clear BK363; clear HB; have BK363 := n0_; have HB := n1_; have BK364 := n2_; have GW364 := n3_; have GE364 := n4_; have NB363_364 := n5_; have NB364_363 := n6_; clear n0_ n1_ n2_ n3_ n4_ n5_ n6_; clear hb hbox hg))
 (try simp only [Act.put, List.setIfInBounds_toArray, List.set_cons_zero, List.set_cons_succ])
 go_cut [22] (fun v22 wc => ∃ (kq : Nat) (x22_3 : Bool), v22 = .bool x22_3 ∧ Aside0 (caduceuslaw14_ViewKeeps.j0 kq a2 x22_3 a0_0 l0_1 a1_0 l1_1 = some r) ∧ Aside0 (kq ≤ k) ∧ Aside0 (wc.heap[gb363]? = some (.cells #[.int .i64 a0_0, (.slice A0_1 l0_1.length c0_1)] 24 (0, 0))) ∧ Aside0 (wc.heap[gb364]? = some (.cells #[.int .i64 a1_0, (.slice A1_1 l1_1.length c1_1)] 24 (0, 0))) ∧ Aside0 (Below w.heap.size w wc))
 case first =>
  have H := HC4.out
  clear HC4
  replace H := Option.bind_eq_some_iff.mp H
  obtain ⟨t365, A70, H⟩ := H
  replace H : (if t365 = true then ((caduceuslaw14_few.f a1_0 l1_1).bind fun t366 => (if t366 = true then (caduceuslaw14_ViewKeeps.j0 k a2 (decide ((a2.size : Int) > 200)) a0_0 l0_1 a1_0 l1_1) else (caduceuslaw14_ViewKeeps.j0 k a2 true a0_0 l0_1 a1_0 l1_1))) else (caduceuslaw14_ViewKeeps.j0 k a2 true a0_0 l0_1 a1_0 l1_1)) = some r := H
  have A7 := Aside0.mk A70
  clear A70
  by_cases c8 : t365 = true
  ·subst c8
   have H1 : ((caduceuslaw14_few.f a1_0 l1_1).bind fun t366 => (if t366 = true then (caduceuslaw14_ViewKeeps.j0 k a2 (decide ((a2.size : Int) > 200)) a0_0 l0_1 a1_0 l1_1) else (caduceuslaw14_ViewKeeps.j0 k a2 true a0_0 l0_1 a1_0 l1_1))) = some r := by rw [if_pos rfl] at H; exact H
   clear H
   have H := H1
   clear H1
   replace H := Option.bind_eq_some_iff.mp H
   obtain ⟨t366, A90, H⟩ := H
   replace H : (if t366 = true then (caduceuslaw14_ViewKeeps.j0 k a2 (decide ((a2.size : Int) > 200)) a0_0 l0_1 a1_0 l1_1) else (caduceuslaw14_ViewKeeps.j0 k a2 true a0_0 l0_1 a1_0 l1_1)) = some r := H
   have A9 := Aside0.mk A90
   clear A90
   by_cases c10 : t366 = true
   ·subst c10
    have H1 : (caduceuslaw14_ViewKeeps.j0 k a2 (decide ((a2.size : Int) > 200)) a0_0 l0_1 a1_0 l1_1) = some r := by rw [if_pos rfl] at H; exact H
    clear H
    have H := H1
    clear H1
    have H' := Aside0.mk H
    clear H
    have hnb11 := NB363_364.out
    have hnc11 := NB364_363.out
    have hcz12_0 : w6.cell? ⟨gb363, 0, none⟩ = some (.int .i64 a0_0) := (blk_cell BK363.out 0).trans rfl
    have hcz12_1 : w6.cell? ⟨gb363, 1, none⟩ = some (.slice A0_1 l0_1.length c0_1) := (blk_cell BK363.out 1).trans rfl
    have hfz12_0 := blk_frozen BK363.out 0
    have hfz12_1 := blk_frozen BK363.out 1
    go_wp2_with (first | ((with_reducible refine gate_callee (f := 4) rfl ?_); refine goesL_ (some 11) rfl rfl Tryz.func4 (by kernel_rfl) rfl #[.agg #[.int .i64 a0_0, .slice A0_1 l0_1.length c0_1]] rfl (by (try simp only [List.map_toArray, List.map_cons, List.map_nil]); first | rfl ) ?_; (with_reducible refine (caduceuslaw14_few.calls a0_0 _ _ l0_1 true _ ?side1 ?side2 A7.out).mono ?_); (case side1 => repeat (first | exact (Kd.C_below HR0_1.out HB.out) )); (case side2 => exact HC0_1.out); rintro e w13 ⟨rfl, hb⟩; refine ⟨_, rfl, ?_⟩; have n0_ := Aside0.mk (blk_below (g := gb363) (o := .cells #[.int .i64 a0_0, .slice A0_1 l0_1.length c0_1] 24 (0, 0)) (by (with_reducible repeat (fail)); exact BK363.out) hb); have n1_ := Aside0.mk (blk_below (g := gb364) (o := .cells #[.int .i64 a1_0, .slice A1_1 l1_1.length c1_1] 24 (0, 0)) (by (with_reducible repeat (fail)); exact BK364.out) hb); have n2_ := Aside0.mk (below_step (by repeat (first | (with_reducible first | exact HB.out ) )) hb); clear BK363; clear BK364; clear HB; have BK363 := n0_; have BK364 := n1_; have HB := n2_; clear n0_ n1_ n2_; (try clear hb); (try clear hb2); (try clear hk); (try clear hi); have hcz14_0 : w13.cell? ⟨gb364, 0, none⟩ = some (.int .i64 a1_0) := (blk_cell BK364.out 0).trans rfl; have hcz14_1 : w13.cell? ⟨gb364, 1, none⟩ = some (.slice A1_1 l1_1.length c1_1) := (blk_cell BK364.out 1).trans rfl; have hfz14_0 := blk_frozen BK364.out 0; have hfz14_1 := blk_frozen BK364.out 1) | (go_at_call 4; (with_reducible refine (caduceuslaw14_few.calls a1_0 _ _ l1_1 true _ ?side1 ?side2 A9.out).mono ?_); (case side1 => repeat (first | exact (Kd.C_below HR1_1.out HB.out) )); (case side2 => exact HC1_1.out); rintro e w15 ⟨rfl, hb⟩; have n0_ := Aside0.mk (blk_below (g := gb363) (o := .cells #[.int .i64 a0_0, .slice A0_1 l0_1.length c0_1] 24 (0, 0)) (by (with_reducible repeat (fail)); exact BK363.out) hb); have n1_ := Aside0.mk (blk_below (g := gb364) (o := .cells #[.int .i64 a1_0, .slice A1_1 l1_1.length c1_1] 24 (0, 0)) (by (with_reducible repeat (fail)); exact BK364.out) hb); have n2_ := Aside0.mk (below_step (by repeat (first | (with_reducible first | exact HB.out ) )) hb); clear BK363; clear BK364; clear HB; have BK363 := n0_; have BK364 := n1_; have HB := n2_; clear n0_ n1_ n2_; (try clear hb); (try clear hb2); (try clear hk); (try clear hi)))
    go_meet
    case rel => exact ⟨_, (decide ((a2.size : Int) > 200)), (by first | rfl ), H', ⟨by first | omega ⟩, ⟨by (with_reducible repeat (fail)); exact BK363.out⟩, ⟨by (with_reducible repeat (fail)); exact BK364.out⟩, ⟨by repeat (first | (with_reducible first | exact HB.out ) )⟩⟩
   ·replace c10 := Bool.eq_false_iff.mpr c10
    subst c10
    have H1 : (caduceuslaw14_ViewKeeps.j0 k a2 true a0_0 l0_1 a1_0 l1_1) = some r := by rw [if_neg (show ¬ (false = true) by decide)] at H; exact H
    clear H
    have H := H1
    clear H1
    have H' := Aside0.mk H
    clear H
    have hnb16 := NB363_364.out
    have hnc16 := NB364_363.out
    have hcz17_0 : w6.cell? ⟨gb363, 0, none⟩ = some (.int .i64 a0_0) := (blk_cell BK363.out 0).trans rfl
    have hcz17_1 : w6.cell? ⟨gb363, 1, none⟩ = some (.slice A0_1 l0_1.length c0_1) := (blk_cell BK363.out 1).trans rfl
    have hfz17_0 := blk_frozen BK363.out 0
    have hfz17_1 := blk_frozen BK363.out 1
    go_wp2_with (first | ((with_reducible refine gate_callee (f := 4) rfl ?_); refine goesL_ (some 11) rfl rfl Tryz.func4 (by kernel_rfl) rfl #[.agg #[.int .i64 a0_0, .slice A0_1 l0_1.length c0_1]] rfl (by (try simp only [List.map_toArray, List.map_cons, List.map_nil]); first | rfl ) ?_; (with_reducible refine (caduceuslaw14_few.calls a0_0 _ _ l0_1 true _ ?side1 ?side2 A7.out).mono ?_); (case side1 => repeat (first | exact (Kd.C_below HR0_1.out HB.out) )); (case side2 => exact HC0_1.out); rintro e w18 ⟨rfl, hb⟩; refine ⟨_, rfl, ?_⟩; have n0_ := Aside0.mk (blk_below (g := gb363) (o := .cells #[.int .i64 a0_0, .slice A0_1 l0_1.length c0_1] 24 (0, 0)) (by (with_reducible repeat (fail)); exact BK363.out) hb); have n1_ := Aside0.mk (blk_below (g := gb364) (o := .cells #[.int .i64 a1_0, .slice A1_1 l1_1.length c1_1] 24 (0, 0)) (by (with_reducible repeat (fail)); exact BK364.out) hb); have n2_ := Aside0.mk (below_step (by repeat (first | (with_reducible first | exact HB.out ) )) hb); clear BK363; clear BK364; clear HB; have BK363 := n0_; have BK364 := n1_; have HB := n2_; clear n0_ n1_ n2_; (try clear hb); (try clear hb2); (try clear hk); (try clear hi); have hcz19_0 : w18.cell? ⟨gb364, 0, none⟩ = some (.int .i64 a1_0) := (blk_cell BK364.out 0).trans rfl; have hcz19_1 : w18.cell? ⟨gb364, 1, none⟩ = some (.slice A1_1 l1_1.length c1_1) := (blk_cell BK364.out 1).trans rfl; have hfz19_0 := blk_frozen BK364.out 0; have hfz19_1 := blk_frozen BK364.out 1) | (go_at_call 4; (with_reducible refine (caduceuslaw14_few.calls a1_0 _ _ l1_1 false _ ?side1 ?side2 A9.out).mono ?_); (case side1 => repeat (first | exact (Kd.C_below HR1_1.out HB.out) )); (case side2 => exact HC1_1.out); rintro e w20 ⟨rfl, hb⟩; have n0_ := Aside0.mk (blk_below (g := gb363) (o := .cells #[.int .i64 a0_0, .slice A0_1 l0_1.length c0_1] 24 (0, 0)) (by (with_reducible repeat (fail)); exact BK363.out) hb); have n1_ := Aside0.mk (blk_below (g := gb364) (o := .cells #[.int .i64 a1_0, .slice A1_1 l1_1.length c1_1] 24 (0, 0)) (by (with_reducible repeat (fail)); exact BK364.out) hb); have n2_ := Aside0.mk (below_step (by repeat (first | (with_reducible first | exact HB.out ) )) hb); clear BK363; clear BK364; clear HB; have BK363 := n0_; have BK364 := n1_; have HB := n2_; clear n0_ n1_ n2_; (try clear hb); (try clear hb2); (try clear hk); (try clear hi)))
    go_meet
    case rel => exact ⟨_, (true), (by first | rfl ), H', ⟨by first | omega ⟩, ⟨by (with_reducible repeat (fail)); exact BK363.out⟩, ⟨by (with_reducible repeat (fail)); exact BK364.out⟩, ⟨by repeat (first | (with_reducible first | exact HB.out ) )⟩⟩
  ·replace c8 := Bool.eq_false_iff.mpr c8
   subst c8
   have H1 : (caduceuslaw14_ViewKeeps.j0 k a2 true a0_0 l0_1 a1_0 l1_1) = some r := by rw [if_neg (show ¬ (false = true) by decide)] at H; exact H
   clear H
   have H := H1
   clear H1
   have H' := Aside0.mk H
   clear H
   have hnb21 := NB363_364.out
   have hnc21 := NB364_363.out
   have hcz22_0 : w6.cell? ⟨gb363, 0, none⟩ = some (.int .i64 a0_0) := (blk_cell BK363.out 0).trans rfl
   have hcz22_1 : w6.cell? ⟨gb363, 1, none⟩ = some (.slice A0_1 l0_1.length c0_1) := (blk_cell BK363.out 1).trans rfl
   have hfz22_0 := blk_frozen BK363.out 0
   have hfz22_1 := blk_frozen BK363.out 1
   go_wp2_with (first | ((with_reducible refine gate_callee (f := 4) rfl ?_); refine goesL_ (some 11) rfl rfl Tryz.func4 (by kernel_rfl) rfl #[.agg #[.int .i64 a0_0, .slice A0_1 l0_1.length c0_1]] rfl (by (try simp only [List.map_toArray, List.map_cons, List.map_nil]); first | rfl ) ?_; (with_reducible refine (caduceuslaw14_few.calls a0_0 _ _ l0_1 false _ ?side1 ?side2 A7.out).mono ?_); (case side1 => repeat (first | exact (Kd.C_below HR0_1.out HB.out) )); (case side2 => exact HC0_1.out); rintro e w23 ⟨rfl, hb⟩; refine ⟨_, rfl, ?_⟩; have n0_ := Aside0.mk (blk_below (g := gb363) (o := .cells #[.int .i64 a0_0, .slice A0_1 l0_1.length c0_1] 24 (0, 0)) (by (with_reducible repeat (fail)); exact BK363.out) hb); have n1_ := Aside0.mk (blk_below (g := gb364) (o := .cells #[.int .i64 a1_0, .slice A1_1 l1_1.length c1_1] 24 (0, 0)) (by (with_reducible repeat (fail)); exact BK364.out) hb); have n2_ := Aside0.mk (below_step (by repeat (first | (with_reducible first | exact HB.out ) )) hb); clear BK363; clear BK364; clear HB; have BK363 := n0_; have BK364 := n1_; have HB := n2_; clear n0_ n1_ n2_; (try clear hb); (try clear hb2); (try clear hk); (try clear hi)))
   go_meet
   case rel => exact ⟨_, (true), (by first | rfl ), H', ⟨by first | omega ⟩, ⟨by (with_reducible repeat (fail)); exact BK363.out⟩, ⟨by (with_reducible repeat (fail)); exact BK364.out⟩, ⟨by repeat (first | (with_reducible first | exact HB.out ) )⟩⟩
 case rest =>
  clear HC4
  try clear c1
  try clear c2
  try clear p2
  try clear c3
  try clear c4
  try clear c8
  try clear c10
  try clear c11
  try clear c16
  try clear c21
  try clear hcz12_0
  try clear hcz12_1
  try clear hcz14_0
  try clear hcz14_1
  try clear hcz17_0
  try clear hcz17_1
  try clear hcz19_0
  try clear hcz19_1
  try clear hcz22_0
  try clear hcz22_1
  try clear hfz12_0
  try clear hfz12_1
  try clear hfz14_0
  try clear hfz14_1
  try clear hfz17_0
  try clear hfz17_1
  try clear hfz19_0
  try clear hfz19_1
  try clear hfz22_0
  try clear hfz22_1
  obtain ⟨kq, x22_3, rfl, HA, HJ3, BK363, BK364, HB⟩ := hcut
  cases kq with
  | zero => exact absurd HA.out (by simp [caduceuslaw14_ViewKeeps.j0])
  | succ kj3 =>
   have H := HA.out
   clear HA
   simp only [caduceuslaw14_ViewKeeps.j0] at H
   by_cases c24 : x22_3 = true
   ·subst c24
    have H1 : ((caduceuslaw14_awake.f kj3).bind fun t367 => (some t367)) = some r := by rw [if_pos rfl] at H; exact H
    clear H
    have H := H1
    clear H1
    replace H := Option.bind_eq_some_iff.mp H
    obtain ⟨t367, A250, H⟩ := H
    replace H : (some t367) = some r := H
    have A25 := Aside0.mk A250
    clear A250
    obtain rfl := Option.some.inj H
    go_wp2_with (first | ((with_reducible refine gate_callee (f := 5) rfl ?_); refine goesL_ (some 23) rfl rfl Tryz.func5 (by kernel_rfl) rfl #[] rfl (by (try simp only [List.map_toArray, List.map_cons, List.map_nil]); first | done ) ?_; (with_reducible refine (caduceuslaw14_awake.calls kj3  t367 _ A25.out).mono ?_); rintro e w26 ⟨rfl, hb⟩; refine ⟨_, rfl, ?_⟩; have n0_ := Aside0.mk (blk_below (g := gb363) (o := .cells #[.int .i64 a0_0, .slice A0_1 l0_1.length c0_1] 24 (0, 0)) (by (with_reducible repeat (fail)); exact BK363.out) hb); have n1_ := Aside0.mk (blk_below (g := gb364) (o := .cells #[.int .i64 a1_0, .slice A1_1 l1_1.length c1_1] 24 (0, 0)) (by (with_reducible repeat (fail)); exact BK364.out) hb); have n2_ := Aside0.mk (below_step (by repeat (first | (with_reducible first | exact HB.out ) )) hb); clear BK363; clear BK364; clear HB; have BK363 := n0_; have BK364 := n1_; have HB := n2_; clear n0_ n1_ n2_; (try clear hb); (try clear hb2); (try clear hk); (try clear hi)))
    go_ret
    exact ⟨by first | rfl , by repeat (first | (with_reducible first | exact HB.out ) )⟩
   ·replace c24 := Bool.eq_false_iff.mpr c24
    subst c24
    have H1 : ((caduceuslaw14_Ref.f kj3 a0_0 l0_1).bind fun bt368 => ((caduceusref14_Heirs.f kj3 bt368.1 bt368.2 a2).bind fun t372 => ((view_Owner.f kj3 a0_0 l0_1 a2).bind fun bt375 => (if (bt375.2 != (decide ((t372.length : Int) > 0))) = true then none else (if bt375.2 = true then (if 0 < (t372.length : Int) then (if bt375.1 = (rd t372 0) then (caduceuslaw14_ViewKeeps.j1 kj3 a2 t372 false a0_0 l0_1 a1_0 l1_1) else none) else (none)) else (caduceuslaw14_ViewKeeps.j1 kj3 a2 t372 (bt375.1 != 0) a0_0 l0_1 a1_0 l1_1)))))) = some r := by rw [if_neg (show ¬ (false = true) by decide)] at H; exact H
    clear H
    have H := H1
    clear H1
    replace H := Option.bind_eq_some_iff.mp H
    obtain ⟨⟨t368, t369⟩, A270, H⟩ := H
    replace H : ((caduceusref14_Heirs.f kj3 t368 t369 a2).bind fun t372 => ((view_Owner.f kj3 a0_0 l0_1 a2).bind fun bt375 => (if (bt375.2 != (decide ((t372.length : Int) > 0))) = true then none else (if bt375.2 = true then (if 0 < (t372.length : Int) then (if bt375.1 = (rd t372 0) then (caduceuslaw14_ViewKeeps.j1 kj3 a2 t372 false a0_0 l0_1 a1_0 l1_1) else none) else (none)) else (caduceuslaw14_ViewKeeps.j1 kj3 a2 t372 (bt375.1 != 0) a0_0 l0_1 a1_0 l1_1))))) = some r := H
    have A27 := Aside0.mk A270
    clear A270
    replace H := Option.bind_eq_some_iff.mp H
    obtain ⟨t372, A280, H⟩ := H
    replace H : ((view_Owner.f kj3 a0_0 l0_1 a2).bind fun bt375 => (if (bt375.2 != (decide ((t372.length : Int) > 0))) = true then none else (if bt375.2 = true then (if 0 < (t372.length : Int) then (if bt375.1 = (rd t372 0) then (caduceuslaw14_ViewKeeps.j1 kj3 a2 t372 false a0_0 l0_1 a1_0 l1_1) else none) else (none)) else (caduceuslaw14_ViewKeeps.j1 kj3 a2 t372 (bt375.1 != 0) a0_0 l0_1 a1_0 l1_1)))) = some r := H
    have A28 := Aside0.mk A280
    clear A280
    replace H := Option.bind_eq_some_iff.mp H
    obtain ⟨⟨t375, t376⟩, A290, H⟩ := H
    replace H : (if (t376 != (decide ((t372.length : Int) > 0))) = true then none else (if t376 = true then (if 0 < (t372.length : Int) then (if t375 = (rd t372 0) then (caduceuslaw14_ViewKeeps.j1 kj3 a2 t372 false a0_0 l0_1 a1_0 l1_1) else none) else (none)) else (caduceuslaw14_ViewKeeps.j1 kj3 a2 t372 (t375 != 0) a0_0 l0_1 a1_0 l1_1))) = some r := H
    have A29 := Aside0.mk A290
    clear A290
    have HC30 := Aside0.mk H
    clear H
    have hnb31 := NB363_364.out
    have hnc31 := NB364_363.out
    have hcz32_0 : wc.cell? ⟨gb363, 0, none⟩ = some (.int .i64 a0_0) := (blk_cell BK363.out 0).trans rfl
    have hcz32_1 : wc.cell? ⟨gb363, 1, none⟩ = some (.slice A0_1 l0_1.length c0_1) := (blk_cell BK363.out 1).trans rfl
    have hfz32_0 := blk_frozen BK363.out 0
    have hfz32_1 := blk_frozen BK363.out 1
    go_upto_region 5 with (first | ((with_reducible refine gate_callee (f := 7) rfl ?_); refine goesL_ (some 25) rfl rfl Tryz.func7 (by kernel_rfl) rfl #[.agg #[.int .i64 a0_0, .slice A0_1 l0_1.length c0_1]] rfl (by (try simp only [List.map_toArray, List.map_cons, List.map_nil]); first | rfl ) ?_; (with_reducible refine (caduceuslaw14_Ref.calls kj3 a0_0 _ _ l0_1 t368 t369 _ ?side1 ?side2 A27.out).mono ?_); (case side1 => repeat (first | exact (Kd.C_below HR0_1.out HB.out) )); (case side2 => exact HC0_1.out); rintro e w33 ⟨v370, rfl, ho0, hb⟩; refine ⟨_, rfl, ?_⟩; have n0_ := Aside0.mk (Kd.R_lower ho0 (below_size (by repeat (first | (with_reducible first | exact HB.out ) )))); have n1_ := Aside0.mk (blk_below (g := gb363) (o := .cells #[.int .i64 a0_0, .slice A0_1 l0_1.length c0_1] 24 (0, 0)) (by (with_reducible repeat (fail)); exact BK363.out) hb); have n2_ := Aside0.mk (blk_below (g := gb364) (o := .cells #[.int .i64 a1_0, .slice A1_1 l1_1.length c1_1] 24 (0, 0)) (by (with_reducible repeat (fail)); exact BK364.out) hb); have n3_ := Aside0.mk (below_step (by repeat (first | (with_reducible first | exact HB.out ) )) hb); clear BK363; clear BK364; clear HB; have HO371 := n0_; have BK363 := n1_; have BK364 := n2_; have HB := n3_; clear n0_ n1_ n2_ n3_; (try clear hb); (try clear hb2); (try clear hk); (try clear hi); (try clear ho0); obtain ⟨Ao34, co34, eo34⟩ := Kd.R_slice HO371.out; subst eo34) | ((with_reducible refine gate_callee (f := 6) rfl ?_); refine goesL_ (some 27) rfl rfl Tryz.func6 (by kernel_rfl) rfl #[.agg #[.int .i64 t368, .slice Ao34 t369.length co34], .string a2] rfl (by (try simp only [List.map_toArray, List.map_cons, List.map_nil]); first | rfl ) ?_; (with_reducible refine (caduceusref14_Heirs.calls kj3 t368 _ _ t369 a2 t372 _ ?side1 ?side2 A28.out).mono ?_); (case side1 => repeat (first | exact (Kd.R_reads' HO371.out).2.2 )); (case side2 => exact (Kd.R_reads' HO371.out).2.1); rintro e w35 ⟨v373, rfl, ho0, hb⟩; refine ⟨_, rfl, ?_⟩; have n0_ := Aside0.mk (Kd.R_below (by (with_reducible repeat (fail)); exact HO371.out) hb); have n1_ := Aside0.mk (Kd.R_lower ho0 (below_size (by repeat (first | (with_reducible first | exact HB.out ) )))); have n2_ := Aside0.mk (blk_below (g := gb363) (o := .cells #[.int .i64 a0_0, .slice A0_1 l0_1.length c0_1] 24 (0, 0)) (by (with_reducible repeat (fail)); exact BK363.out) hb); have n3_ := Aside0.mk (blk_below (g := gb364) (o := .cells #[.int .i64 a1_0, .slice A1_1 l1_1.length c1_1] 24 (0, 0)) (by (with_reducible repeat (fail)); exact BK364.out) hb); have n4_ := Aside0.mk (below_step (by repeat (first | (with_reducible first | exact HB.out ) )) hb); clear HO371; clear BK363; clear BK364; clear HB; have HO371 := n0_; have HO374 := n1_; have BK363 := n2_; have BK364 := n3_; have HB := n4_; clear n0_ n1_ n2_ n3_ n4_; (try clear hb); (try clear hb2); (try clear hk); (try clear hi); (try clear ho0); have hcz36_0 : w35.cell? ⟨gb363, 0, none⟩ = some (.int .i64 a0_0) := (blk_cell BK363.out 0).trans rfl; have hcz36_1 : w35.cell? ⟨gb363, 1, none⟩ = some (.slice A0_1 l0_1.length c0_1) := (blk_cell BK363.out 1).trans rfl; have hfz36_0 := blk_frozen BK363.out 0; have hfz36_1 := blk_frozen BK363.out 1) | ((with_reducible refine gate_callee (f := 8) rfl ?_); refine goesL_ (some 31) rfl rfl Tryz.func8 (by kernel_rfl) rfl #[.agg #[.int .i64 a0_0, .slice A0_1 l0_1.length c0_1], .string a2] rfl (by (try simp only [List.map_toArray, List.map_cons, List.map_nil]); first | rfl ) ?_; (with_reducible refine (view_Owner.calls kj3 a0_0 _ _ l0_1 a2 t375 t376 _ ?side1 ?side2 A29.out (NC.TabW.below HT.out (by repeat (first | (with_reducible first | exact HB.out ) )))).mono ?_); (case side1 => repeat (first | exact (Kd.C_below HR0_1.out HB.out) )); (case side2 => exact HC0_1.out); rintro e w37 ⟨rfl, hb⟩; refine ⟨_, rfl, ?_⟩; have n0_ := Aside0.mk (Kd.R_below (by (with_reducible repeat (fail)); exact HO371.out) hb); have n1_ := Aside0.mk (Kd.R_below (by (with_reducible repeat (fail)); exact HO374.out) hb); have n2_ := Aside0.mk (blk_below (g := gb363) (o := .cells #[.int .i64 a0_0, .slice A0_1 l0_1.length c0_1] 24 (0, 0)) (by (with_reducible repeat (fail)); exact BK363.out) hb); have n3_ := Aside0.mk (blk_below (g := gb364) (o := .cells #[.int .i64 a1_0, .slice A1_1 l1_1.length c1_1] 24 (0, 0)) (by (with_reducible repeat (fail)); exact BK364.out) hb); have n4_ := Aside0.mk (below_step (by repeat (first | (with_reducible first | exact HB.out ) )) hb); clear HO371; clear HO374; clear BK363; clear BK364; clear HB; have HO371 := n0_; have HO374 := n1_; have BK363 := n2_; have BK364 := n3_; have HB := n4_; clear n0_ n1_ n2_ n3_ n4_; (try clear hb); (try clear hb2); (try clear hk); (try clear hi)))
    (try simp only [Act.put, List.setIfInBounds_toArray, List.set_cons_zero, List.set_cons_succ])
    go_cut [56] (fun v56 wc => ∃ (kq : Nat) (x56_29 : Bool), v56 = .bool x56_29 ∧ Aside0 (caduceuslaw14_ViewKeeps.j1 kq a2 t372 x56_29 a0_0 l0_1 a1_0 l1_1 = some r) ∧ Aside0 (kq ≤ kj3) ∧ Aside0 (Kd.R (Kd.int .i64) 3 wc w.heap.size (fun _ => True) v373 t372) ∧ Aside0 (wc.heap[gb363]? = some (.cells #[.int .i64 a0_0, (.slice A0_1 l0_1.length c0_1)] 24 (0, 0))) ∧ Aside0 (wc.heap[gb364]? = some (.cells #[.int .i64 a1_0, (.slice A1_1 l1_1.length c1_1)] 24 (0, 0))) ∧ Aside0 (Below w.heap.size w wc))
    case first =>
     have H := HC30.out
     clear HC30
     by_cases c38 : (t376 != (decide ((t372.length : Int) > 0))) = true
     ·rw [if_pos c38] at H
      cases H
     ·rw [if_neg c38] at H
      have c38b0 : (t376 != (decide ((t372.length : Int) > 0))) = false := by simpa using c38
      (try (have c38b1 : decide (t376 = (decide ((t372.length : Int) > 0))) = true := by simpa using c38))
      (try (have c38b2 : (t376 == (decide ((t372.length : Int) > 0))) = true := by simpa using c38))
      clear c38
      (first | skip)
      by_cases c40 : t376 = true
      ·subst c40
       have H1 : (if 0 < (t372.length : Int) then (if t375 = (rd t372 0) then (caduceuslaw14_ViewKeeps.j1 kj3 a2 t372 false a0_0 l0_1 a1_0 l1_1) else none) else (none)) = some r := by rw [if_pos rfl] at H; exact H
       clear H
       have H := H1
       clear H1
       by_cases c41 : 0 < (t372.length : Int)
       ·rw [if_pos c41] at H
        have c41b0 : decide (0 < (t372.length : Int)) = true := decide_eq_true c41
        have c41b1 : decide (0 < t372.length) = true := decide_eq_true (by omega)
        clear c41
        by_cases c42 : t375 = (rd t372 0)
        ·rw [if_pos c42] at H
         have c42b0 : (t375 == (rd t372 0)) = true := beq_iff_eq.mpr c42
         have c42b1 : (t375 != (rd t372 0)) = false := bne_eq_false_iff_eq.mpr c42
         clear c42
         have H' := Aside0.mk H
         clear H
         obtain ⟨Ao43, co43, eo43⟩ := Kd.R_slice HO374.out
         subst eo43
         have p377 : 0 ≤ (0 : Int) := (by omega)
         have q377 : 0 < (t372.length : Int) := of_decide_eq_true (by first | (with_reducible assumption) )
         obtain ⟨ad377, e377, hx377_0⟩ := Kd.at_int (Kd.R_reads' HO374.out).2.2 0 p377 q377
         cases e377
         have qi377 : (0 < t372.length) = True := eq_true (by omega)
         (try rw [show ((0 : Int)).toNat = 0 from rfl] at hx377_0)
         (try rw [Addr.add_zero'] at hx377_0)
         replace p377 := eq_true p377
         replace q377 := eq_true q377
         go_wp2
         go_meet
         case rel => exact ⟨_, (false), (by first | rfl ), H', ⟨by have := HJ3.out; first | omega ⟩, ⟨by (with_reducible repeat (fail)); exact HO374.out⟩, ⟨by (with_reducible repeat (fail)); exact BK363.out⟩, ⟨by (with_reducible repeat (fail)); exact BK364.out⟩, ⟨by repeat (first | (with_reducible first | exact HB.out ) )⟩⟩
        ·rw [if_neg c42] at H
         cases H
       ·rw [if_neg c41] at H
        exact absurd H (by simp)
      ·replace c40 := Bool.eq_false_iff.mpr c40
       subst c40
       have c38b9 : decide (0 < t372.length) = false := decide_eq_false (fun h_ => by rw [show decide ((t372.length : Int) > 0) = true from decide_eq_true (by omega)] at c38b0; exact absurd c38b0 (by decide))
       try clear c38b0
       try clear c38b1
       try clear c38b2
       have H1 : (caduceuslaw14_ViewKeeps.j1 kj3 a2 t372 (t375 != 0) a0_0 l0_1 a1_0 l1_1) = some r := by rw [if_neg (show ¬ (false = true) by decide)] at H; exact H
       clear H
       have H := H1
       clear H1
       have H' := Aside0.mk H
       clear H
       obtain ⟨Ao45, co45, eo45⟩ := Kd.R_slice HO374.out
       subst eo45
       go_wp2
       go_meet
       case rel => exact ⟨_, ((t375 != 0)), (by first | rfl ), H', ⟨by have := HJ3.out; first | omega ⟩, ⟨by (with_reducible repeat (fail)); exact HO374.out⟩, ⟨by (with_reducible repeat (fail)); exact BK363.out⟩, ⟨by (with_reducible repeat (fail)); exact BK364.out⟩, ⟨by repeat (first | (with_reducible first | exact HB.out ) )⟩⟩
    case rest =>
     clear HC30
     try clear c1
     try clear c2
     try clear p2
     try clear c3
     try clear p3
     try clear q3
     try clear hx3
     try clear qi3
     try clear c4
     try clear c5
     try clear c6
     try clear c7
     try clear c8
     try clear c10
     try clear c11
     try clear c16
     try clear c21
     try clear c24
     try clear c31
     try clear p37
     try clear q37
     try clear hx37
     try clear qi37
     try clear c38
     try clear c38b0
     try clear c38b1
     try clear c38b2
     try clear c40
     try clear c41
     try clear c41b0
     try clear c41b1
     try clear c42
     try clear c42b0
     try clear c42b1
     try clear hcz12_0
     try clear hcz12_1
     try clear hcz14_0
     try clear hcz14_1
     try clear hcz17_0
     try clear hcz17_1
     try clear hcz19_0
     try clear hcz19_1
     try clear hcz22_0
     try clear hcz22_1
     try clear hcz32_0
     try clear hcz32_1
     try clear hcz36_0
     try clear hcz36_1
     try clear hfz12_0
     try clear hfz12_1
     try clear hfz14_0
     try clear hfz14_1
     try clear hfz17_0
     try clear hfz17_1
     try clear hfz19_0
     try clear hfz19_1
     try clear hfz22_0
     try clear hfz22_1
     try clear hfz32_0
     try clear hfz32_1
     try clear hfz36_0
     try clear hfz36_1
     try clear hx377_0
     try clear p2
     try clear p377
     try clear q377
     obtain ⟨kq, x56_29, rfl, HA, HJ29, HO_7, BK363, BK364, HB⟩ := hcut
     cases kq with
     | zero => exact absurd HA.out (by simp [caduceuslaw14_ViewKeeps.j1])
     | succ kj29 =>
      have H := HA.out
      clear HA
      simp only [caduceuslaw14_ViewKeeps.j1] at H
      by_cases c46 : x56_29 = true
      ·subst c46
       have H1 : (none : Option _) = some r := by rw [if_pos rfl] at H; exact H
       cases H1
      ·replace c46 := Bool.eq_false_iff.mpr c46
       subst c46
       have H1 : ((caduceuslaw14_awake.f kj29).bind fun t378 => (if t378 = true then ((view_Heirs.f kj29 a0_0 l0_1 a2).bind fun t379 => ((caduceusref10_Same.f kj29 t379 t372).bind fun t382 => (if t382 = true then ((view_Gone.f kj29 a0_0 l0_1 a1_0 l1_1).bind fun t383 => ((caduceuslaw14_Ref.f kj29 a0_0 l0_1).bind fun bt386 => ((caduceuslaw14_Ref.f kj29 a1_0 l1_1).bind fun bt390 => ((caduceusref14_Gone.f kj29 bt386.1 bt386.2 bt390.1 bt390.2).bind fun t394 => ((caduceusref10_Same.f kj29 t383 t394).bind fun t397 => (some t397)))))) else none))) else none)) = some r := by rw [if_neg (show ¬ (false = true) by decide)] at H; exact H
       clear H
       have H := H1
       clear H1
       replace H := Option.bind_eq_some_iff.mp H
       obtain ⟨t378, A470, H⟩ := H
       replace H : (if t378 = true then ((view_Heirs.f kj29 a0_0 l0_1 a2).bind fun t379 => ((caduceusref10_Same.f kj29 t379 t372).bind fun t382 => (if t382 = true then ((view_Gone.f kj29 a0_0 l0_1 a1_0 l1_1).bind fun t383 => ((caduceuslaw14_Ref.f kj29 a0_0 l0_1).bind fun bt386 => ((caduceuslaw14_Ref.f kj29 a1_0 l1_1).bind fun bt390 => ((caduceusref14_Gone.f kj29 bt386.1 bt386.2 bt390.1 bt390.2).bind fun t394 => ((caduceusref10_Same.f kj29 t383 t394).bind fun t397 => (some t397)))))) else none))) else none) = some r := H
       have A47 := Aside0.mk A470
       clear A470
       by_cases c48 : t378 = true
       ·subst c48
        have H1 : ((view_Heirs.f kj29 a0_0 l0_1 a2).bind fun t379 => ((caduceusref10_Same.f kj29 t379 t372).bind fun t382 => (if t382 = true then ((view_Gone.f kj29 a0_0 l0_1 a1_0 l1_1).bind fun t383 => ((caduceuslaw14_Ref.f kj29 a0_0 l0_1).bind fun bt386 => ((caduceuslaw14_Ref.f kj29 a1_0 l1_1).bind fun bt390 => ((caduceusref14_Gone.f kj29 bt386.1 bt386.2 bt390.1 bt390.2).bind fun t394 => ((caduceusref10_Same.f kj29 t383 t394).bind fun t397 => (some t397)))))) else none))) = some r := by rw [if_pos rfl] at H; exact H
        clear H
        have H := H1
        clear H1
        replace H := Option.bind_eq_some_iff.mp H
        obtain ⟨t379, A490, H⟩ := H
        replace H : ((caduceusref10_Same.f kj29 t379 t372).bind fun t382 => (if t382 = true then ((view_Gone.f kj29 a0_0 l0_1 a1_0 l1_1).bind fun t383 => ((caduceuslaw14_Ref.f kj29 a0_0 l0_1).bind fun bt386 => ((caduceuslaw14_Ref.f kj29 a1_0 l1_1).bind fun bt390 => ((caduceusref14_Gone.f kj29 bt386.1 bt386.2 bt390.1 bt390.2).bind fun t394 => ((caduceusref10_Same.f kj29 t383 t394).bind fun t397 => (some t397)))))) else none)) = some r := H
        have A49 := Aside0.mk A490
        clear A490
        replace H := Option.bind_eq_some_iff.mp H
        obtain ⟨t382, A500, H⟩ := H
        replace H : (if t382 = true then ((view_Gone.f kj29 a0_0 l0_1 a1_0 l1_1).bind fun t383 => ((caduceuslaw14_Ref.f kj29 a0_0 l0_1).bind fun bt386 => ((caduceuslaw14_Ref.f kj29 a1_0 l1_1).bind fun bt390 => ((caduceusref14_Gone.f kj29 bt386.1 bt386.2 bt390.1 bt390.2).bind fun t394 => ((caduceusref10_Same.f kj29 t383 t394).bind fun t397 => (some t397)))))) else none) = some r := H
        have A50 := Aside0.mk A500
        clear A500
        by_cases c51 : t382 = true
        ·subst c51
         have H1 : ((view_Gone.f kj29 a0_0 l0_1 a1_0 l1_1).bind fun t383 => ((caduceuslaw14_Ref.f kj29 a0_0 l0_1).bind fun bt386 => ((caduceuslaw14_Ref.f kj29 a1_0 l1_1).bind fun bt390 => ((caduceusref14_Gone.f kj29 bt386.1 bt386.2 bt390.1 bt390.2).bind fun t394 => ((caduceusref10_Same.f kj29 t383 t394).bind fun t397 => (some t397)))))) = some r := by rw [if_pos rfl] at H; exact H
         clear H
         have H := H1
         clear H1
         replace H := Option.bind_eq_some_iff.mp H
         obtain ⟨t383, A520, H⟩ := H
         replace H : ((caduceuslaw14_Ref.f kj29 a0_0 l0_1).bind fun bt386 => ((caduceuslaw14_Ref.f kj29 a1_0 l1_1).bind fun bt390 => ((caduceusref14_Gone.f kj29 bt386.1 bt386.2 bt390.1 bt390.2).bind fun t394 => ((caduceusref10_Same.f kj29 t383 t394).bind fun t397 => (some t397))))) = some r := H
         have A52 := Aside0.mk A520
         clear A520
         replace H := Option.bind_eq_some_iff.mp H
         obtain ⟨⟨t386, t387⟩, A530, H⟩ := H
         replace H : ((caduceuslaw14_Ref.f kj29 a1_0 l1_1).bind fun bt390 => ((caduceusref14_Gone.f kj29 t386 t387 bt390.1 bt390.2).bind fun t394 => ((caduceusref10_Same.f kj29 t383 t394).bind fun t397 => (some t397)))) = some r := H
         have A53 := Aside0.mk A530
         clear A530
         replace H := Option.bind_eq_some_iff.mp H
         obtain ⟨⟨t390, t391⟩, A540, H⟩ := H
         replace H : ((caduceusref14_Gone.f kj29 t386 t387 t390 t391).bind fun t394 => ((caduceusref10_Same.f kj29 t383 t394).bind fun t397 => (some t397))) = some r := H
         have A54 := Aside0.mk A540
         clear A540
         replace H := Option.bind_eq_some_iff.mp H
         obtain ⟨t394, A550, H⟩ := H
         replace H : ((caduceusref10_Same.f kj29 t383 t394).bind fun t397 => (some t397)) = some r := H
         have A55 := Aside0.mk A550
         clear A550
         replace H := Option.bind_eq_some_iff.mp H
         obtain ⟨t397, A560, H⟩ := H
         replace H : (some t397) = some r := H
         have A56 := Aside0.mk A560
         clear A560
         obtain rfl := Option.some.inj H
         try go_wp2
         have n0_ := Aside0.mk (Kd.R_drew HO_7.out)
         have n1_ := Aside0.mk (blk_drew BK363.out)
         have n2_ := Aside0.mk (blk_drew BK364.out)
         have n3_ := Aside0.mk (below_drew1 HB.out)
         clear HO_7
         clear BK363
         clear BK364
         clear HB
         have HO_7 := n0_
         have BK363 := n1_
         have BK364 := n2_
         have HB := n3_
         clear n0_ n1_ n2_ n3_
         refine start_ (n := 20) (S := fun w' => w'.cell? ⟨gb363, 0, none⟩ = some (.int .i64 a0_0) ∧ w'.cell? ⟨gb363, 1, none⟩ = some (.slice A0_1 l0_1.length c0_1) ∧ w'.cell? ⟨gb364, 0, none⟩ = some (.int .i64 a1_0) ∧ w'.cell? ⟨gb364, 1, none⟩ = some (.slice A1_1 l1_1.length c1_1)) (ds := []) #[false, false, false, false, false, false, false, false, false, false, false, false, false, false, false, false, false, false, false, false] (by kernel_rfl) rfl rfl ⟨(blk_cell BK363.out 0).trans rfl, (blk_cell BK363.out 1).trans rfl, (blk_cell BK364.out 0).trans rfl, (blk_cell BK364.out 1).trans rfl⟩ (fun hHeld => ?_); refine with_tabW caduceuslaw14_ViewKeeps.tab7 caduceuslaw14_ViewKeeps.bits7 (fun HT_ HW_ => ?_)
         generalize wc.drew = w57 at HO_7 BK363 BK364 HB hHeld ⊢
         refine one_ (i := 0) (N := some 57) #[true, false, false, false, false, false, false, false, false, false, false, false, false, false, false, false, false, false, false, false] rfl rfl (one_of HT_.out (by kernel_rfl)) (by decide) (fun K hK => ?_)
         refine goes_ Tryz.func5 (by kernel_rfl) rfl #[] (by rfl) rfl rfl (by (try simp only [List.map_toArray, List.map_cons, List.map_nil]); first | done ) ?_
         with_reducible refine (caduceuslaw14_awake.calls kj29  true _ A47.out).mono ?_
         rintro e w58 ⟨rfl, hb⟩
         refine ⟨_, rfl, ?_⟩
         have n0_ := Aside0.mk (Kd.R_below (by (with_reducible repeat (fail)); exact HO_7.out) hb)
         have n1_ := Aside0.mk (blk_below (g := gb363) (o := .cells #[.int .i64 a0_0, .slice A0_1 l0_1.length c0_1] 24 (0, 0)) (by (with_reducible repeat (fail)); exact BK363.out) hb)
         have n2_ := Aside0.mk (blk_below (g := gb364) (o := .cells #[.int .i64 a1_0, .slice A1_1 l1_1.length c1_1] 24 (0, 0)) (by (with_reducible repeat (fail)); exact BK364.out) hb)
         have n3_ := Aside0.mk (below_step (by repeat (first | (with_reducible first | exact HB.out ) )) hb)
         clear HO_7
         clear BK363
         clear BK364
         clear HB
         have HO_7 := n0_
         have BK363 := n1_
         have BK364 := n2_
         have HB := n3_
         clear n0_ n1_ n2_ n3_
         (try clear hb)
         (try clear hb2)
         (try clear hk)
         (try clear hi)
         refine hK.out _ _ ⟨(blk_cell BK363.out 0).trans rfl, (blk_cell BK363.out 1).trans rfl, (blk_cell BK364.out 0).trans rfl, (blk_cell BK364.out 1).trans rfl⟩ (fun hHeld => ?_)
         clear hK K
         refine norm_ (a' := ?_) ?_ ?_
         rotate_left
         ·show Act.put _ (some 57) _ = _
          simp only [Act.put, List.setIfInBounds_toArray, List.set_cons_zero, List.set_cons_succ, i64_w, i32_w]
          rfl
         refine pure_ (i := 1) (N := some 58) (v := ?_) (a' := ?_) #[true, true, false, false, false, false, false, false, false, false, false, false, false, false, false, false, false, false, false, false] rfl rfl (any_of HT_.out (by kernel_rfl)) (fun _ _ _ h => h) (Or.inl ⟨by rfl, ?_⟩) ?_ ?_
         rotate_left
         ·intro w'
          go_simp
          with_reducible rfl
         rotate_left
         ·simp only [Act.put, List.setIfInBounds_toArray, List.set_cons_zero, List.set_cons_succ, i64_w, i32_w]
          rfl
         refine pure_ (i := 3) (N := some 60) (v := ?_) (a' := ?_) #[true, true, false, true, false, false, false, false, false, false, false, false, false, false, false, false, false, false, false, false] rfl rfl (any_of HT_.out (by kernel_rfl)) (fun _ _ _ h => h) (Or.inl ⟨by rfl, ?_⟩) ?_ ?_
         rotate_left
         ·intro w'
          go_simp
          with_reducible rfl
         rotate_left
         ·simp only [Act.put, List.setIfInBounds_toArray, List.set_cons_zero, List.set_cons_succ, i64_w, i32_w]
          rfl
         refine pure_ (i := 5) (N := some 62) (v := ?_) (a' := ?_) #[true, true, false, true, false, true, false, false, false, false, false, false, false, false, false, false, false, false, false, false] rfl rfl (any_of HT_.out (by kernel_rfl)) (fun _ _ _ h => h) (Or.inl ⟨by rfl, ?_⟩) ?_ ?_
         rotate_left
         ·intro w'
          go_simp
          with_reducible rfl
         rotate_left
         ·simp only [Act.put, List.setIfInBounds_toArray, List.set_cons_zero, List.set_cons_succ, i64_w, i32_w]
          rfl
         refine take_ (i := 2) (N := some 59) (v := ?_) (a' := ?_) #[true, true, true, true, false, true, false, false, false, false, false, false, false, false, false, false, false, false, false, false] rfl rfl (take_ofW HT_.out HW_.out (by kernel_rfl)) (fun _ _ _ h => h) (Or.inl ⟨by rfl, ?_⟩) hHeld ?_ ?_
         rotate_left
         ·rintro w' ⟨s0, s1, s2, s3⟩
          go_simp
          with_reducible rfl
         rotate_left
         ·simp only [Act.put, List.setIfInBounds_toArray, List.set_cons_zero, List.set_cons_succ, i64_w, i32_w]
          rfl
         refine one_ (i := 4) (N := some 61) #[true, true, true, true, true, true, false, false, false, false, false, false, false, false, false, false, false, false, false, false] rfl rfl (one_of HT_.out (by kernel_rfl)) (by decide) (fun K hK => ?_)
         refine goes_ Tryz.func10 (by kernel_rfl) rfl #[.agg #[.int .i64 a0_0, .slice A0_1 l0_1.length c0_1], .string a2] (by rfl) rfl rfl (by (try simp only [List.map_toArray, List.map_cons, List.map_nil]); first | rfl ) ?_
         with_reducible refine (view_Heirs.calls kj29 a0_0 _ _ l0_1 a2 t379 _ ?side1 ?side2 A49.out (NC.TabW.below HT.out (by repeat (first | (with_reducible first | exact HB.out ) )))).mono ?_
         (case side1 => repeat (first | exact (Kd.C_below HR0_1.out HB.out) ))
         (case side2 => exact HC0_1.out)
         rintro e w59 ⟨v380, rfl, ho0, hb⟩
         refine ⟨_, rfl, ?_⟩
         have n0_ := Aside0.mk (Kd.R_elder' (by (with_reducible repeat (fail)); exact HO_7.out) (Kd.R_base ho0) hb)
         have n1_ := Aside0.mk (Kd.R_lower (Kd.R_new' ho0 (Kd.R_lt (by (with_reducible repeat (fail)); exact HO_7.out))) (below_size (by repeat (first | (with_reducible first | exact HB.out ) ))))
         have n2_ := Aside0.mk (blk_below (g := gb363) (o := .cells #[.int .i64 a0_0, .slice A0_1 l0_1.length c0_1] 24 (0, 0)) (by (with_reducible repeat (fail)); exact BK363.out) hb)
         have n3_ := Aside0.mk (blk_below (g := gb364) (o := .cells #[.int .i64 a1_0, .slice A1_1 l1_1.length c1_1] 24 (0, 0)) (by (with_reducible repeat (fail)); exact BK364.out) hb)
         have n4_ := Aside0.mk (below_step (by repeat (first | (with_reducible first | exact HB.out ) )) hb)
         clear HO_7
         clear BK363
         clear BK364
         clear HB
         have HO_7 := n0_
         have HO381 := n1_
         have BK363 := n2_
         have BK364 := n3_
         have HB := n4_
         clear n0_ n1_ n2_ n3_ n4_
         (try clear hb)
         (try clear hb2)
         (try clear hk)
         (try clear hi)
         (try clear ho0)
         obtain ⟨Ao60, co60, eo60⟩ := Kd.R_slice HO381.out
         (first | subst eo60 )
         obtain ⟨Ao61, co61, eo61⟩ := Kd.R_slice HO_7.out
         (first | subst eo61 )
         refine hK.out _ _ ⟨(blk_cell BK363.out 0).trans rfl, (blk_cell BK363.out 1).trans rfl, (blk_cell BK364.out 0).trans rfl, (blk_cell BK364.out 1).trans rfl⟩ (fun hHeld => ?_)
         clear hK K
         refine norm_ (a' := ?_) ?_ ?_
         rotate_left
         ·show Act.put _ (some 61) _ = _
          simp only [Act.put, List.setIfInBounds_toArray, List.set_cons_zero, List.set_cons_succ, i64_w, i32_w]
          rfl
         refine one_ (i := 6) (N := some 63) #[true, true, true, true, true, true, true, false, false, false, false, false, false, false, false, false, false, false, false, false] rfl rfl (one_of HT_.out (by kernel_rfl)) (by decide) (fun K hK => ?_)
         refine goes_ Tryz.func9 (by kernel_rfl) rfl #[.slice Ao60 t379.length co60, .slice Ao61 t372.length co61] (by rfl) rfl rfl (by (try simp only [List.map_toArray, List.map_cons, List.map_nil]); first | rfl ) ?_
         with_reducible refine (caduceusref10_Same.calls kj29 _ _ t379 _ _ t372 true _ ?side1 ?side2 ?side3 ?side4 A50.out).mono ?_
         (case side1 => repeat (first | exact (Kd.R_reads' HO381.out).2.2 ))
         (case side2 => exact (Kd.R_reads' HO381.out).2.1)
         (case side3 => repeat (first | exact (Kd.R_reads' HO_7.out).2.2 ))
         (case side4 => exact (Kd.R_reads' HO_7.out).2.1)
         rintro e w' ⟨rfl, ⟨nd, rfl⟩⟩
         refine ⟨_, rfl, ?_⟩
         refine hK.out _ _ ⟨(blk_cell BK363.out 0).trans rfl, (blk_cell BK363.out 1).trans rfl, (blk_cell BK364.out 0).trans rfl, (blk_cell BK364.out 1).trans rfl⟩ (fun hHeld => ?_)
         clear hK K
         refine norm_ (a' := ?_) ?_ ?_
         rotate_left
         ·show Act.put _ (some 63) _ = _
          simp only [Act.put, List.setIfInBounds_toArray, List.set_cons_zero, List.set_cons_succ, i64_w, i32_w]
          rfl
         refine pure_ (i := 7) (N := some 64) (v := ?_) (a' := ?_) #[true, true, true, true, true, true, true, true, false, false, false, false, false, false, false, false, false, false, false, false] rfl rfl (any_of HT_.out (by kernel_rfl)) (fun _ _ _ h => h) (Or.inl ⟨by rfl, ?_⟩) ?_ ?_
         rotate_left
         ·intro w'
          go_simp
          with_reducible rfl
         rotate_left
         ·simp only [Act.put, List.setIfInBounds_toArray, List.set_cons_zero, List.set_cons_succ, i64_w, i32_w]
          rfl
         refine pure_ (i := 8) (N := some 65) (v := ?_) (a' := ?_) #[true, true, true, true, true, true, true, true, true, false, false, false, false, false, false, false, false, false, false, false] rfl rfl (any_of HT_.out (by kernel_rfl)) (fun _ _ _ h => h) (Or.inl ⟨by rfl, ?_⟩) ?_ ?_
         rotate_left
         ·intro w'
          go_simp
          with_reducible rfl
         rotate_left
         ·simp only [Act.put, List.setIfInBounds_toArray, List.set_cons_zero, List.set_cons_succ, i64_w, i32_w]
          rfl
         refine take_ (i := 9) (N := some 66) (v := ?_) (a' := ?_) #[true, true, true, true, true, true, true, true, true, true, false, false, false, false, false, false, false, false, false, false] rfl rfl (take_ofW HT_.out HW_.out (by kernel_rfl)) (fun _ _ _ h => h) (Or.inl ⟨by rfl, ?_⟩) hHeld ?_ ?_
         rotate_left
         ·rintro w' ⟨s0, s1, s2, s3⟩
          go_simp
          with_reducible rfl
         rotate_left
         ·simp only [Act.put, List.setIfInBounds_toArray, List.set_cons_zero, List.set_cons_succ, i64_w, i32_w]
          rfl
         refine take_ (i := 10) (N := some 67) (v := ?_) (a' := ?_) #[true, true, true, true, true, true, true, true, true, true, true, false, false, false, false, false, false, false, false, false] rfl rfl (take_ofW HT_.out HW_.out (by kernel_rfl)) (fun _ _ _ h => h) (Or.inl ⟨by rfl, ?_⟩) hHeld ?_ ?_
         rotate_left
         ·rintro w' ⟨s0, s1, s2, s3⟩
          go_simp
          with_reducible rfl
         rotate_left
         ·simp only [Act.put, List.setIfInBounds_toArray, List.set_cons_zero, List.set_cons_succ, i64_w, i32_w]
          rfl
         refine take_ (i := 12) (N := some 69) (v := ?_) (a' := ?_) #[true, true, true, true, true, true, true, true, true, true, true, false, true, false, false, false, false, false, false, false] rfl rfl (take_ofW HT_.out HW_.out (by kernel_rfl)) (fun _ _ _ h => h) (Or.inl ⟨by rfl, ?_⟩) hHeld ?_ ?_
         rotate_left
         ·rintro w' ⟨s0, s1, s2, s3⟩
          go_simp
          with_reducible rfl
         rotate_left
         ·simp only [Act.put, List.setIfInBounds_toArray, List.set_cons_zero, List.set_cons_succ, i64_w, i32_w]
          rfl
         refine take_ (i := 14) (N := some 71) (v := ?_) (a' := ?_) #[true, true, true, true, true, true, true, true, true, true, true, false, true, false, true, false, false, false, false, false] rfl rfl (take_ofW HT_.out HW_.out (by kernel_rfl)) (fun _ _ _ h => h) (Or.inl ⟨by rfl, ?_⟩) hHeld ?_ ?_
         rotate_left
         ·rintro w' ⟨s0, s1, s2, s3⟩
          go_simp
          with_reducible rfl
         rotate_left
         ·simp only [Act.put, List.setIfInBounds_toArray, List.set_cons_zero, List.set_cons_succ, i64_w, i32_w]
          rfl
         refine one_ (i := 11) (N := some 68) #[true, true, true, true, true, true, true, true, true, true, true, true, true, false, true, false, false, false, false, false] rfl rfl (one_of HT_.out (by kernel_rfl)) (by decide) (fun K hK => ?_)
         refine goes_ Tryz.func11 (by kernel_rfl) rfl #[.agg #[.int .i64 a0_0, .slice A0_1 l0_1.length c0_1], .agg #[.int .i64 a1_0, .slice A1_1 l1_1.length c1_1]] (by rfl) rfl rfl (by (try simp only [List.map_toArray, List.map_cons, List.map_nil]); first | rfl ) ?_
         with_reducible refine (view_Gone.calls kj29 a0_0 _ _ l0_1 a1_0 _ _ l1_1 t383 _ ?side1 ?side2 ?side3 ?side4 A52.out).mono ?_
         (case side1 => repeat (first | exact (Kd.C_below HR0_1.out (by repeat (first | (with_reducible first | exact HB.out | apply pw_below_drewN ) ))) ))
         (case side2 => exact HC0_1.out)
         (case side3 => repeat (first | exact (Kd.C_below HR1_1.out (by repeat (first | (with_reducible first | exact HB.out | apply pw_below_drewN ) ))) ))
         (case side4 => exact HC1_1.out)
         rintro e w62 ⟨v384, rfl, ho0, hb⟩
         refine ⟨_, rfl, ?_⟩
         have n0_ := Aside0.mk (Kd.R_elder' (by (with_reducible repeat (first | apply Kd.R_drewN )); exact HO_7.out) (Kd.R_base ho0) hb)
         have n1_ := Aside0.mk (Kd.R_elder' (by (with_reducible repeat (first | apply Kd.R_drewN )); exact HO381.out) (Kd.R_base ho0) hb)
         have n2_ := Aside0.mk (Kd.R_lower (Kd.R_new' (Kd.R_new' ho0 (Kd.R_lt (by (with_reducible repeat (first | apply Kd.R_drewN )); exact HO_7.out))) (Kd.R_lt (by (with_reducible repeat (first | apply Kd.R_drewN )); exact HO381.out))) (below_size (by repeat (first | (with_reducible first | exact HB.out | apply pw_below_drewN ) ))))
         have n3_ := Aside0.mk (blk_below (g := gb363) (o := .cells #[.int .i64 a0_0, .slice A0_1 l0_1.length c0_1] 24 (0, 0)) (by (with_reducible repeat (first | refine blk_drewN ?_ _ )); exact BK363.out) hb)
         have n4_ := Aside0.mk (blk_below (g := gb364) (o := .cells #[.int .i64 a1_0, .slice A1_1 l1_1.length c1_1] 24 (0, 0)) (by (with_reducible repeat (first | refine blk_drewN ?_ _ )); exact BK364.out) hb)
         have n5_ := Aside0.mk (below_step (by repeat (first | (with_reducible first | exact HB.out | apply pw_below_drewN ) )) hb)
         clear HO_7
         clear HO381
         clear BK363
         clear BK364
         clear HB
         have HO_7 := n0_
         have HO381 := n1_
         have HO385 := n2_
         have BK363 := n3_
         have BK364 := n4_
         have HB := n5_
         clear n0_ n1_ n2_ n3_ n4_ n5_
         (try clear hb)
         (try clear hb2)
         (try clear hk)
         (try clear hi)
         (try clear ho0)
         refine hK.out _ _ ⟨(blk_cell BK363.out 0).trans rfl, (blk_cell BK363.out 1).trans rfl, (blk_cell BK364.out 0).trans rfl, (blk_cell BK364.out 1).trans rfl⟩ (fun hHeld => ?_)
         clear hK K
         refine norm_ (a' := ?_) ?_ ?_
         rotate_left
         ·show Act.put _ (some 68) _ = _
          simp only [Act.put, List.setIfInBounds_toArray, List.set_cons_zero, List.set_cons_succ, i64_w, i32_w]
          rfl
         refine one_ (i := 13) (N := some 70) #[true, true, true, true, true, true, true, true, true, true, true, true, true, true, true, false, false, false, false, false] rfl rfl (one_of HT_.out (by kernel_rfl)) (by decide) (fun K hK => ?_)
         refine goes_ Tryz.func7 (by kernel_rfl) rfl #[.agg #[.int .i64 a0_0, .slice A0_1 l0_1.length c0_1]] (by rfl) rfl rfl (by (try simp only [List.map_toArray, List.map_cons, List.map_nil]); first | rfl ) ?_
         with_reducible refine (caduceuslaw14_Ref.calls kj29 a0_0 _ _ l0_1 t386 t387 _ ?side1 ?side2 A53.out).mono ?_
         (case side1 => repeat (first | exact (Kd.C_below HR0_1.out HB.out) ))
         (case side2 => exact HC0_1.out)
         rintro e w63 ⟨v388, rfl, ho0, hb⟩
         refine ⟨_, rfl, ?_⟩
         have n0_ := Aside0.mk (Kd.R_below (by (with_reducible repeat (fail)); exact HO_7.out) hb)
         have n1_ := Aside0.mk (Kd.R_below (by (with_reducible repeat (fail)); exact HO381.out) hb)
         have n2_ := Aside0.mk (Kd.R_below (by (with_reducible repeat (fail)); exact HO385.out) hb)
         have n3_ := Aside0.mk (Kd.R_lower ho0 (below_size (by repeat (first | (with_reducible first | exact HB.out ) ))))
         have n4_ := Aside0.mk (blk_below (g := gb363) (o := .cells #[.int .i64 a0_0, .slice A0_1 l0_1.length c0_1] 24 (0, 0)) (by (with_reducible repeat (fail)); exact BK363.out) hb)
         have n5_ := Aside0.mk (blk_below (g := gb364) (o := .cells #[.int .i64 a1_0, .slice A1_1 l1_1.length c1_1] 24 (0, 0)) (by (with_reducible repeat (fail)); exact BK364.out) hb)
         have n6_ := Aside0.mk (below_step (by repeat (first | (with_reducible first | exact HB.out ) )) hb)
         clear HO_7
         clear HO381
         clear HO385
         clear BK363
         clear BK364
         clear HB
         have HO_7 := n0_
         have HO381 := n1_
         have HO385 := n2_
         have HO389 := n3_
         have BK363 := n4_
         have BK364 := n5_
         have HB := n6_
         clear n0_ n1_ n2_ n3_ n4_ n5_ n6_
         (try clear hb)
         (try clear hb2)
         (try clear hk)
         (try clear hi)
         (try clear ho0)
         refine hK.out _ _ ⟨(blk_cell BK363.out 0).trans rfl, (blk_cell BK363.out 1).trans rfl, (blk_cell BK364.out 0).trans rfl, (blk_cell BK364.out 1).trans rfl⟩ (fun hHeld => ?_)
         clear hK K
         refine norm_ (a' := ?_) ?_ ?_
         rotate_left
         ·show Act.put _ (some 70) _ = _
          simp only [Act.put, List.setIfInBounds_toArray, List.set_cons_zero, List.set_cons_succ, i64_w, i32_w]
          rfl
         refine one_ (i := 15) (N := some 72) #[true, true, true, true, true, true, true, true, true, true, true, true, true, true, true, true, false, false, false, false] rfl rfl (one_of HT_.out (by kernel_rfl)) (by decide) (fun K hK => ?_)
         refine goes_ Tryz.func7 (by kernel_rfl) rfl #[.agg #[.int .i64 a1_0, .slice A1_1 l1_1.length c1_1]] (by rfl) rfl rfl (by (try simp only [List.map_toArray, List.map_cons, List.map_nil]); first | rfl ) ?_
         with_reducible refine (caduceuslaw14_Ref.calls kj29 a1_0 _ _ l1_1 t390 t391 _ ?side1 ?side2 A54.out).mono ?_
         (case side1 => repeat (first | exact (Kd.C_below HR1_1.out HB.out) ))
         (case side2 => exact HC1_1.out)
         rintro e w64 ⟨v392, rfl, ho0, hb⟩
         refine ⟨_, rfl, ?_⟩
         have n0_ := Aside0.mk (Kd.R_below (by (with_reducible repeat (fail)); exact HO_7.out) hb)
         have n1_ := Aside0.mk (Kd.R_below (by (with_reducible repeat (fail)); exact HO381.out) hb)
         have n2_ := Aside0.mk (Kd.R_below (by (with_reducible repeat (fail)); exact HO385.out) hb)
         have n3_ := Aside0.mk (Kd.R_elder' (by (with_reducible repeat (fail)); exact HO389.out) (Kd.R_base ho0) hb)
         have n4_ := Aside0.mk (Kd.R_lower (Kd.R_new' ho0 (Kd.R_lt (by (with_reducible repeat (fail)); exact HO389.out))) (below_size (by repeat (first | (with_reducible first | exact HB.out ) ))))
         have n5_ := Aside0.mk (blk_below (g := gb363) (o := .cells #[.int .i64 a0_0, .slice A0_1 l0_1.length c0_1] 24 (0, 0)) (by (with_reducible repeat (fail)); exact BK363.out) hb)
         have n6_ := Aside0.mk (blk_below (g := gb364) (o := .cells #[.int .i64 a1_0, .slice A1_1 l1_1.length c1_1] 24 (0, 0)) (by (with_reducible repeat (fail)); exact BK364.out) hb)
         have n7_ := Aside0.mk (below_step (by repeat (first | (with_reducible first | exact HB.out ) )) hb)
         clear HO_7
         clear HO381
         clear HO385
         clear HO389
         clear BK363
         clear BK364
         clear HB
         have HO_7 := n0_
         have HO381 := n1_
         have HO385 := n2_
         have HO389 := n3_
         have HO393 := n4_
         have BK363 := n5_
         have BK364 := n6_
         have HB := n7_
         clear n0_ n1_ n2_ n3_ n4_ n5_ n6_ n7_
         (try clear hb)
         (try clear hb2)
         (try clear hk)
         (try clear hi)
         (try clear ho0)
         obtain ⟨Ao65, co65, eo65⟩ := Kd.R_slice HO389.out
         (first | subst eo65 )
         obtain ⟨Ao66, co66, eo66⟩ := Kd.R_slice HO393.out
         (first | subst eo66 )
         refine hK.out _ _ ⟨(blk_cell BK363.out 0).trans rfl, (blk_cell BK363.out 1).trans rfl, (blk_cell BK364.out 0).trans rfl, (blk_cell BK364.out 1).trans rfl⟩ (fun hHeld => ?_)
         clear hK K
         refine norm_ (a' := ?_) ?_ ?_
         rotate_left
         ·show Act.put _ (some 72) _ = _
          simp only [Act.put, List.setIfInBounds_toArray, List.set_cons_zero, List.set_cons_succ, i64_w, i32_w]
          rfl
         refine one_ (i := 16) (N := some 73) #[true, true, true, true, true, true, true, true, true, true, true, true, true, true, true, true, true, false, false, false] rfl rfl (one_of HT_.out (by kernel_rfl)) (by decide) (fun K hK => ?_)
         refine goes_ Tryz.func12 (by kernel_rfl) rfl #[.agg #[.int .i64 t386, .slice Ao65 t387.length co65], .agg #[.int .i64 t390, .slice Ao66 t391.length co66]] (by rfl) rfl rfl (by (try simp only [List.map_toArray, List.map_cons, List.map_nil]); first | rfl ) ?_
         with_reducible refine (caduceusref14_Gone.calls kj29 t386 _ _ t387 t390 _ _ t391 t394 _ ?side1 ?side2 ?side3 ?side4 A55.out).mono ?_
         (case side1 => repeat (first | exact (Kd.R_reads' HO389.out).2.2 ))
         (case side2 => exact (Kd.R_reads' HO389.out).2.1)
         (case side3 => repeat (first | exact (Kd.R_reads' HO393.out).2.2 ))
         (case side4 => exact (Kd.R_reads' HO393.out).2.1)
         rintro e w67 ⟨v395, rfl, ho0, hb⟩
         refine ⟨_, rfl, ?_⟩
         have n0_ := Aside0.mk (Kd.R_elder' (by (with_reducible repeat (fail)); exact HO_7.out) (Kd.R_base ho0) hb)
         have n1_ := Aside0.mk (Kd.R_elder' (by (with_reducible repeat (fail)); exact HO381.out) (Kd.R_base ho0) hb)
         have n2_ := Aside0.mk (Kd.R_elder' (by (with_reducible repeat (fail)); exact HO385.out) (Kd.R_base ho0) hb)
         have n3_ := Aside0.mk (Kd.R_below (by (with_reducible repeat (fail)); exact HO389.out) hb)
         have n4_ := Aside0.mk (Kd.R_below (by (with_reducible repeat (fail)); exact HO393.out) hb)
         have n5_ := Aside0.mk (Kd.R_lower (Kd.R_new' (Kd.R_new' (Kd.R_new' ho0 (Kd.R_lt (by (with_reducible repeat (fail)); exact HO_7.out))) (Kd.R_lt (by (with_reducible repeat (fail)); exact HO381.out))) (Kd.R_lt (by (with_reducible repeat (fail)); exact HO385.out))) (below_size (by repeat (first | (with_reducible first | exact HB.out ) ))))
         have n6_ := Aside0.mk (blk_below (g := gb363) (o := .cells #[.int .i64 a0_0, .slice A0_1 l0_1.length c0_1] 24 (0, 0)) (by (with_reducible repeat (fail)); exact BK363.out) hb)
         have n7_ := Aside0.mk (blk_below (g := gb364) (o := .cells #[.int .i64 a1_0, .slice A1_1 l1_1.length c1_1] 24 (0, 0)) (by (with_reducible repeat (fail)); exact BK364.out) hb)
         have n8_ := Aside0.mk (below_step (by repeat (first | (with_reducible first | exact HB.out ) )) hb)
         clear HO_7
         clear HO381
         clear HO385
         clear HO389
         clear HO393
         clear BK363
         clear BK364
         clear HB
         have HO_7 := n0_
         have HO381 := n1_
         have HO385 := n2_
         have HO389 := n3_
         have HO393 := n4_
         have HO396 := n5_
         have BK363 := n6_
         have BK364 := n7_
         have HB := n8_
         clear n0_ n1_ n2_ n3_ n4_ n5_ n6_ n7_ n8_
         (try clear hb)
         (try clear hb2)
         (try clear hk)
         (try clear hi)
         (try clear ho0)
         obtain ⟨Ao68, co68, eo68⟩ := Kd.R_slice HO385.out
         (first | subst eo68 )
         obtain ⟨Ao69, co69, eo69⟩ := Kd.R_slice HO396.out
         (first | subst eo69 )
         refine hK.out _ _ ⟨(blk_cell BK363.out 0).trans rfl, (blk_cell BK363.out 1).trans rfl, (blk_cell BK364.out 0).trans rfl, (blk_cell BK364.out 1).trans rfl⟩ (fun hHeld => ?_)
         clear hK K
         refine norm_ (a' := ?_) ?_ ?_
         rotate_left
         ·show Act.put _ (some 73) _ = _
          simp only [Act.put, List.setIfInBounds_toArray, List.set_cons_zero, List.set_cons_succ, i64_w, i32_w]
          rfl
         refine one_ (i := 17) (N := some 74) #[true, true, true, true, true, true, true, true, true, true, true, true, true, true, true, true, true, true, false, false] rfl rfl (one_of HT_.out (by kernel_rfl)) (by decide) (fun K hK => ?_)
         refine goes_ Tryz.func9 (by kernel_rfl) rfl #[.slice Ao68 t383.length co68, .slice Ao69 t394.length co69] (by rfl) rfl rfl (by (try simp only [List.map_toArray, List.map_cons, List.map_nil]); first | rfl ) ?_
         with_reducible refine (caduceusref10_Same.calls kj29 _ _ t383 _ _ t394 t397 _ ?side1 ?side2 ?side3 ?side4 A56.out).mono ?_
         (case side1 => repeat (first | exact (Kd.R_reads' HO385.out).2.2 ))
         (case side2 => exact (Kd.R_reads' HO385.out).2.1)
         (case side3 => repeat (first | exact (Kd.R_reads' HO396.out).2.2 ))
         (case side4 => exact (Kd.R_reads' HO396.out).2.1)
         rintro e w' ⟨rfl, ⟨nd, rfl⟩⟩
         refine ⟨_, rfl, ?_⟩
         refine hK.out _ _ ⟨(blk_cell BK363.out 0).trans rfl, (blk_cell BK363.out 1).trans rfl, (blk_cell BK364.out 0).trans rfl, (blk_cell BK364.out 1).trans rfl⟩ (fun hHeld => ?_)
         clear hK K
         refine norm_ (a' := ?_) ?_ ?_
         rotate_left
         ·show Act.put _ (some 74) _ = _
          simp only [Act.put, List.setIfInBounds_toArray, List.set_cons_zero, List.set_cons_succ, i64_w, i32_w]
          rfl
         refine pure_ (i := 18) (N := some 75) (v := ?_) (a' := ?_) #[true, true, true, true, true, true, true, true, true, true, true, true, true, true, true, true, true, true, true, false] rfl rfl (any_of HT_.out (by kernel_rfl)) (fun _ _ _ h => h) (Or.inl ⟨by rfl, ?_⟩) ?_ ?_
         rotate_left
         ·intro w'
          go_simp
          with_reducible rfl
         rotate_left
         ·simp only [Act.put, List.setIfInBounds_toArray, List.set_cons_zero, List.set_cons_succ, i64_w, i32_w]
          rfl
         refine pure_ (i := 19) (N := some 6) (v := ?_) (a' := ?_) #[true, true, true, true, true, true, true, true, true, true, true, true, true, true, true, true, true, true, true, true] rfl rfl (any_of HT_.out (by kernel_rfl)) (fun _ _ _ h => h) (Or.inl ⟨by rfl, ?_⟩) ?_ ?_
         rotate_left
         ·intro w'
          go_simp
          with_reducible rfl
         rotate_left
         ·simp only [Act.put, List.setIfInBounds_toArray, List.set_cons_zero, List.set_cons_succ, i64_w, i32_w]
          rfl
         refine done_ (done_of HT_.out (by kernel_rfl)) ?_
         try go_wp2
         go_ret
         exact ⟨by first | rfl , by repeat (first | (with_reducible first | exact HB.out | apply pw_below_drewN ) )⟩
        ·replace c51 := Bool.eq_false_iff.mpr c51
         subst c51
         have H1 : (none : Option _) = some r := by rw [if_neg (show ¬ (false = true) by decide)] at H; exact H
         cases H1
       ·replace c48 := Bool.eq_false_iff.mpr c48
        subst c48
        have H1 : (none : Option _) = some r := by rw [if_neg (show ¬ (false = true) by decide)] at H; exact H
        cases H1
end Go.Proofs.YtpdalofhekmbeaaGreatDoor.PViewKeeps
