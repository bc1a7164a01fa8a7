-- Written by a program of this session over the kit's printer (with contracts of the session's own).
import Derived.Test.YtpdalofhekmbeaaPViewTurnsx0
import Derived.Test.YtpdalofhekmbeaaPViewTurnsx8
namespace Go.Proofs.Ytpdalofhekmbeaa.PViewTurns
open Go.RowKit Go.Proofs.YtpdalofhekmbeaaW.PrintWords Go.Proofs.YtpdalofhekmbeaaW.PrintLast Go.Proofs.YtpdalofhekmbeaaW.PrintMore
attribute [local go_sem] max2_int min2_int max_two min_two max_three min_three max_four min_four   -- for this text's walks alone
set_option linter.unusedVariables false
set_option linter.unusedSimpArgs false

/-! ### caduceusref14_Turn: function 10 -/
mutual
def caduceusref14_Turn.l0 : Nat → Int → Bool → Int → Int → Int → List (S62) → Int → List (S62) → Option (Int × (List (S62)) × Int)
  | 0, _, _, _, _, _, _, _, _ => none
  | k + 1, x1, x2, x9, x10, x217000, x217001, x220000, x220001 => if x10 < (x217001.length : Int) then (if 0 ≤ x10 then (if ((rd_T62 x217001 x10).f0) = x1 then (if (((rd_T62 x217001 x10).f2) == x2) = true then (caduceusref14_Turn.j1 k x1 x2 0 x10 x2 x217000 x217001 x220000 x220001 ((rd_T62 x217001 x10).f0) ((rd_T62 x217001 x10).f1) ((rd_T62 x217001 x10).f2)) else (caduceusref14_Turn.j1 k x1 x2 0 x10 false x217000 x217001 x220000 x220001 ((rd_T62 x217001 x10).f0) ((rd_T62 x217001 x10).f1) ((rd_T62 x217001 x10).f2))) else (if x220001.length < 5864062014805 then (caduceusref14_Turn.l0 k x1 x2 x9 (wrap64 (x10 + 1)) x217000 x217001 x220000 (x220001 ++ [(⟨(rd_T62 x217001 x10).f0, (rd_T62 x217001 x10).f1, (rd_T62 x217001 x10).f2⟩ : S62)])) else (none))) else (none)) else (if x9 = 0 then (some (wrap64 (x220000 + 1), x220001, 0)) else (some (0, ([] : List (S62)), x9)))
def caduceusref14_Turn.j1 : Nat → Int → Bool → Int → Int → Bool → Int → List (S62) → Int → List (S62) → Int → Int → Bool → Option (Int × (List (S62)) × Int)
  | 0, _, _, _, _, _, _, _, _, _, _, _, _ => none
  | k + 1, x1, x2, x9, x10, x41, x217000, x217001, x220000, x220001, x222000, x222001, x222002 => if x41 = true then (if x2 = true then (if 5 = 0 then (if x220001.length < 5864062014805 then (caduceusref14_Turn.l0 k x1 x2 5 (wrap64 (x10 + 1)) x217000 x217001 x220000 (x220001 ++ [(⟨x222000, wrap64 (x222001 + 1), x2⟩ : S62)])) else (none)) else (if x220001.length < 5864062014805 then (caduceusref14_Turn.l0 k x1 x2 5 (wrap64 (x10 + 1)) x217000 x217001 x220000 (x220001 ++ [(⟨x222000, x222001, x2⟩ : S62)])) else (none))) else (if x220001.length < 5864062014805 then (caduceusref14_Turn.l0 k x1 x2 5 (wrap64 (x10 + 1)) x217000 x217001 x220000 (x220001 ++ [(⟨x222000, x222001, x2⟩ : S62)])) else (none))) else (if (x222002 == x2) = true then (if x2 = true then (if 12 = 0 then (if x220001.length < 5864062014805 then (caduceusref14_Turn.l0 k x1 x2 12 (wrap64 (x10 + 1)) x217000 x217001 x220000 (x220001 ++ [(⟨x222000, wrap64 (x222001 + 1), x2⟩ : S62)])) else (none)) else (if x220001.length < 5864062014805 then (caduceusref14_Turn.l0 k x1 x2 12 (wrap64 (x10 + 1)) x217000 x217001 x220000 (x220001 ++ [(⟨x222000, x222001, x2⟩ : S62)])) else (none))) else (if x220001.length < 5864062014805 then (caduceusref14_Turn.l0 k x1 x2 12 (wrap64 (x10 + 1)) x217000 x217001 x220000 (x220001 ++ [(⟨x222000, x222001, x2⟩ : S62)])) else (none))) else (if x217000 = 1099511627775 then (caduceusref14_Turn.j2 k x1 x2 x9 x10 true x217000 x217001 x220000 x220001 x222000 x222001 x222002) else (if x2 = true then (caduceusref14_Turn.j2 k x1 x2 x9 x10 (x222001 == 1099511627775) x217000 x217001 x220000 x220001 x222000 x222001 x222002) else (caduceusref14_Turn.j2 k x1 x2 x9 x10 false x217000 x217001 x220000 x220001 x222000 x222001 x222002))))
def caduceusref14_Turn.j2 : Nat → Int → Bool → Int → Int → Bool → Int → List (S62) → Int → List (S62) → Int → Int → Bool → Option (Int × (List (S62)) × Int)
  | 0, _, _, _, _, _, _, _, _, _, _, _, _ => none
  | k + 1, x1, x2, x9, x10, x56, x217000, x217001, x220000, x220001, x222000, x222001, x222002 => if x56 = true then (if x2 = true then (if 13 = 0 then (if x220001.length < 5864062014805 then (caduceusref14_Turn.l0 k x1 x2 13 (wrap64 (x10 + 1)) x217000 x217001 x220000 (x220001 ++ [(⟨x222000, wrap64 (x222001 + 1), x2⟩ : S62)])) else (none)) else (if x220001.length < 5864062014805 then (caduceusref14_Turn.l0 k x1 x2 13 (wrap64 (x10 + 1)) x217000 x217001 x220000 (x220001 ++ [(⟨x222000, x222001, x2⟩ : S62)])) else (none))) else (if x220001.length < 5864062014805 then (caduceusref14_Turn.l0 k x1 x2 13 (wrap64 (x10 + 1)) x217000 x217001 x220000 (x220001 ++ [(⟨x222000, x222001, x2⟩ : S62)])) else (none))) else (if x2 = true then (if x9 = 0 then (if x220001.length < 5864062014805 then (caduceusref14_Turn.l0 k x1 x2 x9 (wrap64 (x10 + 1)) x217000 x217001 x220000 (x220001 ++ [(⟨x222000, wrap64 (x222001 + 1), x2⟩ : S62)])) else (none)) else (if x220001.length < 5864062014805 then (caduceusref14_Turn.l0 k x1 x2 x9 (wrap64 (x10 + 1)) x217000 x217001 x220000 (x220001 ++ [(⟨x222000, x222001, x2⟩ : S62)])) else (none))) else (if x220001.length < 5864062014805 then (caduceusref14_Turn.l0 k x1 x2 x9 (wrap64 (x10 + 1)) x217000 x217001 x220000 (x220001 ++ [(⟨x222000, x222001, x2⟩ : S62)])) else (none)))
end
def caduceusref14_Turn.f (k : Nat) (a0_0 : Int) (l0_1 : List (S62)) (a1 : Int) (a2 : Bool) : Option (Int × (List (S62)) × Int) := (caduceusref14_Check.f k a0_0 l0_1).bind fun t218 => (if t218 = true then (caduceusref14_Turn.l0 k a1 a2 4 0 a0_0 l0_1 a0_0 ([] : List (S62))) else (some (0, ([] : List (S62)), 1)))
theorem caduceusref14_Turn.mono_l : ∀ k, (∀ y0 y1 y2 y3 y4 y5 y6 y7, LeO (caduceusref14_Turn.l0 k y0 y1 y2 y3 y4 y5 y6 y7) (caduceusref14_Turn.l0 (k + 1) y0 y1 y2 y3 y4 y5 y6 y7)) ∧ (∀ y0 y1 y2 y3 y4 y5 y6 y7 y8 y9 y10 y11, LeO (caduceusref14_Turn.j1 k y0 y1 y2 y3 y4 y5 y6 y7 y8 y9 y10 y11) (caduceusref14_Turn.j1 (k + 1) y0 y1 y2 y3 y4 y5 y6 y7 y8 y9 y10 y11)) ∧ (∀ y0 y1 y2 y3 y4 y5 y6 y7 y8 y9 y10 y11, LeO (caduceusref14_Turn.j2 k y0 y1 y2 y3 y4 y5 y6 y7 y8 y9 y10 y11) (caduceusref14_Turn.j2 (k + 1) y0 y1 y2 y3 y4 y5 y6 y7 y8 y9 y10 y11))
  | 0 => ⟨fun _ _ _ _ _ _ _ _ r h => by simp [caduceusref14_Turn.l0] at h, fun _ _ _ _ _ _ _ _ _ _ _ _ r h => by simp [caduceusref14_Turn.j1] at h, fun _ _ _ _ _ _ _ _ _ _ _ _ r h => by simp [caduceusref14_Turn.j2] at h⟩
  | k + 1 => by
    obtain ⟨ih0, ih1, ih2⟩ := caduceusref14_Turn.mono_l k
    refine ⟨?_, ?_, ?_⟩
    · intro y0 y1 y2 y3 y4 y5 y6 y7
      unfold caduceusref14_Turn.l0
      repeat' first
      | (with_reducible exact ih0 _ _ _ _ _ _ _ _)
      | (with_reducible exact ih1 _ _ _ _ _ _ _ _ _ _ _ _)
      | (with_reducible exact ih2 _ _ _ _ _ _ _ _ _ _ _ _)
      | (with_reducible exact caduceusref14_Check.mono _ _ _)
      | (with_reducible exact LeO.refl _)
      | (with_reducible exact LeO.none _)
      | (with_reducible refine LeO.ite ?_ ?_)
      | (with_reducible refine LeO.bind ?_ (fun _ => ?_))
      | exact ih0 _ _ _ _ _ _ _ _
      | exact ih1 _ _ _ _ _ _ _ _ _ _ _ _
      | exact ih2 _ _ _ _ _ _ _ _ _ _ _ _
      | exact caduceusref14_Check.mono _ _ _
      | exact LeO.none _
      | refine LeO.ite ?_ ?_
      | refine LeO.bind ?_ (fun _ => ?_)
    · intro y0 y1 y2 y3 y4 y5 y6 y7 y8 y9 y10 y11
      unfold caduceusref14_Turn.j1
      repeat' first
      | (with_reducible exact ih0 _ _ _ _ _ _ _ _)
      | (with_reducible exact ih1 _ _ _ _ _ _ _ _ _ _ _ _)
      | (with_reducible exact ih2 _ _ _ _ _ _ _ _ _ _ _ _)
      | (with_reducible exact caduceusref14_Check.mono _ _ _)
      | (with_reducible exact LeO.refl _)
      | (with_reducible exact LeO.none _)
      | (with_reducible refine LeO.ite ?_ ?_)
      | (with_reducible refine LeO.bind ?_ (fun _ => ?_))
      | exact ih0 _ _ _ _ _ _ _ _
      | exact ih1 _ _ _ _ _ _ _ _ _ _ _ _
      | exact ih2 _ _ _ _ _ _ _ _ _ _ _ _
      | exact caduceusref14_Check.mono _ _ _
      | exact LeO.none _
      | refine LeO.ite ?_ ?_
      | refine LeO.bind ?_ (fun _ => ?_)
    · intro y0 y1 y2 y3 y4 y5 y6 y7 y8 y9 y10 y11
      unfold caduceusref14_Turn.j2
      repeat' first
      | (with_reducible exact ih0 _ _ _ _ _ _ _ _)
      | (with_reducible exact ih1 _ _ _ _ _ _ _ _ _ _ _ _)
      | (with_reducible exact ih2 _ _ _ _ _ _ _ _ _ _ _ _)
      | (with_reducible exact caduceusref14_Check.mono _ _ _)
      | (with_reducible exact LeO.refl _)
      | (with_reducible exact LeO.none _)
      | (with_reducible refine LeO.ite ?_ ?_)
      | (with_reducible refine LeO.bind ?_ (fun _ => ?_))
      | exact ih0 _ _ _ _ _ _ _ _
      | exact ih1 _ _ _ _ _ _ _ _ _ _ _ _
      | exact ih2 _ _ _ _ _ _ _ _ _ _ _ _
      | exact caduceusref14_Check.mono _ _ _
      | exact LeO.none _
      | refine LeO.ite ?_ ?_
      | refine LeO.bind ?_ (fun _ => ?_)
theorem caduceusref14_Turn.mono : ∀ a0 a1 a2 a3 k, LeO (caduceusref14_Turn.f k a0 a1 a2 a3) (caduceusref14_Turn.f (k + 1) a0 a1 a2 a3) := by
  intro a0 a1 a2 a3 k
  obtain ⟨ih0, ih1, ih2⟩ := caduceusref14_Turn.mono_l k
  unfold caduceusref14_Turn.f
  repeat' first
      | (with_reducible exact ih0 _ _ _ _ _ _ _ _)
      | (with_reducible exact ih1 _ _ _ _ _ _ _ _ _ _ _ _)
      | (with_reducible exact ih2 _ _ _ _ _ _ _ _ _ _ _ _)
      | (with_reducible exact caduceusref14_Check.mono _ _ _)
      | (with_reducible exact LeO.refl _)
      | (with_reducible exact LeO.none _)
      | (with_reducible refine LeO.ite ?_ ?_)
      | (with_reducible refine LeO.bind ?_ (fun _ => ?_))
      | exact ih0 _ _ _ _ _ _ _ _
      | exact ih1 _ _ _ _ _ _ _ _ _ _ _ _
      | exact ih2 _ _ _ _ _ _ _ _ _ _ _ _
      | exact caduceusref14_Check.mono _ _ _
      | exact LeO.none _
      | refine LeO.ite ?_ ?_
      | refine LeO.bind ?_ (fun _ => ?_)
set_option maxHeartbeats 8000000 in
set_option maxRecDepth 100000 in
theorem caduceusref14_Turn.calls (k : Nat) (a0_0 : Int) (A0_1 : Option Addr) (c0_1 : Nat) (l0_1 : List (S62)) (a1 : Int) (a2 : Bool) (r1 : Int) (r2 : List (S62)) (r3 : Int) (w : World) (hr0_1 : Kd.C k62 w A0_1 l0_1.length l0_1) (hc0_1 : l0_1.length ≤ c0_1) (h : caduceusref14_Turn.f k a0_0 l0_1 a1 a2 = some (r1, r2, r3)) :
    Calls Try.prog 10 #[.agg #[.int .i64 a0_0, .slice A0_1 l0_1.length c0_1], .int .i64 a1, .bool a2] w fun e w' => ∃ v1_ : Value, e = .returned (.tuple #[.agg #[.int .i64 r1, v1_], .int .i64 r3]) ∧ Kd.R k62 62 w' w.heap.size (fun _ => True) v1_ r2 ∧ Below w.heap.size w w' := by
  have hu32 := Try.underlying32
  have hu62 := Try.underlying62
  have HR0_1 := Aside0.mk hr0_1
  have HC0_1 := Aside0.mk hc0_1
  clear hr0_1 hc0_1
  have HB := Aside0.mk (Below.refl w.heap.size w)
  have H : ((caduceusref14_Check.f k a0_0 l0_1).bind fun t218 => (if t218 = true then (caduceusref14_Turn.l0 k a1 a2 4 0 a0_0 l0_1 a0_0 ([] : List (S62))) else (some (0, ([] : List (S62)), 1)))) = some (r1, r2, r3) := h
  clear h
  replace H := Option.bind_eq_some_iff.mp H
  obtain ⟨t218, A40, H⟩ := H
  replace H : (if t218 = true then (caduceusref14_Turn.l0 k a1 a2 4 0 a0_0 l0_1 a0_0 ([] : List (S62))) else (some (0, ([] : List (S62)), 1))) = some (r1, r2, r3) := H
  have A4 := Aside0.mk A40
  clear A40
  by_cases c5 : t218 = true
  · subst c5
    have H1 : (caduceusref14_Turn.l0 k a1 a2 4 0 a0_0 l0_1 a0_0 ([] : List (S62))) = some (r1, r2, r3) := by rw [if_pos rfl] at H; exact H
    clear H
    have H := H1
    clear H1
    have H' := Aside0.mk H
    clear H
    go_enter Try.func10, Try.ntmps10
    go_wp2_with (first | ((with_reducible refine gate_dst (N := 3) rfl ?_); refine box_event ?hg (N := 3) ?hd (cs := #[.int .i64 a0_0, .slice A0_1 l0_1.length c0_1]) (t := 32) ?hr ?_; (case hd => rfl); (case hg => rfl); (case hr => first | (go_simp; done) | (go_simp; rfl)); intro gb216 hg w6 hbox hb; have n0_ := Aside0.mk (below_step (by repeat (first | (with_reducible first | exact HB.out | apply below_alloc | apply pw_below_drewN | apply below_drew1) | exact HB.out)) hb); have n1_ := Aside0.mk (hbox); have n2_ := Aside0.mk ((by rw [hg]; exact (below_size (by repeat (first | (with_reducible first | exact HB.out | apply below_alloc | apply pw_below_drewN | apply below_drew1) | exact HB.out))) : w.heap.size ≤ gb216)); have n3_ := Aside0.mk ((by rw [hg]; exact (below_size (by repeat (first | (with_reducible first | exact HB.out | apply below_alloc | apply pw_below_drewN | apply below_drew1) | exact HB.out))) : w.heap.size ≤ gb216)); clear HB; have HB := n0_; have BK216 := n1_; have GW216 := n2_; have GE216 := n3_; clear n0_ n1_ n2_ n3_; clear hb hbox hg) | ((with_reducible refine gate_dst (N := 6) rfl ?_); refine box_event ?hg (N := 6) ?hd (cs := #[.int .i64 0, .slice none 0 0]) (t := 32) ?hr ?_; (case hd => rfl); (case hg => rfl); (case hr => first | (go_simp; done) | (go_simp; rfl)); intro gb217 hg w7 hbox hb; have n0_ := Aside0.mk (blk_below (g := gb216) (o := .cells #[.int .i64 a0_0, .slice A0_1 l0_1.length c0_1] 32 (0, 0)) (by (with_reducible repeat (first | refine blk_drewN ?_ _ | refine blk_drew ?_ | refine blk_alloc ?_ _)); exact BK216.out) hb); have n1_ := Aside0.mk (below_step (by repeat (first | (with_reducible first | exact HB.out | apply below_alloc | apply pw_below_drewN | apply below_drew1 | refine below_set ?_ GE216.out) | exact HB.out)) hb); have n2_ := Aside0.mk (hbox); have n3_ := Aside0.mk ((by rw [hg]; exact (below_size (by repeat (first | (with_reducible first | exact HB.out | apply below_alloc | apply pw_below_drewN | apply below_drew1 | refine below_set ?_ GE216.out) | exact HB.out))) : w.heap.size ≤ gb217)); have n4_ := Aside0.mk ((by rw [hg]; exact (below_size (by repeat (first | (with_reducible first | exact HB.out | apply below_alloc | apply pw_below_drewN | apply below_drew1 | refine below_set ?_ GE216.out) | exact HB.out))) : w.heap.size ≤ gb217)); have n5_ := Aside0.mk ((by rw [hg]; exact Nat.ne_of_lt (blk_lt (g := gb216) (o := .cells #[.int .i64 a0_0, .slice A0_1 l0_1.length c0_1] 32 (0, 0)) (by (with_reducible repeat (first | refine blk_drewN ?_ _ | refine blk_drew ?_ | refine blk_alloc ?_ _)); exact BK216.out)) : gb216 ≠ gb217)); have n6_ := Aside0.mk ((by rw [hg]; exact Nat.ne_of_gt (blk_lt (g := gb216) (o := .cells #[.int .i64 a0_0, .slice A0_1 l0_1.length c0_1] 32 (0, 0)) (by (with_reducible repeat (first | refine blk_drewN ?_ _ | refine blk_drew ?_ | refine blk_alloc ?_ _)); exact BK216.out)) : gb217 ≠ gb216)); clear BK216; clear HB; have BK216 := n0_; have HB := n1_; have BK217 := n2_; have GW217 := n3_; have GE217 := n4_; have NB216_217 := n5_; have NB217_216 := n6_; clear n0_ n1_ n2_ n3_ n4_ n5_ n6_; clear hb hbox hg; have hnb8 := NB216_217.out; have hnc8 := NB217_216.out; have hcz9_0 : w7.cell? ⟨gb216, 0, none⟩ = some (.int .i64 a0_0) := (blk_cell BK216.out 0).trans rfl; have hcz9_1 : w7.cell? ⟨gb216, 1, none⟩ = some (.slice A0_1 l0_1.length c0_1) := (blk_cell BK216.out 1).trans rfl; have hfz9_0 := blk_frozen BK216.out 0; have hfz9_1 := blk_frozen BK216.out 1) | ((with_reducible refine gate_callee (f := 18) rfl ?_); refine goesL_ (some 13) rfl rfl Try.func18 (by kernel_rfl) rfl #[.agg #[.int .i64 a0_0, .slice A0_1 l0_1.length c0_1]] rfl (by (try simp only [List.map_toArray, List.map_cons, List.map_nil]); first | done | rfl | (simp only [List.length_drop, List.length_take]; rfl)) ?_; (with_reducible refine (caduceusref14_Check.calls k a0_0 _ _ l0_1 true _ ?side1 ?side2 A4.out).mono ?_); (case side1 => repeat (first | exact (Kd.C_below HR0_1.out HB.out) | (with_reducible refine Kd.C_alloc ?_ _) | (with_reducible refine Kd.C_drewN ?_ _) | (with_reducible refine Kd.C_drew ?_))); (case side2 => exact HC0_1.out); rintro e w10 ⟨rfl, hb⟩; refine ⟨_, rfl, ?_⟩; have n0_ := Aside0.mk (blk_below (g := gb216) (o := .cells #[.int .i64 a0_0, .slice A0_1 l0_1.length c0_1] 32 (0, 0)) (by (with_reducible repeat (first | refine blk_drewN ?_ _ | refine blk_drew ?_ | refine blk_alloc ?_ _)); exact BK216.out) hb); have n1_ := Aside0.mk (blk_below (g := gb217) (o := .cells #[.int .i64 0, .slice none 0 0] 32 (0, 0)) (by (with_reducible repeat (first | refine blk_drewN ?_ _ | refine blk_drew ?_ | refine blk_alloc ?_ _)); exact BK217.out) hb); have n2_ := Aside0.mk (below_step (by repeat (first | (with_reducible first | exact HB.out | apply below_alloc | apply pw_below_drewN | apply below_drew1 | refine below_set ?_ GE216.out | refine below_set ?_ GE217.out) | exact HB.out)) hb); clear BK216; clear BK217; clear HB; have BK216 := n0_; have BK217 := n1_; have HB := n2_; clear n0_ n1_ n2_; (try clear hb); (try clear hb2); (try clear hk); (try clear hi); have hcz11_0 : w10.cell? ⟨gb216, 0, none⟩ = some (.int .i64 a0_0) := (blk_cell BK216.out 0).trans rfl; have hcz11_1 : w10.cell? ⟨gb216, 1, none⟩ = some (.slice A0_1 l0_1.length c0_1) := (blk_cell BK216.out 1).trans rfl; have hfz11_0 := blk_frozen BK216.out 0; have hfz11_1 := blk_frozen BK216.out 1) | ((with_reducible refine gate_dst (N := 8) rfl ?_); refine box_event ?hg (N := 8) ?hd (cs := #[.int .i64 0, .slice none 0 0]) (t := 32) ?hr ?_; (case hd => rfl); (case hg => rfl); (case hr => first | (go_simp; done) | (go_simp; rfl)); intro gb219 hg w12 hbox hb; have n0_ := Aside0.mk (blk_below (g := gb216) (o := .cells #[.int .i64 a0_0, .slice A0_1 l0_1.length c0_1] 32 (0, 0)) (by (with_reducible repeat (first | refine blk_drewN ?_ _ | refine blk_drew ?_ | refine blk_alloc ?_ _)); exact BK216.out) hb); have n1_ := Aside0.mk (blk_below (g := gb217) (o := .cells #[.int .i64 0, .slice none 0 0] 32 (0, 0)) (by (with_reducible repeat (first | refine blk_drewN ?_ _ | refine blk_drew ?_ | refine blk_alloc ?_ _)); exact BK217.out) hb); have n2_ := Aside0.mk (below_step (by repeat (first | (with_reducible first | exact HB.out | apply below_alloc | apply pw_below_drewN | apply below_drew1 | refine below_set ?_ GE216.out | refine below_set ?_ GE217.out) | exact HB.out)) hb); have n3_ := Aside0.mk (hbox); have n4_ := Aside0.mk ((by rw [hg]; exact (below_size (by repeat (first | (with_reducible first | exact HB.out | apply below_alloc | apply pw_below_drewN | apply below_drew1 | refine below_set ?_ GE216.out | refine below_set ?_ GE217.out) | exact HB.out))) : w.heap.size ≤ gb219)); have n5_ := Aside0.mk ((by rw [hg]; exact (below_size (by repeat (first | (with_reducible first | exact HB.out | apply below_alloc | apply pw_below_drewN | apply below_drew1 | refine below_set ?_ GE216.out | refine below_set ?_ GE217.out) | exact HB.out))) : w.heap.size ≤ gb219)); have n6_ := Aside0.mk ((by rw [hg]; exact Nat.ne_of_lt (blk_lt (g := gb216) (o := .cells #[.int .i64 a0_0, .slice A0_1 l0_1.length c0_1] 32 (0, 0)) (by (with_reducible repeat (first | refine blk_drewN ?_ _ | refine blk_drew ?_ | refine blk_alloc ?_ _)); exact BK216.out)) : gb216 ≠ gb219)); have n7_ := Aside0.mk ((by rw [hg]; exact Nat.ne_of_gt (blk_lt (g := gb216) (o := .cells #[.int .i64 a0_0, .slice A0_1 l0_1.length c0_1] 32 (0, 0)) (by (with_reducible repeat (first | refine blk_drewN ?_ _ | refine blk_drew ?_ | refine blk_alloc ?_ _)); exact BK216.out)) : gb219 ≠ gb216)); have n8_ := Aside0.mk ((by rw [hg]; exact Nat.ne_of_lt (blk_lt (g := gb217) (o := .cells #[.int .i64 0, .slice none 0 0] 32 (0, 0)) (by (with_reducible repeat (first | refine blk_drewN ?_ _ | refine blk_drew ?_ | refine blk_alloc ?_ _)); exact BK217.out)) : gb217 ≠ gb219)); have n9_ := Aside0.mk ((by rw [hg]; exact Nat.ne_of_gt (blk_lt (g := gb217) (o := .cells #[.int .i64 0, .slice none 0 0] 32 (0, 0)) (by (with_reducible repeat (first | refine blk_drewN ?_ _ | refine blk_drew ?_ | refine blk_alloc ?_ _)); exact BK217.out)) : gb219 ≠ gb217)); clear BK216; clear BK217; clear HB; have BK216 := n0_; have BK217 := n1_; have HB := n2_; have BK219 := n3_; have GW219 := n4_; have GE219 := n5_; have NB216_219 := n6_; have NB219_216 := n7_; have NB217_219 := n8_; have NB219_217 := n9_; clear n0_ n1_ n2_ n3_ n4_ n5_ n6_ n7_ n8_ n9_; clear hb hbox hg; have hnb13 := NB219_216.out; have hnc13 := NB216_219.out; have hnb14 := NB219_217.out; have hnc14 := NB217_219.out; have hcz15_0 : w12.cell? ⟨gb219, 0, none⟩ = some (.int .i64 0) := (blk_cell BK219.out 0).trans rfl; have hcz15_1 : w12.cell? ⟨gb219, 1, none⟩ = some (.slice none 0 0) := (blk_cell BK219.out 1).trans rfl; have hfz15_0 := blk_frozen BK219.out 0; have hfz15_1 := blk_frozen BK219.out 1))
    go_loopg [9, 10] k (fun kq v9 v10 w' => ∃ (x9_1 : Int) (x10_1 : Int) (x220001_1 : List (S62)) (u220001 : Value), v9 = .int .i64 x9_1 ∧ v10 = .int .i64 x10_1 ∧ Aside0 (caduceusref14_Turn.l0 kq a1 a2 x9_1 x10_1 a0_0 l0_1 a0_0 x220001_1 = some (r1, r2, r3)) ∧ Aside0 (kq ≤ k) ∧ Aside0 (Kd.R k62 62 w' w.heap.size (fun _ => True) u220001 x220001_1) ∧ Aside0 (w'.heap[gb216]? = some (.cells #[.int .i64 a0_0, (.slice A0_1 l0_1.length c0_1)] 32 (0, 0))) ∧ Aside0 (w'.heap[gb217]? = some (.cells #[.int .i64 0, (.slice none 0 0)] 32 (0, 0))) ∧ Aside0 (w'.heap[gb219]? = some (.cells #[.int .i64 a0_0, u220001] 32 (0, 0))) ∧ Aside0 (Below w.heap.size w w'))
    case atStart => exact ⟨(4), (0), (([] : List (S62))), (.slice none 0 0), (by first | rfl | (simp; done) | (simp [*]; done)), (by first | rfl | (simp; done) | (simp [*]; done)), H', ⟨Nat.le_refl _⟩, ⟨by first | exact Kd.R_nil _ _ _ _ _ | exact Kd.N_nil _ _ _ _ _ | exact Kd.V_nil _ _ _ _ _ | exact Kd.Q_nil _ _ _ _ _ | exact Kd.S_nil _ _ _ _ _⟩, ⟨by (with_reducible repeat (first | refine blk_drewN ?_ _ | refine blk_drew ?_ | refine blk_alloc ?_ _)); refine blk_far ?_ NB216_219.out _; (with_reducible repeat (first | refine blk_drewN ?_ _ | refine blk_drew ?_ | refine blk_alloc ?_ _)); refine blk_far ?_ NB216_219.out _; (with_reducible repeat (first | refine blk_drewN ?_ _ | refine blk_drew ?_ | refine blk_alloc ?_ _)); exact BK216.out⟩, ⟨by (with_reducible repeat (first | refine blk_drewN ?_ _ | refine blk_drew ?_ | refine blk_alloc ?_ _)); refine blk_far ?_ NB217_219.out _; (with_reducible repeat (first | refine blk_drewN ?_ _ | refine blk_drew ?_ | refine blk_alloc ?_ _)); refine blk_far ?_ NB217_219.out _; (with_reducible repeat (first | refine blk_drewN ?_ _ | refine blk_drew ?_ | refine blk_alloc ?_ _)); exact BK217.out⟩, ⟨by (with_reducible repeat (first | refine blk_drewN ?_ _ | refine blk_drew ?_ | refine blk_alloc ?_ _)); refine blk_put (cs := #[.int .i64 a0_0, .slice none 0 0]) ?_ 1 _ rfl; (with_reducible repeat (first | refine blk_drewN ?_ _ | refine blk_drew ?_ | refine blk_alloc ?_ _)); refine blk_put (cs := #[.int .i64 0, .slice none 0 0]) ?_ 0 _ rfl; (with_reducible repeat (first | refine blk_drewN ?_ _ | refine blk_drew ?_ | refine blk_alloc ?_ _)); exact BK219.out⟩, ⟨by repeat (first | (with_reducible first | exact HB.out | apply below_alloc | apply pw_below_drewN | apply below_drew1 | refine below_set ?_ GE216.out | refine below_set ?_ GE217.out | refine below_set ?_ GE219.out) | exact HB.out)⟩⟩
    case round =>
      clear H'
      try clear c1
      try clear p2
      try clear c5
      try clear c8
      try clear c10
      try clear c13
      try clear c14
      try clear hcz11_0
      try clear hcz11_1
      try clear hcz15_0
      try clear hcz15_1
      try clear hcz9_0
      try clear hcz9_1
      try clear hfz11_0
      try clear hfz11_1
      try clear hfz15_0
      try clear hfz15_1
      try clear hfz9_0
      try clear hfz9_1
      obtain ⟨x9_1, x10_1, x220001_1, u220001, rfl, rfl, HA, HK1, HO_220001, BK216, BK217, BK219, HB⟩ := hrel
      cases gk with
      | zero => exact absurd HA.out (by simp [caduceusref14_Turn.l0])
      | succ k1 =>
        have H := HA.out
        clear HA
        simp only [caduceusref14_Turn.l0] at H
        by_cases c16 : x10_1 < (l0_1.length : Int)
        · rw [if_pos c16] at H
          have c16b0 : decide (x10_1 < (l0_1.length : Int)) = true := decide_eq_true c16
          clear c16
          by_cases c17 : 0 ≤ x10_1
          · rw [if_pos c17] at H
            have c17b0 : decide (0 ≤ x10_1) = true := decide_eq_true c17
            clear c17
            by_cases c18 : ((rd_T62 l0_1 x10_1).f0) = a1
            · rw [if_pos c18] at H
              have c18b0 : (((rd_T62 l0_1 x10_1).f0) == a1) = true := beq_iff_eq.mpr c18
              have c18b1 : (((rd_T62 l0_1 x10_1).f0) != a1) = false := bne_eq_false_iff_eq.mpr c18
              clear c18
              have HC19 := Aside0.mk H
              clear H
              have hnb20 := NB216_217.out
              have hnc20 := NB217_216.out
              have hnb21 := NB216_219.out
              have hnc21 := NB219_216.out
              have hcz22_0 : wr.cell? ⟨gb216, 0, none⟩ = some (.int .i64 a0_0) := (blk_cell BK216.out 0).trans rfl
              have hcz22_1 : wr.cell? ⟨gb216, 1, none⟩ = some (.slice A0_1 l0_1.length c0_1) := (blk_cell BK216.out 1).trans rfl
              have hfz22_0 := blk_frozen BK216.out 0
              have hfz22_1 := blk_frozen BK216.out 1
              have p220 : 0 ≤ (x10_1 : Int) := of_decide_eq_true (by first | (with_reducible assumption) | assumption)
              have q220 : x10_1 < (l0_1.length : Int) := of_decide_eq_true (by first | (with_reducible assumption) | assumption)
              obtain ⟨ad220, e220, hx220_0, hx220_1, hx220_2⟩ := at_T62 HR0_1.out x10_1 p220 q220
              cases e220
              replace hx220_0 := (HB.out.cell (World.block_lt_of_cell? w _ hx220_0)).trans hx220_0
              replace hx220_1 := (HB.out.cell (World.block_lt_of_cell? w _ hx220_1)).trans hx220_1
              replace hx220_2 := (HB.out.cell (World.block_lt_of_cell? w _ hx220_2)).trans hx220_2
              replace p220 := eq_true p220
              replace q220 := eq_true q220
              go_upto_region 11 with (first | ((with_reducible refine gate_dst (N := 11) rfl ?_); refine box_event ?hg (N := 11) ?hd (cs := #[.int .i64 0, .int .i64 0, .bool false]) (t := 62) ?hr ?_; (case hd => rfl); (case hg => rfl); (case hr => first | (go_simp; done) | (go_simp; rfl)); intro gb221 hg w23 hbox hb; have n0_ := Aside0.mk (Kd.R_below (Kd.R_elderB (by (with_reducible repeat (first | apply Kd.R_alloc | apply Kd.R_drewN | apply Kd.R_drew)); exact HO_220001.out) gb221 (Nat.le_of_eq hg.symm)) hb); have n1_ := Aside0.mk (blk_below (g := gb216) (o := .cells #[.int .i64 a0_0, .slice (some ad220) l0_1.length c0_1] 32 (0, 0)) (by (with_reducible repeat (first | refine blk_drewN ?_ _ | refine blk_drew ?_ | refine blk_alloc ?_ _)); exact BK216.out) hb); have n2_ := Aside0.mk (blk_below (g := gb217) (o := .cells #[.int .i64 0, .slice none 0 0] 32 (0, 0)) (by (with_reducible repeat (first | refine blk_drewN ?_ _ | refine blk_drew ?_ | refine blk_alloc ?_ _)); exact BK217.out) hb); have n3_ := Aside0.mk (blk_below (g := gb219) (o := .cells #[.int .i64 a0_0, u220001] 32 (0, 0)) (by (with_reducible repeat (first | refine blk_drewN ?_ _ | refine blk_drew ?_ | refine blk_alloc ?_ _)); exact BK219.out) hb); have n4_ := Aside0.mk (below_step (by repeat (first | (with_reducible first | exact HB.out | apply below_alloc | apply pw_below_drewN | apply below_drew1 | refine below_set ?_ GE216.out | refine below_set ?_ GE217.out | refine below_set ?_ GE219.out) | exact HB.out)) hb); have n5_ := Aside0.mk (hbox); have n6_ := Aside0.mk ((by rw [hg]; exact (below_size (by repeat (first | (with_reducible first | exact HB.out | apply below_alloc | apply pw_below_drewN | apply below_drew1 | refine below_set ?_ GE216.out | refine below_set ?_ GE217.out | refine below_set ?_ GE219.out) | exact HB.out))) : w.heap.size ≤ gb221)); have n7_ := Aside0.mk ((by rw [hg]; exact (below_size (by repeat (first | (with_reducible first | exact HB.out | apply below_alloc | apply pw_below_drewN | apply below_drew1 | refine below_set ?_ GE216.out | refine below_set ?_ GE217.out | refine below_set ?_ GE219.out) | exact HB.out))) : w.heap.size ≤ gb221)); have n8_ := Aside0.mk ((by rw [hg]; exact Nat.ne_of_lt (blk_lt (g := gb216) (o := .cells #[.int .i64 a0_0, .slice (some ad220) l0_1.length c0_1] 32 (0, 0)) (by (with_reducible repeat (first | refine blk_drewN ?_ _ | refine blk_drew ?_ | refine blk_alloc ?_ _)); exact BK216.out)) : gb216 ≠ gb221)); have n9_ := Aside0.mk ((by rw [hg]; exact Nat.ne_of_gt (blk_lt (g := gb216) (o := .cells #[.int .i64 a0_0, .slice (some ad220) l0_1.length c0_1] 32 (0, 0)) (by (with_reducible repeat (first | refine blk_drewN ?_ _ | refine blk_drew ?_ | refine blk_alloc ?_ _)); exact BK216.out)) : gb221 ≠ gb216)); have n10_ := Aside0.mk ((by rw [hg]; exact Nat.ne_of_lt (blk_lt (g := gb217) (o := .cells #[.int .i64 0, .slice none 0 0] 32 (0, 0)) (by (with_reducible repeat (first | refine blk_drewN ?_ _ | refine blk_drew ?_ | refine blk_alloc ?_ _)); exact BK217.out)) : gb217 ≠ gb221)); have n11_ := Aside0.mk ((by rw [hg]; exact Nat.ne_of_gt (blk_lt (g := gb217) (o := .cells #[.int .i64 0, .slice none 0 0] 32 (0, 0)) (by (with_reducible repeat (first | refine blk_drewN ?_ _ | refine blk_drew ?_ | refine blk_alloc ?_ _)); exact BK217.out)) : gb221 ≠ gb217)); have n12_ := Aside0.mk ((by rw [hg]; exact Nat.ne_of_lt (blk_lt (g := gb219) (o := .cells #[.int .i64 a0_0, u220001] 32 (0, 0)) (by (with_reducible repeat (first | refine blk_drewN ?_ _ | refine blk_drew ?_ | refine blk_alloc ?_ _)); exact BK219.out)) : gb219 ≠ gb221)); have n13_ := Aside0.mk ((by rw [hg]; exact Nat.ne_of_gt (blk_lt (g := gb219) (o := .cells #[.int .i64 a0_0, u220001] 32 (0, 0)) (by (with_reducible repeat (first | refine blk_drewN ?_ _ | refine blk_drew ?_ | refine blk_alloc ?_ _)); exact BK219.out)) : gb221 ≠ gb219)); clear HO_220001; clear BK216; clear BK217; clear BK219; clear HB; have HO_220001 := n0_; have BK216 := n1_; have BK217 := n2_; have BK219 := n3_; have HB := n4_; have BK221 := n5_; have GW221 := n6_; have GE221 := n7_; have NB216_221 := n8_; have NB221_216 := n9_; have NB217_221 := n10_; have NB221_217 := n11_; have NB219_221 := n12_; have NB221_219 := n13_; clear n0_ n1_ n2_ n3_ n4_ n5_ n6_ n7_ n8_ n9_ n10_ n11_ n12_ n13_; clear hb hbox hg; have hnb24 := NB221_216.out; have hnc24 := NB216_221.out; have hnb25 := NB221_217.out; have hnc25 := NB217_221.out; have hnb26 := NB221_219.out; have hnc26 := NB219_221.out; have hcz27_0 : w23.cell? ⟨gb221, 0, none⟩ = some (.int .i64 0) := (blk_cell BK221.out 0).trans rfl; have hcz27_1 : w23.cell? ⟨gb221, 1, none⟩ = some (.int .i64 0) := (blk_cell BK221.out 1).trans rfl; have hcz27_2 : w23.cell? ⟨gb221, 2, none⟩ = some (.bool false) := (blk_cell BK221.out 2).trans rfl; have hfz27_0 := blk_frozen BK221.out 0; have hfz27_1 := blk_frozen BK221.out 1; have hfz27_2 := blk_frozen BK221.out 2))
              (try simp only [Act.put, List.setIfInBounds_toArray, List.set_cons_zero, List.set_cons_succ])
              go_cut [41] (fun v41 wc => ∃ (kq : Nat) (x41_18 : Bool), v41 = .bool x41_18 ∧ Aside0 (caduceusref14_Turn.j1 kq a1 a2 0 x10_1 x41_18 a0_0 l0_1 a0_0 x220001_1 ((rd_T62 l0_1 x10_1).f0) ((rd_T62 l0_1 x10_1).f1) ((rd_T62 l0_1 x10_1).f2) = some (r1, r2, r3)) ∧ Aside0 (kq ≤ k1) ∧ Aside0 (Kd.R k62 62 wc w.heap.size (fun k_ => k_ ≠ gb221) u220001 x220001_1) ∧ Aside0 (wc.heap[gb216]? = some (.cells #[.int .i64 a0_0, (.slice (some ad220) l0_1.length c0_1)] 32 (0, 0))) ∧ Aside0 (wc.heap[gb217]? = some (.cells #[.int .i64 0, (.slice none 0 0)] 32 (0, 0))) ∧ Aside0 (wc.heap[gb219]? = some (.cells #[.int .i64 a0_0, u220001] 32 (0, 0))) ∧ Aside0 (wc.heap[gb221]? = some (.cells #[.int .i64 ((rd_T62 l0_1 x10_1).f0), .int .i64 ((rd_T62 l0_1 x10_1).f1), .bool ((rd_T62 l0_1 x10_1).f2)] 62 (0, 0))) ∧ Aside0 (Below w.heap.size w wc))
              case first =>
                have H := HC19.out
                clear HC19
                by_cases c28 : (((rd_T62 l0_1 x10_1).f2) == a2) = true
                · rw [if_pos c28] at H
                  have c28b0 : (((rd_T62 l0_1 x10_1).f2) == a2) = true := c28
                  (try (have c28b1 : decide (((rd_T62 l0_1 x10_1).f2) = a2) = true := by simpa using c28))
                  (try (have c28b2 : (((rd_T62 l0_1 x10_1).f2) == a2) = true := by simpa using c28))
                  clear c28
                  (first | rw [c28b0] | (simp only [i64_w, i32_w]; rw [c28b0]) | skip)
                  have H' := Aside0.mk H
                  clear H
                  have hnb29 := NB221_216.out
                  have hnc29 := NB216_221.out
                  have hnb30 := NB221_217.out
                  have hnc30 := NB217_221.out
                  have hnb31 := NB221_219.out
                  have hnc31 := NB219_221.out
                  have hcz32_0 : w23.cell? ⟨gb221, 0, none⟩ = some (.int .i64 0) := (blk_cell BK221.out 0).trans rfl
                  have hcz32_1 : w23.cell? ⟨gb221, 1, none⟩ = some (.int .i64 0) := (blk_cell BK221.out 1).trans rfl
                  have hcz32_2 : w23.cell? ⟨gb221, 2, none⟩ = some (.bool false) := (blk_cell BK221.out 2).trans rfl
                  have hfz32_0 := blk_frozen BK221.out 0
                  have hfz32_1 := blk_frozen BK221.out 1
                  have hfz32_2 := blk_frozen BK221.out 2
                  go_wp2
                  go_meet
                  case rel => exact ⟨_, (a2), (by first | rfl | (simp; done) | (simp [*]; done)), H', ⟨by have := HK1.out; first | omega | exact Nat.le_refl _⟩, ⟨by (with_reducible repeat (first | apply Kd.R_alloc | apply Kd.R_drewN | apply Kd.R_drew)); exact Kd.R_mono (Kd.R_far (p := ⟨gb221, 2, none⟩) (Kd.R_far (p := ⟨gb221, 1, none⟩) (Kd.R_far (p := ⟨gb221, 0, none⟩) (Kd.R_mono HO_220001.out (fun k_ hk => (⟨hk, hk.2⟩ : _ ∧ k_ ≠ gb221))) (fun _ hk => hk.2) (.int .i64 ((rd_T62 l0_1 x10_1).f0))) (fun _ hk => hk.2) (.int .i64 ((rd_T62 l0_1 x10_1).f1))) (fun _ hk => hk.2) (.bool ((rd_T62 l0_1 x10_1).f2))) (fun _ hk => hk.1.2)⟩, ⟨by (with_reducible repeat (first | refine blk_drewN ?_ _ | refine blk_drew ?_ | refine blk_alloc ?_ _)); refine blk_far ?_ NB216_221.out _; (with_reducible repeat (first | refine blk_drewN ?_ _ | refine blk_drew ?_ | refine blk_alloc ?_ _)); refine blk_far ?_ NB216_221.out _; (with_reducible repeat (first | refine blk_drewN ?_ _ | refine blk_drew ?_ | refine blk_alloc ?_ _)); refine blk_far ?_ NB216_221.out _; (with_reducible repeat (first | refine blk_drewN ?_ _ | refine blk_drew ?_ | refine blk_alloc ?_ _)); exact BK216.out⟩, ⟨by (with_reducible repeat (first | refine blk_drewN ?_ _ | refine blk_drew ?_ | refine blk_alloc ?_ _)); refine blk_far ?_ NB217_221.out _; (with_reducible repeat (first | refine blk_drewN ?_ _ | refine blk_drew ?_ | refine blk_alloc ?_ _)); refine blk_far ?_ NB217_221.out _; (with_reducible repeat (first | refine blk_drewN ?_ _ | refine blk_drew ?_ | refine blk_alloc ?_ _)); refine blk_far ?_ NB217_221.out _; (with_reducible repeat (first | refine blk_drewN ?_ _ | refine blk_drew ?_ | refine blk_alloc ?_ _)); exact BK217.out⟩, ⟨by (with_reducible repeat (first | refine blk_drewN ?_ _ | refine blk_drew ?_ | refine blk_alloc ?_ _)); refine blk_far ?_ NB219_221.out _; (with_reducible repeat (first | refine blk_drewN ?_ _ | refine blk_drew ?_ | refine blk_alloc ?_ _)); refine blk_far ?_ NB219_221.out _; (with_reducible repeat (first | refine blk_drewN ?_ _ | refine blk_drew ?_ | refine blk_alloc ?_ _)); refine blk_far ?_ NB219_221.out _; (with_reducible repeat (first | refine blk_drewN ?_ _ | refine blk_drew ?_ | refine blk_alloc ?_ _)); exact BK219.out⟩, ⟨by (with_reducible repeat (first | refine blk_drewN ?_ _ | refine blk_drew ?_ | refine blk_alloc ?_ _)); refine blk_put (cs := #[.int .i64 ((rd_T62 l0_1 x10_1).f0), .int .i64 ((rd_T62 l0_1 x10_1).f1), .bool false]) ?_ 2 _ rfl; (with_reducible repeat (first | refine blk_drewN ?_ _ | refine blk_drew ?_ | refine blk_alloc ?_ _)); refine blk_put (cs := #[.int .i64 ((rd_T62 l0_1 x10_1).f0), .int .i64 0, .bool false]) ?_ 1 _ rfl; (with_reducible repeat (first | refine blk_drewN ?_ _ | refine blk_drew ?_ | refine blk_alloc ?_ _)); refine blk_put (cs := #[.int .i64 0, .int .i64 0, .bool false]) ?_ 0 _ rfl; (with_reducible repeat (first | refine blk_drewN ?_ _ | refine blk_drew ?_ | refine blk_alloc ?_ _)); exact BK221.out⟩, ⟨by repeat (first | (with_reducible first | exact HB.out | apply below_alloc | apply pw_below_drewN | apply below_drew1 | refine below_set ?_ GE216.out | refine below_set ?_ GE217.out | refine below_set ?_ GE219.out | refine below_set ?_ GE221.out) | exact HB.out)⟩⟩
                · rw [if_neg c28] at H
                  have c28b0 : (((rd_T62 l0_1 x10_1).f2) == a2) = false := by simpa using c28
                  (try (have c28b1 : decide (((rd_T62 l0_1 x10_1).f2) = a2) = false := by simpa using c28))
                  (try (have c28b2 : (((rd_T62 l0_1 x10_1).f2) == a2) = false := by simpa using c28))
                  (try (have c28b3 : ¬ (((rd_T62 l0_1 x10_1).f2) = a2) := by simpa using c28))
                  clear c28
                  (first | rw [c28b0] | (simp only [i64_w, i32_w]; rw [c28b0]) | skip)
                  have H' := Aside0.mk H
                  clear H
                  have hnb33 := NB221_216.out
                  have hnc33 := NB216_221.out
                  have hnb34 := NB221_217.out
                  have hnc34 := NB217_221.out
                  have hnb35 := NB221_219.out
                  have hnc35 := NB219_221.out
                  have hcz36_0 : w23.cell? ⟨gb221, 0, none⟩ = some (.int .i64 0) := (blk_cell BK221.out 0).trans rfl
                  have hcz36_1 : w23.cell? ⟨gb221, 1, none⟩ = some (.int .i64 0) := (blk_cell BK221.out 1).trans rfl
                  have hcz36_2 : w23.cell? ⟨gb221, 2, none⟩ = some (.bool false) := (blk_cell BK221.out 2).trans rfl
                  have hfz36_0 := blk_frozen BK221.out 0
                  have hfz36_1 := blk_frozen BK221.out 1
                  have hfz36_2 := blk_frozen BK221.out 2
                  go_wp2
                  go_meet
                  case rel => exact ⟨_, (false), (by first | rfl | (simp; done) | (simp [*]; done)), H', ⟨by have := HK1.out; first | omega | exact Nat.le_refl _⟩, ⟨by (with_reducible repeat (first | apply Kd.R_alloc | apply Kd.R_drewN | apply Kd.R_drew)); exact Kd.R_mono (Kd.R_far (p := ⟨gb221, 2, none⟩) (Kd.R_far (p := ⟨gb221, 1, none⟩) (Kd.R_far (p := ⟨gb221, 0, none⟩) (Kd.R_mono HO_220001.out (fun k_ hk => (⟨hk, hk.2⟩ : _ ∧ k_ ≠ gb221))) (fun _ hk => hk.2) (.int .i64 ((rd_T62 l0_1 x10_1).f0))) (fun _ hk => hk.2) (.int .i64 ((rd_T62 l0_1 x10_1).f1))) (fun _ hk => hk.2) (.bool ((rd_T62 l0_1 x10_1).f2))) (fun _ hk => hk.1.2)⟩, ⟨by (with_reducible repeat (first | refine blk_drewN ?_ _ | refine blk_drew ?_ | refine blk_alloc ?_ _)); refine blk_far ?_ NB216_221.out _; (with_reducible repeat (first | refine blk_drewN ?_ _ | refine blk_drew ?_ | refine blk_alloc ?_ _)); refine blk_far ?_ NB216_221.out _; (with_reducible repeat (first | refine blk_drewN ?_ _ | refine blk_drew ?_ | refine blk_alloc ?_ _)); refine blk_far ?_ NB216_221.out _; (with_reducible repeat (first | refine blk_drewN ?_ _ | refine blk_drew ?_ | refine blk_alloc ?_ _)); exact BK216.out⟩, ⟨by (with_reducible repeat (first | refine blk_drewN ?_ _ | refine blk_drew ?_ | refine blk_alloc ?_ _)); refine blk_far ?_ NB217_221.out _; (with_reducible repeat (first | refine blk_drewN ?_ _ | refine blk_drew ?_ | refine blk_alloc ?_ _)); refine blk_far ?_ NB217_221.out _; (with_reducible repeat (first | refine blk_drewN ?_ _ | refine blk_drew ?_ | refine blk_alloc ?_ _)); refine blk_far ?_ NB217_221.out _; (with_reducible repeat (first | refine blk_drewN ?_ _ | refine blk_drew ?_ | refine blk_alloc ?_ _)); exact BK217.out⟩, ⟨by (with_reducible repeat (first | refine blk_drewN ?_ _ | refine blk_drew ?_ | refine blk_alloc ?_ _)); refine blk_far ?_ NB219_221.out _; (with_reducible repeat (first | refine blk_drewN ?_ _ | refine blk_drew ?_ | refine blk_alloc ?_ _)); refine blk_far ?_ NB219_221.out _; (with_reducible repeat (first | refine blk_drewN ?_ _ | refine blk_drew ?_ | refine blk_alloc ?_ _)); refine blk_far ?_ NB219_221.out _; (with_reducible repeat (first | refine blk_drewN ?_ _ | refine blk_drew ?_ | refine blk_alloc ?_ _)); exact BK219.out⟩, ⟨by (with_reducible repeat (first | refine blk_drewN ?_ _ | refine blk_drew ?_ | refine blk_alloc ?_ _)); refine blk_put (cs := #[.int .i64 ((rd_T62 l0_1 x10_1).f0), .int .i64 ((rd_T62 l0_1 x10_1).f1), .bool false]) ?_ 2 _ rfl; (with_reducible repeat (first | refine blk_drewN ?_ _ | refine blk_drew ?_ | refine blk_alloc ?_ _)); refine blk_put (cs := #[.int .i64 ((rd_T62 l0_1 x10_1).f0), .int .i64 0, .bool false]) ?_ 1 _ rfl; (with_reducible repeat (first | refine blk_drewN ?_ _ | refine blk_drew ?_ | refine blk_alloc ?_ _)); refine blk_put (cs := #[.int .i64 0, .int .i64 0, .bool false]) ?_ 0 _ rfl; (with_reducible repeat (first | refine blk_drewN ?_ _ | refine blk_drew ?_ | refine blk_alloc ?_ _)); exact BK221.out⟩, ⟨by repeat (first | (with_reducible first | exact HB.out | apply below_alloc | apply pw_below_drewN | apply below_drew1 | refine below_set ?_ GE216.out | refine below_set ?_ GE217.out | refine below_set ?_ GE219.out | refine below_set ?_ GE221.out) | exact HB.out)⟩⟩
              case rest =>
                clear HC19
                try clear c1
                try clear c2
                try clear p2
                try clear q2
                try clear hx2
                try clear c3
                try clear c5
                try clear c8
                try clear c10
                try clear c13
                try clear c14
                try clear c16
                try clear c16b0
                try clear c17
                try clear c17b0
                try clear c18
                try clear c18b0
                try clear c18b1
                try clear c20
                try clear c21
                try clear p22
                try clear q22
                try clear hx22
                try clear c24
                try clear c25
                try clear c26
                try clear c28
                try clear c28b0
                try clear c28b1
                try clear c28b2
                try clear c29
                try clear c30
                try clear c31
                try clear c33
                try clear c34
                try clear c35
                try clear hcz11_0
                try clear hcz11_1
                try clear hcz15_0
                try clear hcz15_1
                try clear hcz22_0
                try clear hcz22_1
                try clear hcz27_0
                try clear hcz27_1
                try clear hcz27_2
                try clear hcz32_0
                try clear hcz32_1
                try clear hcz32_2
                try clear hcz36_0
                try clear hcz36_1
                try clear hcz36_2
                try clear hcz9_0
                try clear hcz9_1
                try clear hfz11_0
                try clear hfz11_1
                try clear hfz15_0
                try clear hfz15_1
                try clear hfz22_0
                try clear hfz22_1
                try clear hfz27_0
                try clear hfz27_1
                try clear hfz27_2
                try clear hfz32_0
                try clear hfz32_1
                try clear hfz32_2
                try clear hfz36_0
                try clear hfz36_1
                try clear hfz36_2
                try clear hfz9_0
                try clear hfz9_1
                try clear hx220_0
                try clear hx220_1
                try clear hx220_2
                try clear p2
                try clear p220
                try clear q220
                obtain ⟨kq, x41_18, rfl, HA, HJ18, HO_220001, BK216, BK217, BK219, BK221, HB⟩ := hcut
                cases kq with
                | zero => exact absurd HA.out (by simp [caduceusref14_Turn.j1])
                | succ kj18 =>
                  have H := HA.out
                  clear HA
                  simp only [caduceusref14_Turn.j1] at H
                  by_cases c37 : x41_18 = true
                  · subst c37
                    have H1 : (if a2 = true then (if 5 = 0 then (if x220001_1.length < 5864062014805 then (caduceusref14_Turn.l0 kj18 a1 a2 5 (wrap64 (x10_1 + 1)) a0_0 l0_1 a0_0 (x220001_1 ++ [(⟨((rd_T62 l0_1 x10_1).f0), wrap64 (((rd_T62 l0_1 x10_1).f1) + 1), a2⟩ : S62)])) else (none)) else (if x220001_1.length < 5864062014805 then (caduceusref14_Turn.l0 kj18 a1 a2 5 (wrap64 (x10_1 + 1)) a0_0 l0_1 a0_0 (x220001_1 ++ [(⟨((rd_T62 l0_1 x10_1).f0), ((rd_T62 l0_1 x10_1).f1), a2⟩ : S62)])) else (none))) else (if x220001_1.length < 5864062014805 then (caduceusref14_Turn.l0 kj18 a1 a2 5 (wrap64 (x10_1 + 1)) a0_0 l0_1 a0_0 (x220001_1 ++ [(⟨((rd_T62 l0_1 x10_1).f0), ((rd_T62 l0_1 x10_1).f1), a2⟩ : S62)])) else (none))) = some (r1, r2, r3) := by rw [if_pos rfl] at H; exact H
                    clear H
                    have H := H1
                    clear H1
                    by_cases c38 : a2 = true
                    · subst c38
                      have H1 : (if 5 = 0 then (if x220001_1.length < 5864062014805 then (caduceusref14_Turn.l0 kj18 a1 true 5 (wrap64 (x10_1 + 1)) a0_0 l0_1 a0_0 (x220001_1 ++ [(⟨((rd_T62 l0_1 x10_1).f0), wrap64 (((rd_T62 l0_1 x10_1).f1) + 1), true⟩ : S62)])) else (none)) else (if x220001_1.length < 5864062014805 then (caduceusref14_Turn.l0 kj18 a1 true 5 (wrap64 (x10_1 + 1)) a0_0 l0_1 a0_0 (x220001_1 ++ [(⟨((rd_T62 l0_1 x10_1).f0), ((rd_T62 l0_1 x10_1).f1), true⟩ : S62)])) else (none))) = some (r1, r2, r3) := by rw [if_pos rfl] at H; exact H
                      clear H
                      have H := H1
                      clear H1
                      by_cases c39 : 5 = 0
                      · exact absurd c39 (by decide)
                      · rw [if_neg c39] at H
                        have c39b0 : (5 == 0) = false := beq_eq_false_iff_ne.mpr c39
                        have c39b1 : (5 != 0) = true := bne_iff_ne.mpr c39
                        by_cases c51 : x220001_1.length < 5864062014805
                        · rw [if_pos c51] at H
                          have LMc51 := Aside0.mk c51
                          clear c51
                          obtain ⟨y225, hy225⟩ : ∃ y_ : List (S62), y_ = (x220001_1 ++ [(⟨((rd_T62 l0_1 x10_1).f0), ((rd_T62 l0_1 x10_1).f1), true⟩ : S62)]) := ⟨_, rfl⟩
                          replace H : (caduceusref14_Turn.l0 kj18 a1 true 5 (wrap64 (x10_1 + 1)) a0_0 l0_1 a0_0 y225) = some (r1, r2, r3) := by first | (rw [hy225]; with_reducible exact H) | (have H2_ := (Option.bind_some _ _).symm.trans H; rw [hy225]; with_reducible exact H2_) | (have H2_ := (Option.bind_some _ _).symm.trans H; with_reducible exact H2_) | with_reducible exact H | (rw [hy225]; exact H) | exact H
                          have Ny225 := Aside0.mk hy225
                          clear hy225
                          have H' := Aside0.mk H
                          clear H
                          have hnb52 := NB221_216.out
                          have hnc52 := NB216_221.out
                          have hnb53 := NB221_217.out
                          have hnc53 := NB217_221.out
                          have hnb54 := NB221_219.out
                          have hnc54 := NB219_221.out
                          have hcz55_0 : wc.cell? ⟨gb221, 0, none⟩ = some (.int .i64 ((rd_T62 l0_1 x10_1).f0)) := (blk_cell BK221.out 0).trans rfl
                          have hcz55_1 : wc.cell? ⟨gb221, 1, none⟩ = some (.int .i64 ((rd_T62 l0_1 x10_1).f1)) := (blk_cell BK221.out 1).trans rfl
                          have hcz55_2 : wc.cell? ⟨gb221, 2, none⟩ = some (.bool ((rd_T62 l0_1 x10_1).f2)) := (blk_cell BK221.out 2).trans rfl
                          have hfz55_0 := blk_frozen BK221.out 0
                          have hfz55_1 := blk_frozen BK221.out 1
                          have hfz55_2 := blk_frozen BK221.out 2
                          have hnb56 := NB219_216.out
                          have hnc56 := NB216_219.out
                          have hnb57 := NB219_217.out
                          have hnc57 := NB217_219.out
                          have hcz58_0 : wc.cell? ⟨gb219, 0, none⟩ = some (.int .i64 a0_0) := (blk_cell BK219.out 0).trans rfl
                          have hcz58_1 : wc.cell? ⟨gb219, 1, none⟩ = some (u220001) := (blk_cell BK219.out 1).trans rfl
                          have hfz58_0 := blk_frozen BK219.out 0
                          have hfz58_1 := blk_frozen BK219.out 1
                          go_wp2_with (first | ((with_reducible refine gate_builtin (b := .append) (xs := #[.tmp 69, .tmp 71]) rfl ?_); at_builtin; refine Kd.R_append k62 (w0 := w) w.heap.size rfl (.tmp 69) (.tmp 71) 30 62 (.agg #[(.int .i64 0), (.int .i64 0), (.bool false)]) 24 rfl Try.underlying30 info62 rfl (by decide) (by omega) u220001 x220001_1 (⟨((rd_T62 l0_1 x10_1).f0), ((rd_T62 l0_1 x10_1).f1), true⟩ : S62) [.int .i64 ((rd_T62 l0_1 x10_1).f0), .int .i64 ((rd_T62 l0_1 x10_1).f1), .bool true] (fun k_ => k_ ≠ gb221) (fun _ => False) rfl (by first | (go_simp; done) | (go_simp; rfl)) ?aP (fun _ hk => hk.elim) ?aF ?aO ?aB ?aS ?aL ?_; (case aP => exact k62_mkM _ _ _ (⟨((rd_T62 l0_1 x10_1).f0), ((rd_T62 l0_1 x10_1).f1), true⟩ : S62)); (case aB => exact (by repeat (first | (with_reducible first | exact HB.out | apply below_alloc | apply pw_below_drewN | apply below_drew1 | refine below_set ?_ GE216.out | refine below_set ?_ GE217.out | refine below_set ?_ GE219.out | refine below_set ?_ GE221.out) | exact HB.out))); (case aF => exact (fun k_ hk => Kd.freshB (g := gb221) (o := .cells #[.int .i64 ((rd_T62 l0_1 x10_1).f0), .int .i64 ((rd_T62 l0_1 x10_1).f1), .bool true] 62 (0, 0)) (by (with_reducible repeat (first | refine blk_drewN ?_ _ | refine blk_drew ?_ | refine blk_alloc ?_ _)); refine blk_put (cs := #[.int .i64 ((rd_T62 l0_1 x10_1).f0), .int .i64 ((rd_T62 l0_1 x10_1).f1), .bool ((rd_T62 l0_1 x10_1).f2)]) ?_ 2 _ rfl; (with_reducible repeat (first | refine blk_drewN ?_ _ | refine blk_drew ?_ | refine blk_alloc ?_ _)); exact BK221.out) k_ hk)); (case aO => exact (by (with_reducible repeat (first | apply Kd.R_alloc | apply Kd.R_drewN | apply Kd.R_drew)); exact Kd.R_mono (Kd.R_far (p := ⟨gb221, 2, none⟩) (Kd.R_mono HO_220001.out (fun k_ hk => (⟨hk, hk⟩ : _ ∧ k_ ≠ gb221))) (fun _ hk => hk.2) (.bool true)) (fun _ hk => hk.1))); (case aS => exact (below_size (by repeat (first | (with_reducible first | exact HB.out | apply below_alloc | apply pw_below_drewN | apply below_drew1 | refine below_set ?_ GE216.out | refine below_set ?_ GE217.out | refine below_set ?_ GE219.out | refine below_set ?_ GE221.out) | exact HB.out)))); (case aL => have := LMc51.out; omega); intro v226 w59 ho hb hg hat; rw [← Ny225.out] at ho; have n0_ := Aside0.mk (blk_grown (g := gb216) (o := .cells #[.int .i64 a0_0, .slice (some ad220) l0_1.length c0_1] 32 (0, 0)) (by (with_reducible repeat (first | refine blk_drewN ?_ _ | refine blk_drew ?_ | refine blk_alloc ?_ _)); refine blk_far ?_ NB216_221.out _; (with_reducible repeat (first | refine blk_drewN ?_ _ | refine blk_drew ?_ | refine blk_alloc ?_ _)); exact BK216.out) hg (Kd.R_ne HO_220001.out BK216.out (by decide))); have n1_ := Aside0.mk (blk_grown (g := gb217) (o := .cells #[.int .i64 0, .slice none 0 0] 32 (0, 0)) (by (with_reducible repeat (first | refine blk_drewN ?_ _ | refine blk_drew ?_ | refine blk_alloc ?_ _)); refine blk_far ?_ NB217_221.out _; (with_reducible repeat (first | refine blk_drewN ?_ _ | refine blk_drew ?_ | refine blk_alloc ?_ _)); exact BK217.out) hg (Kd.R_ne HO_220001.out BK217.out (by decide))); have n2_ := Aside0.mk (blk_grown (g := gb219) (o := .cells #[.int .i64 a0_0, u220001] 32 (0, 0)) (by (with_reducible repeat (first | refine blk_drewN ?_ _ | refine blk_drew ?_ | refine blk_alloc ?_ _)); refine blk_far ?_ NB219_221.out _; (with_reducible repeat (first | refine blk_drewN ?_ _ | refine blk_drew ?_ | refine blk_alloc ?_ _)); exact BK219.out) hg (Kd.R_ne HO_220001.out BK219.out (by decide))); have n3_ := Aside0.mk (blk_grown (g := gb221) (o := .cells #[.int .i64 ((rd_T62 l0_1 x10_1).f0), .int .i64 ((rd_T62 l0_1 x10_1).f1), .bool true] 62 (0, 0)) (by (with_reducible repeat (first | refine blk_drewN ?_ _ | refine blk_drew ?_ | refine blk_alloc ?_ _)); refine blk_put (cs := #[.int .i64 ((rd_T62 l0_1 x10_1).f0), .int .i64 ((rd_T62 l0_1 x10_1).f1), .bool ((rd_T62 l0_1 x10_1).f2)]) ?_ 2 _ rfl; (with_reducible repeat (first | refine blk_drewN ?_ _ | refine blk_drew ?_ | refine blk_alloc ?_ _)); exact BK221.out) hg (Kd.R_away HO_220001.out (fun _ hk => hk))); have n4_ := Aside0.mk (hb); have n5_ := Aside0.mk (ho); clear BK216; clear BK217; clear BK219; clear BK221; clear HB; clear HO_220001; have BK216 := n0_; have BK217 := n1_; have BK219 := n2_; have BK221 := n3_; have HB := n4_; have HO227 := n5_; clear n0_ n1_ n2_ n3_ n4_ n5_; clear ho hb hg hat; obtain ⟨Ao60, co60, eo60⟩ := Kd.R_slice HO227.out; subst eo60; have hcz61_0 : w59.cell? ⟨gb219, 0, none⟩ = some (.int .i64 a0_0) := (blk_cell BK219.out 0).trans rfl; have hcz61_1 : w59.cell? ⟨gb219, 1, none⟩ = some (u220001) := (blk_cell BK219.out 1).trans rfl; have hfz61_0 := blk_frozen BK219.out 0; have hfz61_1 := blk_frozen BK219.out 1))
                          go_roundg kj18
                          case measure => have := HK1.out; have := HJ18.out; omega
                          case rel => exact ⟨(5), (wrap64 (x10_1 + 1)), (y225), (.slice Ao60 y225.length co60), (by first | rfl | (simp; done) | (simp [*]; done)), (by first | rfl | (simp; done) | (simp [*]; done)), H', ⟨by have := HK1.out; have := HJ18.out; omega⟩, ⟨by (with_reducible repeat (first | apply Kd.R_alloc | apply Kd.R_drewN | apply Kd.R_drew)); exact Kd.R_mono (Kd.R_far (p := ⟨gb219, 1, none⟩) (Kd.R_types HO227.out BK219.out (by decide)) (fun _ hk => hk.2) (.slice Ao60 y225.length co60)) (fun _ hk => trivial)⟩, ⟨by (with_reducible repeat (first | refine blk_drewN ?_ _ | refine blk_drew ?_ | refine blk_alloc ?_ _)); refine blk_far ?_ NB216_219.out _; (with_reducible repeat (first | refine blk_drewN ?_ _ | refine blk_drew ?_ | refine blk_alloc ?_ _)); exact BK216.out⟩, ⟨by (with_reducible repeat (first | refine blk_drewN ?_ _ | refine blk_drew ?_ | refine blk_alloc ?_ _)); refine blk_far ?_ NB217_219.out _; (with_reducible repeat (first | refine blk_drewN ?_ _ | refine blk_drew ?_ | refine blk_alloc ?_ _)); exact BK217.out⟩, ⟨by (with_reducible repeat (first | refine blk_drewN ?_ _ | refine blk_drew ?_ | refine blk_alloc ?_ _)); refine blk_put (cs := #[.int .i64 a0_0, u220001]) ?_ 1 _ rfl; (with_reducible repeat (first | refine blk_drewN ?_ _ | refine blk_drew ?_ | refine blk_alloc ?_ _)); exact BK219.out⟩, ⟨by repeat (first | (with_reducible first | exact HB.out | apply below_alloc | apply pw_below_drewN | apply below_drew1 | refine below_set ?_ GE216.out | refine below_set ?_ GE217.out | refine below_set ?_ GE219.out | refine below_set ?_ GE221.out) | exact HB.out)⟩⟩
                        · rw [if_neg c51] at H
                          exact absurd H (by simp)
                    · replace c38 := Bool.eq_false_iff.mpr c38
                      subst c38
                      have H1 : (if x220001_1.length < 5864062014805 then (caduceusref14_Turn.l0 kj18 a1 false 5 (wrap64 (x10_1 + 1)) a0_0 l0_1 a0_0 (x220001_1 ++ [(⟨((rd_T62 l0_1 x10_1).f0), ((rd_T62 l0_1 x10_1).f1), false⟩ : S62)])) else (none)) = some (r1, r2, r3) := by rw [if_neg (show ¬ (false = true) by decide)] at H; exact H
                      clear H
                      have H := H1
                      clear H1
                      by_cases c62 : x220001_1.length < 5864062014805
                      · rw [if_pos c62] at H
                        have LMc62 := Aside0.mk c62
                        clear c62
                        obtain ⟨y228, hy228⟩ : ∃ y_ : List (S62), y_ = (x220001_1 ++ [(⟨((rd_T62 l0_1 x10_1).f0), ((rd_T62 l0_1 x10_1).f1), false⟩ : S62)]) := ⟨_, rfl⟩
                        replace H : (caduceusref14_Turn.l0 kj18 a1 false 5 (wrap64 (x10_1 + 1)) a0_0 l0_1 a0_0 y228) = some (r1, r2, r3) := by first | (rw [hy228]; with_reducible exact H) | (have H2_ := (Option.bind_some _ _).symm.trans H; rw [hy228]; with_reducible exact H2_) | (have H2_ := (Option.bind_some _ _).symm.trans H; with_reducible exact H2_) | with_reducible exact H | (rw [hy228]; exact H) | exact H
                        have Ny228 := Aside0.mk hy228
                        clear hy228
                        have H' := Aside0.mk H
                        clear H
                        have hnb63 := NB221_216.out
                        have hnc63 := NB216_221.out
                        have hnb64 := NB221_217.out
                        have hnc64 := NB217_221.out
                        have hnb65 := NB221_219.out
                        have hnc65 := NB219_221.out
                        have hcz66_0 : wc.cell? ⟨gb221, 0, none⟩ = some (.int .i64 ((rd_T62 l0_1 x10_1).f0)) := (blk_cell BK221.out 0).trans rfl
                        have hcz66_1 : wc.cell? ⟨gb221, 1, none⟩ = some (.int .i64 ((rd_T62 l0_1 x10_1).f1)) := (blk_cell BK221.out 1).trans rfl
                        have hcz66_2 : wc.cell? ⟨gb221, 2, none⟩ = some (.bool ((rd_T62 l0_1 x10_1).f2)) := (blk_cell BK221.out 2).trans rfl
                        have hfz66_0 := blk_frozen BK221.out 0
                        have hfz66_1 := blk_frozen BK221.out 1
                        have hfz66_2 := blk_frozen BK221.out 2
                        have hnb67 := NB219_216.out
                        have hnc67 := NB216_219.out
                        have hnb68 := NB219_217.out
                        have hnc68 := NB217_219.out
                        have hcz69_0 : wc.cell? ⟨gb219, 0, none⟩ = some (.int .i64 a0_0) := (blk_cell BK219.out 0).trans rfl
                        have hcz69_1 : wc.cell? ⟨gb219, 1, none⟩ = some (u220001) := (blk_cell BK219.out 1).trans rfl
                        have hfz69_0 := blk_frozen BK219.out 0
                        have hfz69_1 := blk_frozen BK219.out 1
                        go_wp2_with (first | ((with_reducible refine gate_builtin (b := .append) (xs := #[.tmp 69, .tmp 71]) rfl ?_); at_builtin; refine Kd.R_append k62 (w0 := w) w.heap.size rfl (.tmp 69) (.tmp 71) 30 62 (.agg #[(.int .i64 0), (.int .i64 0), (.bool false)]) 24 rfl Try.underlying30 info62 rfl (by decide) (by omega) u220001 x220001_1 (⟨((rd_T62 l0_1 x10_1).f0), ((rd_T62 l0_1 x10_1).f1), false⟩ : S62) [.int .i64 ((rd_T62 l0_1 x10_1).f0), .int .i64 ((rd_T62 l0_1 x10_1).f1), .bool false] (fun k_ => k_ ≠ gb221) (fun _ => False) rfl (by first | (go_simp; done) | (go_simp; rfl)) ?aP (fun _ hk => hk.elim) ?aF ?aO ?aB ?aS ?aL ?_; (case aP => exact k62_mkM _ _ _ (⟨((rd_T62 l0_1 x10_1).f0), ((rd_T62 l0_1 x10_1).f1), false⟩ : S62)); (case aB => exact (by repeat (first | (with_reducible first | exact HB.out | apply below_alloc | apply pw_below_drewN | apply below_drew1 | refine below_set ?_ GE216.out | refine below_set ?_ GE217.out | refine below_set ?_ GE219.out | refine below_set ?_ GE221.out) | exact HB.out))); (case aF => exact (fun k_ hk => Kd.freshB (g := gb221) (o := .cells #[.int .i64 ((rd_T62 l0_1 x10_1).f0), .int .i64 ((rd_T62 l0_1 x10_1).f1), .bool false] 62 (0, 0)) (by (with_reducible repeat (first | refine blk_drewN ?_ _ | refine blk_drew ?_ | refine blk_alloc ?_ _)); refine blk_put (cs := #[.int .i64 ((rd_T62 l0_1 x10_1).f0), .int .i64 ((rd_T62 l0_1 x10_1).f1), .bool ((rd_T62 l0_1 x10_1).f2)]) ?_ 2 _ rfl; (with_reducible repeat (first | refine blk_drewN ?_ _ | refine blk_drew ?_ | refine blk_alloc ?_ _)); exact BK221.out) k_ hk)); (case aO => exact (by (with_reducible repeat (first | apply Kd.R_alloc | apply Kd.R_drewN | apply Kd.R_drew)); exact Kd.R_mono (Kd.R_far (p := ⟨gb221, 2, none⟩) (Kd.R_mono HO_220001.out (fun k_ hk => (⟨hk, hk⟩ : _ ∧ k_ ≠ gb221))) (fun _ hk => hk.2) (.bool false)) (fun _ hk => hk.1))); (case aS => exact (below_size (by repeat (first | (with_reducible first | exact HB.out | apply below_alloc | apply pw_below_drewN | apply below_drew1 | refine below_set ?_ GE216.out | refine below_set ?_ GE217.out | refine below_set ?_ GE219.out | refine below_set ?_ GE221.out) | exact HB.out)))); (case aL => have := LMc62.out; omega); intro v229 w70 ho hb hg hat; rw [← Ny228.out] at ho; have n0_ := Aside0.mk (blk_grown (g := gb216) (o := .cells #[.int .i64 a0_0, .slice (some ad220) l0_1.length c0_1] 32 (0, 0)) (by (with_reducible repeat (first | refine blk_drewN ?_ _ | refine blk_drew ?_ | refine blk_alloc ?_ _)); refine blk_far ?_ NB216_221.out _; (with_reducible repeat (first | refine blk_drewN ?_ _ | refine blk_drew ?_ | refine blk_alloc ?_ _)); exact BK216.out) hg (Kd.R_ne HO_220001.out BK216.out (by decide))); have n1_ := Aside0.mk (blk_grown (g := gb217) (o := .cells #[.int .i64 0, .slice none 0 0] 32 (0, 0)) (by (with_reducible repeat (first | refine blk_drewN ?_ _ | refine blk_drew ?_ | refine blk_alloc ?_ _)); refine blk_far ?_ NB217_221.out _; (with_reducible repeat (first | refine blk_drewN ?_ _ | refine blk_drew ?_ | refine blk_alloc ?_ _)); exact BK217.out) hg (Kd.R_ne HO_220001.out BK217.out (by decide))); have n2_ := Aside0.mk (blk_grown (g := gb219) (o := .cells #[.int .i64 a0_0, u220001] 32 (0, 0)) (by (with_reducible repeat (first | refine blk_drewN ?_ _ | refine blk_drew ?_ | refine blk_alloc ?_ _)); refine blk_far ?_ NB219_221.out _; (with_reducible repeat (first | refine blk_drewN ?_ _ | refine blk_drew ?_ | refine blk_alloc ?_ _)); exact BK219.out) hg (Kd.R_ne HO_220001.out BK219.out (by decide))); have n3_ := Aside0.mk (blk_grown (g := gb221) (o := .cells #[.int .i64 ((rd_T62 l0_1 x10_1).f0), .int .i64 ((rd_T62 l0_1 x10_1).f1), .bool false] 62 (0, 0)) (by (with_reducible repeat (first | refine blk_drewN ?_ _ | refine blk_drew ?_ | refine blk_alloc ?_ _)); refine blk_put (cs := #[.int .i64 ((rd_T62 l0_1 x10_1).f0), .int .i64 ((rd_T62 l0_1 x10_1).f1), .bool ((rd_T62 l0_1 x10_1).f2)]) ?_ 2 _ rfl; (with_reducible repeat (first | refine blk_drewN ?_ _ | refine blk_drew ?_ | refine blk_alloc ?_ _)); exact BK221.out) hg (Kd.R_away HO_220001.out (fun _ hk => hk))); have n4_ := Aside0.mk (hb); have n5_ := Aside0.mk (ho); clear BK216; clear BK217; clear BK219; clear BK221; clear HB; clear HO_220001; have BK216 := n0_; have BK217 := n1_; have BK219 := n2_; have BK221 := n3_; have HB := n4_; have HO230 := n5_; clear n0_ n1_ n2_ n3_ n4_ n5_; clear ho hb hg hat; obtain ⟨Ao71, co71, eo71⟩ := Kd.R_slice HO230.out; subst eo71; have hcz72_0 : w70.cell? ⟨gb219, 0, none⟩ = some (.int .i64 a0_0) := (blk_cell BK219.out 0).trans rfl; have hcz72_1 : w70.cell? ⟨gb219, 1, none⟩ = some (u220001) := (blk_cell BK219.out 1).trans rfl; have hfz72_0 := blk_frozen BK219.out 0; have hfz72_1 := blk_frozen BK219.out 1))
                        go_roundg kj18
                        case measure => have := HK1.out; have := HJ18.out; omega
                        case rel => exact ⟨(5), (wrap64 (x10_1 + 1)), (y228), (.slice Ao71 y228.length co71), (by first | rfl | (simp; done) | (simp [*]; done)), (by first | rfl | (simp; done) | (simp [*]; done)), H', ⟨by have := HK1.out; have := HJ18.out; omega⟩, ⟨by (with_reducible repeat (first | apply Kd.R_alloc | apply Kd.R_drewN | apply Kd.R_drew)); exact Kd.R_mono (Kd.R_far (p := ⟨gb219, 1, none⟩) (Kd.R_types HO230.out BK219.out (by decide)) (fun _ hk => hk.2) (.slice Ao71 y228.length co71)) (fun _ hk => trivial)⟩, ⟨by (with_reducible repeat (first | refine blk_drewN ?_ _ | refine blk_drew ?_ | refine blk_alloc ?_ _)); refine blk_far ?_ NB216_219.out _; (with_reducible repeat (first | refine blk_drewN ?_ _ | refine blk_drew ?_ | refine blk_alloc ?_ _)); exact BK216.out⟩, ⟨by (with_reducible repeat (first | refine blk_drewN ?_ _ | refine blk_drew ?_ | refine blk_alloc ?_ _)); refine blk_far ?_ NB217_219.out _; (with_reducible repeat (first | refine blk_drewN ?_ _ | refine blk_drew ?_ | refine blk_alloc ?_ _)); exact BK217.out⟩, ⟨by (with_reducible repeat (first | refine blk_drewN ?_ _ | refine blk_drew ?_ | refine blk_alloc ?_ _)); refine blk_put (cs := #[.int .i64 a0_0, u220001]) ?_ 1 _ rfl; (with_reducible repeat (first | refine blk_drewN ?_ _ | refine blk_drew ?_ | refine blk_alloc ?_ _)); exact BK219.out⟩, ⟨by repeat (first | (with_reducible first | exact HB.out | apply below_alloc | apply pw_below_drewN | apply below_drew1 | refine below_set ?_ GE216.out | refine below_set ?_ GE217.out | refine below_set ?_ GE219.out | refine below_set ?_ GE221.out) | exact HB.out)⟩⟩
                      · rw [if_neg c62] at H
                        exact absurd H (by simp)
                  · replace c37 := Bool.eq_false_iff.mpr c37
                    subst c37
                    have H1 : (if (((rd_T62 l0_1 x10_1).f2) == a2) = true then (if a2 = true then (if 12 = 0 then (if x220001_1.length < 5864062014805 then (caduceusref14_Turn.l0 kj18 a1 a2 12 (wrap64 (x10_1 + 1)) a0_0 l0_1 a0_0 (x220001_1 ++ [(⟨((rd_T62 l0_1 x10_1).f0), wrap64 (((rd_T62 l0_1 x10_1).f1) + 1), a2⟩ : S62)])) else (none)) else (if x220001_1.length < 5864062014805 then (caduceusref14_Turn.l0 kj18 a1 a2 12 (wrap64 (x10_1 + 1)) a0_0 l0_1 a0_0 (x220001_1 ++ [(⟨((rd_T62 l0_1 x10_1).f0), ((rd_T62 l0_1 x10_1).f1), a2⟩ : S62)])) else (none))) else (if x220001_1.length < 5864062014805 then (caduceusref14_Turn.l0 kj18 a1 a2 12 (wrap64 (x10_1 + 1)) a0_0 l0_1 a0_0 (x220001_1 ++ [(⟨((rd_T62 l0_1 x10_1).f0), ((rd_T62 l0_1 x10_1).f1), a2⟩ : S62)])) else (none))) else (if a0_0 = 1099511627775 then (caduceusref14_Turn.j2 kj18 a1 a2 0 x10_1 true a0_0 l0_1 a0_0 x220001_1 ((rd_T62 l0_1 x10_1).f0) ((rd_T62 l0_1 x10_1).f1) ((rd_T62 l0_1 x10_1).f2)) else (if a2 = true then (caduceusref14_Turn.j2 kj18 a1 a2 0 x10_1 (((rd_T62 l0_1 x10_1).f1) == 1099511627775) a0_0 l0_1 a0_0 x220001_1 ((rd_T62 l0_1 x10_1).f0) ((rd_T62 l0_1 x10_1).f1) ((rd_T62 l0_1 x10_1).f2)) else (caduceusref14_Turn.j2 kj18 a1 a2 0 x10_1 false a0_0 l0_1 a0_0 x220001_1 ((rd_T62 l0_1 x10_1).f0) ((rd_T62 l0_1 x10_1).f1) ((rd_T62 l0_1 x10_1).f2))))) = some (r1, r2, r3) := by rw [if_neg (show ¬ (false = true) by decide)] at H; exact H
                    clear H
                    have H := H1
                    clear H1
                    by_cases c73 : (((rd_T62 l0_1 x10_1).f2) == a2) = true
                    · rw [if_pos c73] at H
                      have c73b0 : (((rd_T62 l0_1 x10_1).f2) == a2) = true := c73
                      (try (have c73b1 : decide (((rd_T62 l0_1 x10_1).f2) = a2) = true := by simpa using c73))
                      (try (have c73b2 : (((rd_T62 l0_1 x10_1).f2) == a2) = true := by simpa using c73))
                      clear c73
                      by_cases c74 : a2 = true
                      · subst c74
                        have H1 : (if 12 = 0 then (if x220001_1.length < 5864062014805 then (caduceusref14_Turn.l0 kj18 a1 true 12 (wrap64 (x10_1 + 1)) a0_0 l0_1 a0_0 (x220001_1 ++ [(⟨((rd_T62 l0_1 x10_1).f0), wrap64 (((rd_T62 l0_1 x10_1).f1) + 1), true⟩ : S62)])) else (none)) else (if x220001_1.length < 5864062014805 then (caduceusref14_Turn.l0 kj18 a1 true 12 (wrap64 (x10_1 + 1)) a0_0 l0_1 a0_0 (x220001_1 ++ [(⟨((rd_T62 l0_1 x10_1).f0), ((rd_T62 l0_1 x10_1).f1), true⟩ : S62)])) else (none))) = some (r1, r2, r3) := by rw [if_pos rfl] at H; exact H
                        clear H
                        have H := H1
                        clear H1
                        by_cases c75 : 12 = 0
                        · exact absurd c75 (by decide)
                        · rw [if_neg c75] at H
                          have c75b0 : (12 == 0) = false := beq_eq_false_iff_ne.mpr c75
                          have c75b1 : (12 != 0) = true := bne_iff_ne.mpr c75
                          by_cases c87 : x220001_1.length < 5864062014805
                          · rw [if_pos c87] at H
                            have LMc87 := Aside0.mk c87
                            clear c87
                            obtain ⟨y234, hy234⟩ : ∃ y_ : List (S62), y_ = (x220001_1 ++ [(⟨((rd_T62 l0_1 x10_1).f0), ((rd_T62 l0_1 x10_1).f1), true⟩ : S62)]) := ⟨_, rfl⟩
                            replace H : (caduceusref14_Turn.l0 kj18 a1 true 12 (wrap64 (x10_1 + 1)) a0_0 l0_1 a0_0 y234) = some (r1, r2, r3) := by first | (rw [hy234]; with_reducible exact H) | (have H2_ := (Option.bind_some _ _).symm.trans H; rw [hy234]; with_reducible exact H2_) | (have H2_ := (Option.bind_some _ _).symm.trans H; with_reducible exact H2_) | with_reducible exact H | (rw [hy234]; exact H) | exact H
                            have Ny234 := Aside0.mk hy234
                            clear hy234
                            have H' := Aside0.mk H
                            clear H
                            have hnb88 := NB221_216.out
                            have hnc88 := NB216_221.out
                            have hnb89 := NB221_217.out
                            have hnc89 := NB217_221.out
                            have hnb90 := NB221_219.out
                            have hnc90 := NB219_221.out
                            have hcz91_0 : wc.cell? ⟨gb221, 0, none⟩ = some (.int .i64 ((rd_T62 l0_1 x10_1).f0)) := (blk_cell BK221.out 0).trans rfl
                            have hcz91_1 : wc.cell? ⟨gb221, 1, none⟩ = some (.int .i64 ((rd_T62 l0_1 x10_1).f1)) := (blk_cell BK221.out 1).trans rfl
                            have hcz91_2 : wc.cell? ⟨gb221, 2, none⟩ = some (.bool ((rd_T62 l0_1 x10_1).f2)) := (blk_cell BK221.out 2).trans rfl
                            have hfz91_0 := blk_frozen BK221.out 0
                            have hfz91_1 := blk_frozen BK221.out 1
                            have hfz91_2 := blk_frozen BK221.out 2
                            have hnb92 := NB219_216.out
                            have hnc92 := NB216_219.out
                            have hnb93 := NB219_217.out
                            have hnc93 := NB217_219.out
                            have hcz94_0 : wc.cell? ⟨gb219, 0, none⟩ = some (.int .i64 a0_0) := (blk_cell BK219.out 0).trans rfl
                            have hcz94_1 : wc.cell? ⟨gb219, 1, none⟩ = some (u220001) := (blk_cell BK219.out 1).trans rfl
                            have hfz94_0 := blk_frozen BK219.out 0
                            have hfz94_1 := blk_frozen BK219.out 1
                            go_wp2_with (first | ((with_reducible refine gate_builtin (b := .append) (xs := #[.tmp 69, .tmp 71]) rfl ?_); at_builtin; refine Kd.R_append k62 (w0 := w) w.heap.size rfl (.tmp 69) (.tmp 71) 30 62 (.agg #[(.int .i64 0), (.int .i64 0), (.bool false)]) 24 rfl Try.underlying30 info62 rfl (by decide) (by omega) u220001 x220001_1 (⟨((rd_T62 l0_1 x10_1).f0), ((rd_T62 l0_1 x10_1).f1), true⟩ : S62) [.int .i64 ((rd_T62 l0_1 x10_1).f0), .int .i64 ((rd_T62 l0_1 x10_1).f1), .bool true] (fun k_ => k_ ≠ gb221) (fun _ => False) rfl (by first | (go_simp; done) | (go_simp; rfl)) ?aP (fun _ hk => hk.elim) ?aF ?aO ?aB ?aS ?aL ?_; (case aP => exact k62_mkM _ _ _ (⟨((rd_T62 l0_1 x10_1).f0), ((rd_T62 l0_1 x10_1).f1), true⟩ : S62)); (case aB => exact (by repeat (first | (with_reducible first | exact HB.out | apply below_alloc | apply pw_below_drewN | apply below_drew1 | refine below_set ?_ GE216.out | refine below_set ?_ GE217.out | refine below_set ?_ GE219.out | refine below_set ?_ GE221.out) | exact HB.out))); (case aF => exact (fun k_ hk => Kd.freshB (g := gb221) (o := .cells #[.int .i64 ((rd_T62 l0_1 x10_1).f0), .int .i64 ((rd_T62 l0_1 x10_1).f1), .bool true] 62 (0, 0)) (by (with_reducible repeat (first | refine blk_drewN ?_ _ | refine blk_drew ?_ | refine blk_alloc ?_ _)); refine blk_put (cs := #[.int .i64 ((rd_T62 l0_1 x10_1).f0), .int .i64 ((rd_T62 l0_1 x10_1).f1), .bool ((rd_T62 l0_1 x10_1).f2)]) ?_ 2 _ rfl; (with_reducible repeat (first | refine blk_drewN ?_ _ | refine blk_drew ?_ | refine blk_alloc ?_ _)); exact BK221.out) k_ hk)); (case aO => exact (by (with_reducible repeat (first | apply Kd.R_alloc | apply Kd.R_drewN | apply Kd.R_drew)); exact Kd.R_mono (Kd.R_far (p := ⟨gb221, 2, none⟩) (Kd.R_mono HO_220001.out (fun k_ hk => (⟨hk, hk⟩ : _ ∧ k_ ≠ gb221))) (fun _ hk => hk.2) (.bool true)) (fun _ hk => hk.1))); (case aS => exact (below_size (by repeat (first | (with_reducible first | exact HB.out | apply below_alloc | apply pw_below_drewN | apply below_drew1 | refine below_set ?_ GE216.out | refine below_set ?_ GE217.out | refine below_set ?_ GE219.out | refine below_set ?_ GE221.out) | exact HB.out)))); (case aL => have := LMc87.out; omega); intro v235 w95 ho hb hg hat; rw [← Ny234.out] at ho; have n0_ := Aside0.mk (blk_grown (g := gb216) (o := .cells #[.int .i64 a0_0, .slice (some ad220) l0_1.length c0_1] 32 (0, 0)) (by (with_reducible repeat (first | refine blk_drewN ?_ _ | refine blk_drew ?_ | refine blk_alloc ?_ _)); refine blk_far ?_ NB216_221.out _; (with_reducible repeat (first | refine blk_drewN ?_ _ | refine blk_drew ?_ | refine blk_alloc ?_ _)); exact BK216.out) hg (Kd.R_ne HO_220001.out BK216.out (by decide))); have n1_ := Aside0.mk (blk_grown (g := gb217) (o := .cells #[.int .i64 0, .slice none 0 0] 32 (0, 0)) (by (with_reducible repeat (first | refine blk_drewN ?_ _ | refine blk_drew ?_ | refine blk_alloc ?_ _)); refine blk_far ?_ NB217_221.out _; (with_reducible repeat (first | refine blk_drewN ?_ _ | refine blk_drew ?_ | refine blk_alloc ?_ _)); exact BK217.out) hg (Kd.R_ne HO_220001.out BK217.out (by decide))); have n2_ := Aside0.mk (blk_grown (g := gb219) (o := .cells #[.int .i64 a0_0, u220001] 32 (0, 0)) (by (with_reducible repeat (first | refine blk_drewN ?_ _ | refine blk_drew ?_ | refine blk_alloc ?_ _)); refine blk_far ?_ NB219_221.out _; (with_reducible repeat (first | refine blk_drewN ?_ _ | refine blk_drew ?_ | refine blk_alloc ?_ _)); exact BK219.out) hg (Kd.R_ne HO_220001.out BK219.out (by decide))); have n3_ := Aside0.mk (blk_grown (g := gb221) (o := .cells #[.int .i64 ((rd_T62 l0_1 x10_1).f0), .int .i64 ((rd_T62 l0_1 x10_1).f1), .bool true] 62 (0, 0)) (by (with_reducible repeat (first | refine blk_drewN ?_ _ | refine blk_drew ?_ | refine blk_alloc ?_ _)); refine blk_put (cs := #[.int .i64 ((rd_T62 l0_1 x10_1).f0), .int .i64 ((rd_T62 l0_1 x10_1).f1), .bool ((rd_T62 l0_1 x10_1).f2)]) ?_ 2 _ rfl; (with_reducible repeat (first | refine blk_drewN ?_ _ | refine blk_drew ?_ | refine blk_alloc ?_ _)); exact BK221.out) hg (Kd.R_away HO_220001.out (fun _ hk => hk))); have n4_ := Aside0.mk (hb); have n5_ := Aside0.mk (ho); clear BK216; clear BK217; clear BK219; clear BK221; clear HB; clear HO_220001; have BK216 := n0_; have BK217 := n1_; have BK219 := n2_; have BK221 := n3_; have HB := n4_; have HO236 := n5_; clear n0_ n1_ n2_ n3_ n4_ n5_; clear ho hb hg hat; obtain ⟨Ao96, co96, eo96⟩ := Kd.R_slice HO236.out; subst eo96; have hcz97_0 : w95.cell? ⟨gb219, 0, none⟩ = some (.int .i64 a0_0) := (blk_cell BK219.out 0).trans rfl; have hcz97_1 : w95.cell? ⟨gb219, 1, none⟩ = some (u220001) := (blk_cell BK219.out 1).trans rfl; have hfz97_0 := blk_frozen BK219.out 0; have hfz97_1 := blk_frozen BK219.out 1))
                            go_roundg kj18
                            case measure => have := HK1.out; have := HJ18.out; omega
                            case rel => exact ⟨(12), (wrap64 (x10_1 + 1)), (y234), (.slice Ao96 y234.length co96), (by first | rfl | (simp; done) | (simp [*]; done)), (by first | rfl | (simp; done) | (simp [*]; done)), H', ⟨by have := HK1.out; have := HJ18.out; omega⟩, ⟨by (with_reducible repeat (first | apply Kd.R_alloc | apply Kd.R_drewN | apply Kd.R_drew)); exact Kd.R_mono (Kd.R_far (p := ⟨gb219, 1, none⟩) (Kd.R_types HO236.out BK219.out (by decide)) (fun _ hk => hk.2) (.slice Ao96 y234.length co96)) (fun _ hk => trivial)⟩, ⟨by (with_reducible repeat (first | refine blk_drewN ?_ _ | refine blk_drew ?_ | refine blk_alloc ?_ _)); refine blk_far ?_ NB216_219.out _; (with_reducible repeat (first | refine blk_drewN ?_ _ | refine blk_drew ?_ | refine blk_alloc ?_ _)); exact BK216.out⟩, ⟨by (with_reducible repeat (first | refine blk_drewN ?_ _ | refine blk_drew ?_ | refine blk_alloc ?_ _)); refine blk_far ?_ NB217_219.out _; (with_reducible repeat (first | refine blk_drewN ?_ _ | refine blk_drew ?_ | refine blk_alloc ?_ _)); exact BK217.out⟩, ⟨by (with_reducible repeat (first | refine blk_drewN ?_ _ | refine blk_drew ?_ | refine blk_alloc ?_ _)); refine blk_put (cs := #[.int .i64 a0_0, u220001]) ?_ 1 _ rfl; (with_reducible repeat (first | refine blk_drewN ?_ _ | refine blk_drew ?_ | refine blk_alloc ?_ _)); exact BK219.out⟩, ⟨by repeat (first | (with_reducible first | exact HB.out | apply below_alloc | apply pw_below_drewN | apply below_drew1 | refine below_set ?_ GE216.out | refine below_set ?_ GE217.out | refine below_set ?_ GE219.out | refine below_set ?_ GE221.out) | exact HB.out)⟩⟩
                          · rw [if_neg c87] at H
                            exact absurd H (by simp)
                      · replace c74 := Bool.eq_false_iff.mpr c74
                        subst c74
                        have H1 : (if x220001_1.length < 5864062014805 then (caduceusref14_Turn.l0 kj18 a1 false 12 (wrap64 (x10_1 + 1)) a0_0 l0_1 a0_0 (x220001_1 ++ [(⟨((rd_T62 l0_1 x10_1).f0), ((rd_T62 l0_1 x10_1).f1), false⟩ : S62)])) else (none)) = some (r1, r2, r3) := by rw [if_neg (show ¬ (false = true) by decide)] at H; exact H
                        clear H
                        have H := H1
                        clear H1
                        by_cases c98 : x220001_1.length < 5864062014805
                        · rw [if_pos c98] at H
                          have LMc98 := Aside0.mk c98
                          clear c98
                          obtain ⟨y237, hy237⟩ : ∃ y_ : List (S62), y_ = (x220001_1 ++ [(⟨((rd_T62 l0_1 x10_1).f0), ((rd_T62 l0_1 x10_1).f1), false⟩ : S62)]) := ⟨_, rfl⟩
                          replace H : (caduceusref14_Turn.l0 kj18 a1 false 12 (wrap64 (x10_1 + 1)) a0_0 l0_1 a0_0 y237) = some (r1, r2, r3) := by first | (rw [hy237]; with_reducible exact H) | (have H2_ := (Option.bind_some _ _).symm.trans H; rw [hy237]; with_reducible exact H2_) | (have H2_ := (Option.bind_some _ _).symm.trans H; with_reducible exact H2_) | with_reducible exact H | (rw [hy237]; exact H) | exact H
                          have Ny237 := Aside0.mk hy237
                          clear hy237
                          have H' := Aside0.mk H
                          clear H
                          have hnb99 := NB221_216.out
                          have hnc99 := NB216_221.out
                          have hnb100 := NB221_217.out
                          have hnc100 := NB217_221.out
                          have hnb101 := NB221_219.out
                          have hnc101 := NB219_221.out
                          have hcz102_0 : wc.cell? ⟨gb221, 0, none⟩ = some (.int .i64 ((rd_T62 l0_1 x10_1).f0)) := (blk_cell BK221.out 0).trans rfl
                          have hcz102_1 : wc.cell? ⟨gb221, 1, none⟩ = some (.int .i64 ((rd_T62 l0_1 x10_1).f1)) := (blk_cell BK221.out 1).trans rfl
                          have hcz102_2 : wc.cell? ⟨gb221, 2, none⟩ = some (.bool ((rd_T62 l0_1 x10_1).f2)) := (blk_cell BK221.out 2).trans rfl
                          have hfz102_0 := blk_frozen BK221.out 0
                          have hfz102_1 := blk_frozen BK221.out 1
                          have hfz102_2 := blk_frozen BK221.out 2
                          have hnb103 := NB219_216.out
                          have hnc103 := NB216_219.out
                          have hnb104 := NB219_217.out
                          have hnc104 := NB217_219.out
                          have hcz105_0 : wc.cell? ⟨gb219, 0, none⟩ = some (.int .i64 a0_0) := (blk_cell BK219.out 0).trans rfl
                          have hcz105_1 : wc.cell? ⟨gb219, 1, none⟩ = some (u220001) := (blk_cell BK219.out 1).trans rfl
                          have hfz105_0 := blk_frozen BK219.out 0
                          have hfz105_1 := blk_frozen BK219.out 1
                          go_wp2_with (first | ((with_reducible refine gate_builtin (b := .append) (xs := #[.tmp 69, .tmp 71]) rfl ?_); at_builtin; refine Kd.R_append k62 (w0 := w) w.heap.size rfl (.tmp 69) (.tmp 71) 30 62 (.agg #[(.int .i64 0), (.int .i64 0), (.bool false)]) 24 rfl Try.underlying30 info62 rfl (by decide) (by omega) u220001 x220001_1 (⟨((rd_T62 l0_1 x10_1).f0), ((rd_T62 l0_1 x10_1).f1), false⟩ : S62) [.int .i64 ((rd_T62 l0_1 x10_1).f0), .int .i64 ((rd_T62 l0_1 x10_1).f1), .bool false] (fun k_ => k_ ≠ gb221) (fun _ => False) rfl (by first | (go_simp; done) | (go_simp; rfl)) ?aP (fun _ hk => hk.elim) ?aF ?aO ?aB ?aS ?aL ?_; (case aP => exact k62_mkM _ _ _ (⟨((rd_T62 l0_1 x10_1).f0), ((rd_T62 l0_1 x10_1).f1), false⟩ : S62)); (case aB => exact (by repeat (first | (with_reducible first | exact HB.out | apply below_alloc | apply pw_below_drewN | apply below_drew1 | refine below_set ?_ GE216.out | refine below_set ?_ GE217.out | refine below_set ?_ GE219.out | refine below_set ?_ GE221.out) | exact HB.out))); (case aF => exact (fun k_ hk => Kd.freshB (g := gb221) (o := .cells #[.int .i64 ((rd_T62 l0_1 x10_1).f0), .int .i64 ((rd_T62 l0_1 x10_1).f1), .bool false] 62 (0, 0)) (by (with_reducible repeat (first | refine blk_drewN ?_ _ | refine blk_drew ?_ | refine blk_alloc ?_ _)); refine blk_put (cs := #[.int .i64 ((rd_T62 l0_1 x10_1).f0), .int .i64 ((rd_T62 l0_1 x10_1).f1), .bool ((rd_T62 l0_1 x10_1).f2)]) ?_ 2 _ rfl; (with_reducible repeat (first | refine blk_drewN ?_ _ | refine blk_drew ?_ | refine blk_alloc ?_ _)); exact BK221.out) k_ hk)); (case aO => exact (by (with_reducible repeat (first | apply Kd.R_alloc | apply Kd.R_drewN | apply Kd.R_drew)); exact Kd.R_mono (Kd.R_far (p := ⟨gb221, 2, none⟩) (Kd.R_mono HO_220001.out (fun k_ hk => (⟨hk, hk⟩ : _ ∧ k_ ≠ gb221))) (fun _ hk => hk.2) (.bool false)) (fun _ hk => hk.1))); (case aS => exact (below_size (by repeat (first | (with_reducible first | exact HB.out | apply below_alloc | apply pw_below_drewN | apply below_drew1 | refine below_set ?_ GE216.out | refine below_set ?_ GE217.out | refine below_set ?_ GE219.out | refine below_set ?_ GE221.out) | exact HB.out)))); (case aL => have := LMc98.out; omega); intro v238 w106 ho hb hg hat; rw [← Ny237.out] at ho; have n0_ := Aside0.mk (blk_grown (g := gb216) (o := .cells #[.int .i64 a0_0, .slice (some ad220) l0_1.length c0_1] 32 (0, 0)) (by (with_reducible repeat (first | refine blk_drewN ?_ _ | refine blk_drew ?_ | refine blk_alloc ?_ _)); refine blk_far ?_ NB216_221.out _; (with_reducible repeat (first | refine blk_drewN ?_ _ | refine blk_drew ?_ | refine blk_alloc ?_ _)); exact BK216.out) hg (Kd.R_ne HO_220001.out BK216.out (by decide))); have n1_ := Aside0.mk (blk_grown (g := gb217) (o := .cells #[.int .i64 0, .slice none 0 0] 32 (0, 0)) (by (with_reducible repeat (first | refine blk_drewN ?_ _ | refine blk_drew ?_ | refine blk_alloc ?_ _)); refine blk_far ?_ NB217_221.out _; (with_reducible repeat (first | refine blk_drewN ?_ _ | refine blk_drew ?_ | refine blk_alloc ?_ _)); exact BK217.out) hg (Kd.R_ne HO_220001.out BK217.out (by decide))); have n2_ := Aside0.mk (blk_grown (g := gb219) (o := .cells #[.int .i64 a0_0, u220001] 32 (0, 0)) (by (with_reducible repeat (first | refine blk_drewN ?_ _ | refine blk_drew ?_ | refine blk_alloc ?_ _)); refine blk_far ?_ NB219_221.out _; (with_reducible repeat (first | refine blk_drewN ?_ _ | refine blk_drew ?_ | refine blk_alloc ?_ _)); exact BK219.out) hg (Kd.R_ne HO_220001.out BK219.out (by decide))); have n3_ := Aside0.mk (blk_grown (g := gb221) (o := .cells #[.int .i64 ((rd_T62 l0_1 x10_1).f0), .int .i64 ((rd_T62 l0_1 x10_1).f1), .bool false] 62 (0, 0)) (by (with_reducible repeat (first | refine blk_drewN ?_ _ | refine blk_drew ?_ | refine blk_alloc ?_ _)); refine blk_put (cs := #[.int .i64 ((rd_T62 l0_1 x10_1).f0), .int .i64 ((rd_T62 l0_1 x10_1).f1), .bool ((rd_T62 l0_1 x10_1).f2)]) ?_ 2 _ rfl; (with_reducible repeat (first | refine blk_drewN ?_ _ | refine blk_drew ?_ | refine blk_alloc ?_ _)); exact BK221.out) hg (Kd.R_away HO_220001.out (fun _ hk => hk))); have n4_ := Aside0.mk (hb); have n5_ := Aside0.mk (ho); clear BK216; clear BK217; clear BK219; clear BK221; clear HB; clear HO_220001; have BK216 := n0_; have BK217 := n1_; have BK219 := n2_; have BK221 := n3_; have HB := n4_; have HO239 := n5_; clear n0_ n1_ n2_ n3_ n4_ n5_; clear ho hb hg hat; obtain ⟨Ao107, co107, eo107⟩ := Kd.R_slice HO239.out; subst eo107; have hcz108_0 : w106.cell? ⟨gb219, 0, none⟩ = some (.int .i64 a0_0) := (blk_cell BK219.out 0).trans rfl; have hcz108_1 : w106.cell? ⟨gb219, 1, none⟩ = some (u220001) := (blk_cell BK219.out 1).trans rfl; have hfz108_0 := blk_frozen BK219.out 0; have hfz108_1 := blk_frozen BK219.out 1))
                          go_roundg kj18
                          case measure => have := HK1.out; have := HJ18.out; omega
                          case rel => exact ⟨(12), (wrap64 (x10_1 + 1)), (y237), (.slice Ao107 y237.length co107), (by first | rfl | (simp; done) | (simp [*]; done)), (by first | rfl | (simp; done) | (simp [*]; done)), H', ⟨by have := HK1.out; have := HJ18.out; omega⟩, ⟨by (with_reducible repeat (first | apply Kd.R_alloc | apply Kd.R_drewN | apply Kd.R_drew)); exact Kd.R_mono (Kd.R_far (p := ⟨gb219, 1, none⟩) (Kd.R_types HO239.out BK219.out (by decide)) (fun _ hk => hk.2) (.slice Ao107 y237.length co107)) (fun _ hk => trivial)⟩, ⟨by (with_reducible repeat (first | refine blk_drewN ?_ _ | refine blk_drew ?_ | refine blk_alloc ?_ _)); refine blk_far ?_ NB216_219.out _; (with_reducible repeat (first | refine blk_drewN ?_ _ | refine blk_drew ?_ | refine blk_alloc ?_ _)); exact BK216.out⟩, ⟨by (with_reducible repeat (first | refine blk_drewN ?_ _ | refine blk_drew ?_ | refine blk_alloc ?_ _)); refine blk_far ?_ NB217_219.out _; (with_reducible repeat (first | refine blk_drewN ?_ _ | refine blk_drew ?_ | refine blk_alloc ?_ _)); exact BK217.out⟩, ⟨by (with_reducible repeat (first | refine blk_drewN ?_ _ | refine blk_drew ?_ | refine blk_alloc ?_ _)); refine blk_put (cs := #[.int .i64 a0_0, u220001]) ?_ 1 _ rfl; (with_reducible repeat (first | refine blk_drewN ?_ _ | refine blk_drew ?_ | refine blk_alloc ?_ _)); exact BK219.out⟩, ⟨by repeat (first | (with_reducible first | exact HB.out | apply below_alloc | apply pw_below_drewN | apply below_drew1 | refine below_set ?_ GE216.out | refine below_set ?_ GE217.out | refine below_set ?_ GE219.out | refine below_set ?_ GE221.out) | exact HB.out)⟩⟩
                        · rw [if_neg c98] at H
                          exact absurd H (by simp)
                    · rw [if_neg c73] at H
                      have c73b0 : (((rd_T62 l0_1 x10_1).f2) == a2) = false := by simpa using c73
                      (try (have c73b1 : decide (((rd_T62 l0_1 x10_1).f2) = a2) = false := by simpa using c73))
                      (try (have c73b2 : (((rd_T62 l0_1 x10_1).f2) == a2) = false := by simpa using c73))
                      (try (have c73b3 : ¬ (((rd_T62 l0_1 x10_1).f2) = a2) := by simpa using c73))
                      clear c73
                      have HC109 := Aside0.mk H
                      clear H
                      have hnb110 := NB221_216.out
                      have hnc110 := NB216_221.out
                      have hnb111 := NB221_217.out
                      have hnc111 := NB217_221.out
                      have hnb112 := NB221_219.out
                      have hnc112 := NB219_221.out
                      have hcz113_0 : wc.cell? ⟨gb221, 0, none⟩ = some (.int .i64 ((rd_T62 l0_1 x10_1).f0)) := (blk_cell BK221.out 0).trans rfl
                      have hcz113_1 : wc.cell? ⟨gb221, 1, none⟩ = some (.int .i64 ((rd_T62 l0_1 x10_1).f1)) := (blk_cell BK221.out 1).trans rfl
                      have hcz113_2 : wc.cell? ⟨gb221, 2, none⟩ = some (.bool ((rd_T62 l0_1 x10_1).f2)) := (blk_cell BK221.out 2).trans rfl
                      have hfz113_0 := blk_frozen BK221.out 0
                      have hfz113_1 := blk_frozen BK221.out 1
                      have hfz113_2 := blk_frozen BK221.out 2
                      go_upto_region 15 with (fail)
                      go_cut [56] (fun v56 wc => ∃ (kq : Nat) (x56_108 : Bool), v56 = .bool x56_108 ∧ Aside0 (caduceusref14_Turn.j2 kq a1 a2 0 x10_1 x56_108 a0_0 l0_1 a0_0 x220001_1 ((rd_T62 l0_1 x10_1).f0) ((rd_T62 l0_1 x10_1).f1) ((rd_T62 l0_1 x10_1).f2) = some (r1, r2, r3)) ∧ Aside0 (kq ≤ kj18) ∧ Aside0 (Kd.R k62 62 wc w.heap.size (fun k_ => k_ ≠ gb221) u220001 x220001_1) ∧ Aside0 (wc.heap[gb216]? = some (.cells #[.int .i64 a0_0, (.slice (some ad220) l0_1.length c0_1)] 32 (0, 0))) ∧ Aside0 (wc.heap[gb217]? = some (.cells #[.int .i64 0, (.slice none 0 0)] 32 (0, 0))) ∧ Aside0 (wc.heap[gb219]? = some (.cells #[.int .i64 a0_0, u220001] 32 (0, 0))) ∧ Aside0 (wc.heap[gb221]? = some (.cells #[.int .i64 ((rd_T62 l0_1 x10_1).f0), .int .i64 ((rd_T62 l0_1 x10_1).f1), .bool ((rd_T62 l0_1 x10_1).f2)] 62 (0, 0))) ∧ Aside0 (Below w.heap.size w wc))
                      case first =>
                        have H := HC109.out
                        clear HC109
                        by_cases c114 : a0_0 = 1099511627775
                        · rw [if_pos c114] at H
                          have c114b0 : (a0_0 == 1099511627775) = true := beq_iff_eq.mpr c114
                          have c114b1 : (a0_0 != 1099511627775) = false := bne_eq_false_iff_eq.mpr c114
                          clear c114
                          (first | rw [c114b0] | (simp only [i64_w, i32_w]; rw [c114b0]) | skip)
                          have H' := Aside0.mk H
                          clear H
                          have hnb115 := NB216_217.out
                          have hnc115 := NB217_216.out
                          have hnb116 := NB216_219.out
                          have hnc116 := NB219_216.out
                          have hnb117 := NB216_221.out
                          have hnc117 := NB221_216.out
                          have hcz118_0 : wc.cell? ⟨gb216, 0, none⟩ = some (.int .i64 a0_0) := (blk_cell BK216.out 0).trans rfl
                          have hcz118_1 : wc.cell? ⟨gb216, 1, none⟩ = some (.slice (some ad220) l0_1.length c0_1) := (blk_cell BK216.out 1).trans rfl
                          have hfz118_0 := blk_frozen BK216.out 0
                          have hfz118_1 := blk_frozen BK216.out 1
                          go_wp2
                          go_meet
                          case rel => exact ⟨_, (true), (by first | rfl | (simp; done) | (simp [*]; done)), H', ⟨by have := HK1.out; have := HJ18.out; first | omega | exact Nat.le_refl _⟩, ⟨by (with_reducible repeat (first | apply Kd.R_alloc | apply Kd.R_drewN | apply Kd.R_drew)); exact HO_220001.out⟩, ⟨by (with_reducible repeat (first | refine blk_drewN ?_ _ | refine blk_drew ?_ | refine blk_alloc ?_ _)); exact BK216.out⟩, ⟨by (with_reducible repeat (first | refine blk_drewN ?_ _ | refine blk_drew ?_ | refine blk_alloc ?_ _)); exact BK217.out⟩, ⟨by (with_reducible repeat (first | refine blk_drewN ?_ _ | refine blk_drew ?_ | refine blk_alloc ?_ _)); exact BK219.out⟩, ⟨by (with_reducible repeat (first | refine blk_drewN ?_ _ | refine blk_drew ?_ | refine blk_alloc ?_ _)); exact BK221.out⟩, ⟨by repeat (first | (with_reducible first | exact HB.out | apply below_alloc | apply pw_below_drewN | apply below_drew1 | refine below_set ?_ GE216.out | refine below_set ?_ GE217.out | refine below_set ?_ GE219.out | refine below_set ?_ GE221.out) | exact HB.out)⟩⟩
                        · rw [if_neg c114] at H
                          have c114b0 : (a0_0 == 1099511627775) = false := beq_eq_false_iff_ne.mpr c114
                          have c114b1 : (a0_0 != 1099511627775) = true := bne_iff_ne.mpr c114
                          (first | rw [c114b0] | (simp only [i64_w, i32_w]; rw [c114b0]) | skip)
                          by_cases c119 : a2 = true
                          · subst c119
                            have H1 : (caduceusref14_Turn.j2 kj18 a1 true 0 x10_1 (((rd_T62 l0_1 x10_1).f1) == 1099511627775) a0_0 l0_1 a0_0 x220001_1 ((rd_T62 l0_1 x10_1).f0) ((rd_T62 l0_1 x10_1).f1) ((rd_T62 l0_1 x10_1).f2)) = some (r1, r2, r3) := by rw [if_pos rfl] at H; exact H
                            clear H
                            have H := H1
                            clear H1
                            have H' := Aside0.mk H
                            clear H
                            have hnb120 := NB216_217.out
                            have hnc120 := NB217_216.out
                            have hnb121 := NB216_219.out
                            have hnc121 := NB219_216.out
                            have hnb122 := NB216_221.out
                            have hnc122 := NB221_216.out
                            have hcz123_0 : wc.cell? ⟨gb216, 0, none⟩ = some (.int .i64 a0_0) := (blk_cell BK216.out 0).trans rfl
                            have hcz123_1 : wc.cell? ⟨gb216, 1, none⟩ = some (.slice (some ad220) l0_1.length c0_1) := (blk_cell BK216.out 1).trans rfl
                            have hfz123_0 := blk_frozen BK216.out 0
                            have hfz123_1 := blk_frozen BK216.out 1
                            have hnb124 := NB221_217.out
                            have hnc124 := NB217_221.out
                            have hnb125 := NB221_219.out
                            have hnc125 := NB219_221.out
                            have hcz126_0 : wc.cell? ⟨gb221, 0, none⟩ = some (.int .i64 ((rd_T62 l0_1 x10_1).f0)) := (blk_cell BK221.out 0).trans rfl
                            have hcz126_1 : wc.cell? ⟨gb221, 1, none⟩ = some (.int .i64 ((rd_T62 l0_1 x10_1).f1)) := (blk_cell BK221.out 1).trans rfl
                            have hcz126_2 : wc.cell? ⟨gb221, 2, none⟩ = some (.bool ((rd_T62 l0_1 x10_1).f2)) := (blk_cell BK221.out 2).trans rfl
                            have hfz126_0 := blk_frozen BK221.out 0
                            have hfz126_1 := blk_frozen BK221.out 1
                            have hfz126_2 := blk_frozen BK221.out 2
                            go_wp2
                            go_meet
                            case rel => exact ⟨_, ((((rd_T62 l0_1 x10_1).f1) == 1099511627775)), (by first | rfl | (simp; done) | (simp [*]; done)), H', ⟨by have := HK1.out; have := HJ18.out; first | omega | exact Nat.le_refl _⟩, ⟨by (with_reducible repeat (first | apply Kd.R_alloc | apply Kd.R_drewN | apply Kd.R_drew)); exact HO_220001.out⟩, ⟨by (with_reducible repeat (first | refine blk_drewN ?_ _ | refine blk_drew ?_ | refine blk_alloc ?_ _)); exact BK216.out⟩, ⟨by (with_reducible repeat (first | refine blk_drewN ?_ _ | refine blk_drew ?_ | refine blk_alloc ?_ _)); exact BK217.out⟩, ⟨by (with_reducible repeat (first | refine blk_drewN ?_ _ | refine blk_drew ?_ | refine blk_alloc ?_ _)); exact BK219.out⟩, ⟨by (with_reducible repeat (first | refine blk_drewN ?_ _ | refine blk_drew ?_ | refine blk_alloc ?_ _)); exact BK221.out⟩, ⟨by repeat (first | (with_reducible first | exact HB.out | apply below_alloc | apply pw_below_drewN | apply below_drew1 | refine below_set ?_ GE216.out | refine below_set ?_ GE217.out | refine below_set ?_ GE219.out | refine below_set ?_ GE221.out) | exact HB.out)⟩⟩
                          · replace c119 := Bool.eq_false_iff.mpr c119
                            subst c119
                            have H1 : (caduceusref14_Turn.j2 kj18 a1 false 0 x10_1 false a0_0 l0_1 a0_0 x220001_1 ((rd_T62 l0_1 x10_1).f0) ((rd_T62 l0_1 x10_1).f1) ((rd_T62 l0_1 x10_1).f2)) = some (r1, r2, r3) := by rw [if_neg (show ¬ (false = true) by decide)] at H; exact H
                            clear H
                            have H := H1
                            clear H1
                            have H' := Aside0.mk H
                            clear H
                            have hnb127 := NB216_217.out
                            have hnc127 := NB217_216.out
                            have hnb128 := NB216_219.out
                            have hnc128 := NB219_216.out
                            have hnb129 := NB216_221.out
                            have hnc129 := NB221_216.out
                            have hcz130_0 : wc.cell? ⟨gb216, 0, none⟩ = some (.int .i64 a0_0) := (blk_cell BK216.out 0).trans rfl
                            have hcz130_1 : wc.cell? ⟨gb216, 1, none⟩ = some (.slice (some ad220) l0_1.length c0_1) := (blk_cell BK216.out 1).trans rfl
                            have hfz130_0 := blk_frozen BK216.out 0
                            have hfz130_1 := blk_frozen BK216.out 1
                            go_wp2
                            go_meet
                            case rel => exact ⟨_, (false), (by first | rfl | (simp; done) | (simp [*]; done)), H', ⟨by have := HK1.out; have := HJ18.out; first | omega | exact Nat.le_refl _⟩, ⟨by (with_reducible repeat (first | apply Kd.R_alloc | apply Kd.R_drewN | apply Kd.R_drew)); exact HO_220001.out⟩, ⟨by (with_reducible repeat (first | refine blk_drewN ?_ _ | refine blk_drew ?_ | refine blk_alloc ?_ _)); exact BK216.out⟩, ⟨by (with_reducible repeat (first | refine blk_drewN ?_ _ | refine blk_drew ?_ | refine blk_alloc ?_ _)); exact BK217.out⟩, ⟨by (with_reducible repeat (first | refine blk_drewN ?_ _ | refine blk_drew ?_ | refine blk_alloc ?_ _)); exact BK219.out⟩, ⟨by (with_reducible repeat (first | refine blk_drewN ?_ _ | refine blk_drew ?_ | refine blk_alloc ?_ _)); exact BK221.out⟩, ⟨by repeat (first | (with_reducible first | exact HB.out | apply below_alloc | apply pw_below_drewN | apply below_drew1 | refine below_set ?_ GE216.out | refine below_set ?_ GE217.out | refine below_set ?_ GE219.out | refine below_set ?_ GE221.out) | exact HB.out)⟩⟩
                      case rest =>
                        clear HC109
                        try clear c1
                        try clear c2
                        try clear p2
                        try clear q2
                        try clear hx2
                        try clear c3
                        try clear c4
                        try clear c5
                        try clear c6
                        try clear p6
                        try clear c7
                        try clear c8
                        try clear c9
                        try clear c10
                        try clear c11
                        try clear c12
                        try clear c13
                        try clear c14
                        try clear c16
                        try clear c16b0
                        try clear c17
                        try clear c17b0
                        try clear c18
                        try clear c18b0
                        try clear c18b1
                        try clear c20
                        try clear c21
                        try clear p22
                        try clear q22
                        try clear hx22
                        try clear c24
                        try clear c25
                        try clear c26
                        try clear c28
                        try clear c28b0
                        try clear c28b1
                        try clear c28b2
                        try clear c29
                        try clear c30
                        try clear c31
                        try clear c33
                        try clear c34
                        try clear c35
                        try clear c37
                        try clear c38
                        try clear c39
                        try clear c39b0
                        try clear c39b1
                        try clear c40
                        try clear c41
                        try clear c42
                        try clear c43
                        try clear c45
                        try clear c46
                        try clear c51
                        try clear c52
                        try clear c53
                        try clear c54
                        try clear c56
                        try clear c57
                        try clear c62
                        try clear c63
                        try clear c64
                        try clear p64
                        try clear c65
                        try clear c67
                        try clear c68
                        try clear c73
                        try clear c73b0
                        try clear c73b1
                        try clear c73b2
                        try clear c74
                        try clear c75
                        try clear c75b0
                        try clear c75b1
                        try clear c76
                        try clear c77
                        try clear c78
                        try clear c79
                        try clear c81
                        try clear c82
                        try clear c87
                        try clear c88
                        try clear c89
                        try clear c90
                        try clear c92
                        try clear c93
                        try clear c98
                        try clear c99
                        try clear c100
                        try clear c101
                        try clear c103
                        try clear c104
                        try clear c110
                        try clear c111
                        try clear c112
                        try clear c114
                        try clear c114b0
                        try clear c114b1
                        try clear c115
                        try clear c116
                        try clear c117
                        try clear c119
                        try clear c120
                        try clear c121
                        try clear c122
                        try clear c124
                        try clear c125
                        try clear c127
                        try clear c128
                        try clear c129
                        try clear hcz102_0
                        try clear hcz102_1
                        try clear hcz102_2
                        try clear hcz105_0
                        try clear hcz105_1
                        try clear hcz108_0
                        try clear hcz108_1
                        try clear hcz113_0
                        try clear hcz113_1
                        try clear hcz113_2
                        try clear hcz118_0
                        try clear hcz118_1
                        try clear hcz11_0
                        try clear hcz11_1
                        try clear hcz123_0
                        try clear hcz123_1
                        try clear hcz126_0
                        try clear hcz126_1
                        try clear hcz126_2
                        try clear hcz130_0
                        try clear hcz130_1
                        try clear hcz15_0
                        try clear hcz15_1
                        try clear hcz22_0
                        try clear hcz22_1
                        try clear hcz27_0
                        try clear hcz27_1
                        try clear hcz27_2
                        try clear hcz32_0
                        try clear hcz32_1
                        try clear hcz32_2
                        try clear hcz36_0
                        try clear hcz36_1
                        try clear hcz36_2
                        try clear hcz44_0
                        try clear hcz44_1
                        try clear hcz44_2
                        try clear hcz47_0
                        try clear hcz47_1
                        try clear hcz50_0
                        try clear hcz50_1
                        try clear hcz55_0
                        try clear hcz55_1
                        try clear hcz55_2
                        try clear hcz58_0
                        try clear hcz58_1
                        try clear hcz61_0
                        try clear hcz61_1
                        try clear hcz66_0
                        try clear hcz66_1
                        try clear hcz66_2
                        try clear hcz69_0
                        try clear hcz69_1
                        try clear hcz72_0
                        try clear hcz72_1
                        try clear hcz80_0
                        try clear hcz80_1
                        try clear hcz80_2
                        try clear hcz83_0
                        try clear hcz83_1
                        try clear hcz86_0
                        try clear hcz86_1
                        try clear hcz91_0
                        try clear hcz91_1
                        try clear hcz91_2
                        try clear hcz94_0
                        try clear hcz94_1
                        try clear hcz97_0
                        try clear hcz97_1
                        try clear hcz9_0
                        try clear hcz9_1
                        try clear hfz102_0
                        try clear hfz102_1
                        try clear hfz102_2
                        try clear hfz105_0
                        try clear hfz105_1
                        try clear hfz108_0
                        try clear hfz108_1
                        try clear hfz113_0
                        try clear hfz113_1
                        try clear hfz113_2
                        try clear hfz118_0
                        try clear hfz118_1
                        try clear hfz11_0
                        try clear hfz11_1
                        try clear hfz123_0
                        try clear hfz123_1
                        try clear hfz126_0
                        try clear hfz126_1
                        try clear hfz126_2
                        try clear hfz130_0
                        try clear hfz130_1
                        try clear hfz15_0
                        try clear hfz15_1
                        try clear hfz22_0
                        try clear hfz22_1
                        try clear hfz27_0
                        try clear hfz27_1
                        try clear hfz27_2
                        try clear hfz32_0
                        try clear hfz32_1
                        try clear hfz32_2
                        try clear hfz36_0
                        try clear hfz36_1
                        try clear hfz36_2
                        try clear hfz44_0
                        try clear hfz44_1
                        try clear hfz44_2
                        try clear hfz47_0
                        try clear hfz47_1
                        try clear hfz50_0
                        try clear hfz50_1
                        try clear hfz55_0
                        try clear hfz55_1
                        try clear hfz55_2
                        try clear hfz58_0
                        try clear hfz58_1
                        try clear hfz61_0
                        try clear hfz61_1
                        try clear hfz66_0
                        try clear hfz66_1
                        try clear hfz66_2
                        try clear hfz69_0
                        try clear hfz69_1
                        try clear hfz72_0
                        try clear hfz72_1
                        try clear hfz80_0
                        try clear hfz80_1
                        try clear hfz80_2
                        try clear hfz83_0
                        try clear hfz83_1
                        try clear hfz86_0
                        try clear hfz86_1
                        try clear hfz91_0
                        try clear hfz91_1
                        try clear hfz91_2
                        try clear hfz94_0
                        try clear hfz94_1
                        try clear hfz97_0
                        try clear hfz97_1
                        try clear hfz9_0
                        try clear hfz9_1
                        try clear hx220_0
                        try clear hx220_1
                        try clear hx220_2
                        try clear p2
                        try clear p22
                        try clear p220
                        try clear q2
                        try clear q22
                        try clear q220
                        obtain ⟨kq, x56_108, rfl, HA, HJ108, HO_220001, BK216, BK217, BK219, BK221, HB⟩ := hcut
                        cases kq with
                        | zero => exact absurd HA.out (by simp [caduceusref14_Turn.j2])
                        | succ kj108 =>
                          have H := HA.out
                          clear HA
                          simp only [caduceusref14_Turn.j2] at H
                          by_cases c131 : x56_108 = true
                          · subst c131
                            have H1 : (if a2 = true then (if 13 = 0 then (if x220001_1.length < 5864062014805 then (caduceusref14_Turn.l0 kj108 a1 a2 13 (wrap64 (x10_1 + 1)) a0_0 l0_1 a0_0 (x220001_1 ++ [(⟨((rd_T62 l0_1 x10_1).f0), wrap64 (((rd_T62 l0_1 x10_1).f1) + 1), a2⟩ : S62)])) else (none)) else (if x220001_1.length < 5864062014805 then (caduceusref14_Turn.l0 kj108 a1 a2 13 (wrap64 (x10_1 + 1)) a0_0 l0_1 a0_0 (x220001_1 ++ [(⟨((rd_T62 l0_1 x10_1).f0), ((rd_T62 l0_1 x10_1).f1), a2⟩ : S62)])) else (none))) else (if x220001_1.length < 5864062014805 then (caduceusref14_Turn.l0 kj108 a1 a2 13 (wrap64 (x10_1 + 1)) a0_0 l0_1 a0_0 (x220001_1 ++ [(⟨((rd_T62 l0_1 x10_1).f0), ((rd_T62 l0_1 x10_1).f1), a2⟩ : S62)])) else (none))) = some (r1, r2, r3) := by rw [if_pos rfl] at H; exact H
                            clear H
                            have H := H1
                            clear H1
                            by_cases c132 : a2 = true
                            · subst c132
                              have H1 : (if 13 = 0 then (if x220001_1.length < 5864062014805 then (caduceusref14_Turn.l0 kj108 a1 true 13 (wrap64 (x10_1 + 1)) a0_0 l0_1 a0_0 (x220001_1 ++ [(⟨((rd_T62 l0_1 x10_1).f0), wrap64 (((rd_T62 l0_1 x10_1).f1) + 1), true⟩ : S62)])) else (none)) else (if x220001_1.length < 5864062014805 then (caduceusref14_Turn.l0 kj108 a1 true 13 (wrap64 (x10_1 + 1)) a0_0 l0_1 a0_0 (x220001_1 ++ [(⟨((rd_T62 l0_1 x10_1).f0), ((rd_T62 l0_1 x10_1).f1), true⟩ : S62)])) else (none))) = some (r1, r2, r3) := by rw [if_pos rfl] at H; exact H
                              clear H
                              have H := H1
                              clear H1
                              by_cases c133 : 13 = 0
                              · exact absurd c133 (by decide)
                              · rw [if_neg c133] at H
                                have c133b0 : (13 == 0) = false := beq_eq_false_iff_ne.mpr c133
                                have c133b1 : (13 != 0) = true := bne_iff_ne.mpr c133
                                by_cases c145 : x220001_1.length < 5864062014805
                                · rw [if_pos c145] at H
                                  have LMc145 := Aside0.mk c145
                                  clear c145
                                  obtain ⟨y243, hy243⟩ : ∃ y_ : List (S62), y_ = (x220001_1 ++ [(⟨((rd_T62 l0_1 x10_1).f0), ((rd_T62 l0_1 x10_1).f1), true⟩ : S62)]) := ⟨_, rfl⟩
                                  replace H : (caduceusref14_Turn.l0 kj108 a1 true 13 (wrap64 (x10_1 + 1)) a0_0 l0_1 a0_0 y243) = some (r1, r2, r3) := by first | (rw [hy243]; with_reducible exact H) | (have H2_ := (Option.bind_some _ _).symm.trans H; rw [hy243]; with_reducible exact H2_) | (have H2_ := (Option.bind_some _ _).symm.trans H; with_reducible exact H2_) | with_reducible exact H | (rw [hy243]; exact H) | exact H
                                  have Ny243 := Aside0.mk hy243
                                  clear hy243
                                  have H' := Aside0.mk H
                                  clear H
                                  have hnb146 := NB221_216.out
                                  have hnc146 := NB216_221.out
                                  have hnb147 := NB221_217.out
                                  have hnc147 := NB217_221.out
                                  have hnb148 := NB221_219.out
                                  have hnc148 := NB219_221.out
                                  have hcz149_0 : wc.cell? ⟨gb221, 0, none⟩ = some (.int .i64 ((rd_T62 l0_1 x10_1).f0)) := (blk_cell BK221.out 0).trans rfl
                                  have hcz149_1 : wc.cell? ⟨gb221, 1, none⟩ = some (.int .i64 ((rd_T62 l0_1 x10_1).f1)) := (blk_cell BK221.out 1).trans rfl
                                  have hcz149_2 : wc.cell? ⟨gb221, 2, none⟩ = some (.bool ((rd_T62 l0_1 x10_1).f2)) := (blk_cell BK221.out 2).trans rfl
                                  have hfz149_0 := blk_frozen BK221.out 0
                                  have hfz149_1 := blk_frozen BK221.out 1
                                  have hfz149_2 := blk_frozen BK221.out 2
                                  have hnb150 := NB219_216.out
                                  have hnc150 := NB216_219.out
                                  have hnb151 := NB219_217.out
                                  have hnc151 := NB217_219.out
                                  have hcz152_0 : wc.cell? ⟨gb219, 0, none⟩ = some (.int .i64 a0_0) := (blk_cell BK219.out 0).trans rfl
                                  have hcz152_1 : wc.cell? ⟨gb219, 1, none⟩ = some (u220001) := (blk_cell BK219.out 1).trans rfl
                                  have hfz152_0 := blk_frozen BK219.out 0
                                  have hfz152_1 := blk_frozen BK219.out 1
                                  go_wp2_with (first | ((with_reducible refine gate_builtin (b := .append) (xs := #[.tmp 69, .tmp 71]) rfl ?_); at_builtin; refine Kd.R_append k62 (w0 := w) w.heap.size rfl (.tmp 69) (.tmp 71) 30 62 (.agg #[(.int .i64 0), (.int .i64 0), (.bool false)]) 24 rfl Try.underlying30 info62 rfl (by decide) (by omega) u220001 x220001_1 (⟨((rd_T62 l0_1 x10_1).f0), ((rd_T62 l0_1 x10_1).f1), true⟩ : S62) [.int .i64 ((rd_T62 l0_1 x10_1).f0), .int .i64 ((rd_T62 l0_1 x10_1).f1), .bool true] (fun k_ => k_ ≠ gb221) (fun _ => False) rfl (by first | (go_simp; done) | (go_simp; rfl)) ?aP (fun _ hk => hk.elim) ?aF ?aO ?aB ?aS ?aL ?_; (case aP => exact k62_mkM _ _ _ (⟨((rd_T62 l0_1 x10_1).f0), ((rd_T62 l0_1 x10_1).f1), true⟩ : S62)); (case aB => exact (by repeat (first | (with_reducible first | exact HB.out | apply below_alloc | apply pw_below_drewN | apply below_drew1 | refine below_set ?_ GE216.out | refine below_set ?_ GE217.out | refine below_set ?_ GE219.out | refine below_set ?_ GE221.out) | exact HB.out))); (case aF => exact (fun k_ hk => Kd.freshB (g := gb221) (o := .cells #[.int .i64 ((rd_T62 l0_1 x10_1).f0), .int .i64 ((rd_T62 l0_1 x10_1).f1), .bool true] 62 (0, 0)) (by (with_reducible repeat (first | refine blk_drewN ?_ _ | refine blk_drew ?_ | refine blk_alloc ?_ _)); refine blk_put (cs := #[.int .i64 ((rd_T62 l0_1 x10_1).f0), .int .i64 ((rd_T62 l0_1 x10_1).f1), .bool ((rd_T62 l0_1 x10_1).f2)]) ?_ 2 _ rfl; (with_reducible repeat (first | refine blk_drewN ?_ _ | refine blk_drew ?_ | refine blk_alloc ?_ _)); exact BK221.out) k_ hk)); (case aO => exact (by (with_reducible repeat (first | apply Kd.R_alloc | apply Kd.R_drewN | apply Kd.R_drew)); exact Kd.R_mono (Kd.R_far (p := ⟨gb221, 2, none⟩) (Kd.R_mono HO_220001.out (fun k_ hk => (⟨hk, hk⟩ : _ ∧ k_ ≠ gb221))) (fun _ hk => hk.2) (.bool true)) (fun _ hk => hk.1))); (case aS => exact (below_size (by repeat (first | (with_reducible first | exact HB.out | apply below_alloc | apply pw_below_drewN | apply below_drew1 | refine below_set ?_ GE216.out | refine below_set ?_ GE217.out | refine below_set ?_ GE219.out | refine below_set ?_ GE221.out) | exact HB.out)))); (case aL => have := LMc145.out; omega); intro v244 w153 ho hb hg hat; rw [← Ny243.out] at ho; have n0_ := Aside0.mk (blk_grown (g := gb216) (o := .cells #[.int .i64 a0_0, .slice (some ad220) l0_1.length c0_1] 32 (0, 0)) (by (with_reducible repeat (first | refine blk_drewN ?_ _ | refine blk_drew ?_ | refine blk_alloc ?_ _)); refine blk_far ?_ NB216_221.out _; (with_reducible repeat (first | refine blk_drewN ?_ _ | refine blk_drew ?_ | refine blk_alloc ?_ _)); exact BK216.out) hg (Kd.R_ne HO_220001.out BK216.out (by decide))); have n1_ := Aside0.mk (blk_grown (g := gb217) (o := .cells #[.int .i64 0, .slice none 0 0] 32 (0, 0)) (by (with_reducible repeat (first | refine blk_drewN ?_ _ | refine blk_drew ?_ | refine blk_alloc ?_ _)); refine blk_far ?_ NB217_221.out _; (with_reducible repeat (first | refine blk_drewN ?_ _ | refine blk_drew ?_ | refine blk_alloc ?_ _)); exact BK217.out) hg (Kd.R_ne HO_220001.out BK217.out (by decide))); have n2_ := Aside0.mk (blk_grown (g := gb219) (o := .cells #[.int .i64 a0_0, u220001] 32 (0, 0)) (by (with_reducible repeat (first | refine blk_drewN ?_ _ | refine blk_drew ?_ | refine blk_alloc ?_ _)); refine blk_far ?_ NB219_221.out _; (with_reducible repeat (first | refine blk_drewN ?_ _ | refine blk_drew ?_ | refine blk_alloc ?_ _)); exact BK219.out) hg (Kd.R_ne HO_220001.out BK219.out (by decide))); have n3_ := Aside0.mk (blk_grown (g := gb221) (o := .cells #[.int .i64 ((rd_T62 l0_1 x10_1).f0), .int .i64 ((rd_T62 l0_1 x10_1).f1), .bool true] 62 (0, 0)) (by (with_reducible repeat (first | refine blk_drewN ?_ _ | refine blk_drew ?_ | refine blk_alloc ?_ _)); refine blk_put (cs := #[.int .i64 ((rd_T62 l0_1 x10_1).f0), .int .i64 ((rd_T62 l0_1 x10_1).f1), .bool ((rd_T62 l0_1 x10_1).f2)]) ?_ 2 _ rfl; (with_reducible repeat (first | refine blk_drewN ?_ _ | refine blk_drew ?_ | refine blk_alloc ?_ _)); exact BK221.out) hg (Kd.R_away HO_220001.out (fun _ hk => hk))); have n4_ := Aside0.mk (hb); have n5_ := Aside0.mk (ho); clear BK216; clear BK217; clear BK219; clear BK221; clear HB; clear HO_220001; have BK216 := n0_; have BK217 := n1_; have BK219 := n2_; have BK221 := n3_; have HB := n4_; have HO245 := n5_; clear n0_ n1_ n2_ n3_ n4_ n5_; clear ho hb hg hat; obtain ⟨Ao154, co154, eo154⟩ := Kd.R_slice HO245.out; subst eo154; have hcz155_0 : w153.cell? ⟨gb219, 0, none⟩ = some (.int .i64 a0_0) := (blk_cell BK219.out 0).trans rfl; have hcz155_1 : w153.cell? ⟨gb219, 1, none⟩ = some (u220001) := (blk_cell BK219.out 1).trans rfl; have hfz155_0 := blk_frozen BK219.out 0; have hfz155_1 := blk_frozen BK219.out 1))
                                  go_roundg kj108
                                  case measure => have := HK1.out; have := HJ18.out; have := HJ108.out; omega
                                  case rel => exact ⟨(13), (wrap64 (x10_1 + 1)), (y243), (.slice Ao154 y243.length co154), (by first | rfl | (simp; done) | (simp [*]; done)), (by first | rfl | (simp; done) | (simp [*]; done)), H', ⟨by have := HK1.out; have := HJ18.out; have := HJ108.out; omega⟩, ⟨by (with_reducible repeat (first | apply Kd.R_alloc | apply Kd.R_drewN | apply Kd.R_drew)); exact Kd.R_mono (Kd.R_far (p := ⟨gb219, 1, none⟩) (Kd.R_types HO245.out BK219.out (by decide)) (fun _ hk => hk.2) (.slice Ao154 y243.length co154)) (fun _ hk => trivial)⟩, ⟨by (with_reducible repeat (first | refine blk_drewN ?_ _ | refine blk_drew ?_ | refine blk_alloc ?_ _)); refine blk_far ?_ NB216_219.out _; (with_reducible repeat (first | refine blk_drewN ?_ _ | refine blk_drew ?_ | refine blk_alloc ?_ _)); exact BK216.out⟩, ⟨by (with_reducible repeat (first | refine blk_drewN ?_ _ | refine blk_drew ?_ | refine blk_alloc ?_ _)); refine blk_far ?_ NB217_219.out _; (with_reducible repeat (first | refine blk_drewN ?_ _ | refine blk_drew ?_ | refine blk_alloc ?_ _)); exact BK217.out⟩, ⟨by (with_reducible repeat (first | refine blk_drewN ?_ _ | refine blk_drew ?_ | refine blk_alloc ?_ _)); refine blk_put (cs := #[.int .i64 a0_0, u220001]) ?_ 1 _ rfl; (with_reducible repeat (first | refine blk_drewN ?_ _ | refine blk_drew ?_ | refine blk_alloc ?_ _)); exact BK219.out⟩, ⟨by repeat (first | (with_reducible first | exact HB.out | apply below_alloc | apply pw_below_drewN | apply below_drew1 | refine below_set ?_ GE216.out | refine below_set ?_ GE217.out | refine below_set ?_ GE219.out | refine below_set ?_ GE221.out) | exact HB.out)⟩⟩
                                · rw [if_neg c145] at H
                                  exact absurd H (by simp)
                            · replace c132 := Bool.eq_false_iff.mpr c132
                              subst c132
                              have H1 : (if x220001_1.length < 5864062014805 then (caduceusref14_Turn.l0 kj108 a1 false 13 (wrap64 (x10_1 + 1)) a0_0 l0_1 a0_0 (x220001_1 ++ [(⟨((rd_T62 l0_1 x10_1).f0), ((rd_T62 l0_1 x10_1).f1), false⟩ : S62)])) else (none)) = some (r1, r2, r3) := by rw [if_neg (show ¬ (false = true) by decide)] at H; exact H
                              clear H
                              have H := H1
                              clear H1
                              by_cases c156 : x220001_1.length < 5864062014805
                              · rw [if_pos c156] at H
                                have LMc156 := Aside0.mk c156
                                clear c156
                                obtain ⟨y246, hy246⟩ : ∃ y_ : List (S62), y_ = (x220001_1 ++ [(⟨((rd_T62 l0_1 x10_1).f0), ((rd_T62 l0_1 x10_1).f1), false⟩ : S62)]) := ⟨_, rfl⟩
                                replace H : (caduceusref14_Turn.l0 kj108 a1 false 13 (wrap64 (x10_1 + 1)) a0_0 l0_1 a0_0 y246) = some (r1, r2, r3) := by first | (rw [hy246]; with_reducible exact H) | (have H2_ := (Option.bind_some _ _).symm.trans H; rw [hy246]; with_reducible exact H2_) | (have H2_ := (Option.bind_some _ _).symm.trans H; with_reducible exact H2_) | with_reducible exact H | (rw [hy246]; exact H) | exact H
                                have Ny246 := Aside0.mk hy246
                                clear hy246
                                have H' := Aside0.mk H
                                clear H
                                have hnb157 := NB221_216.out
                                have hnc157 := NB216_221.out
                                have hnb158 := NB221_217.out
                                have hnc158 := NB217_221.out
                                have hnb159 := NB221_219.out
                                have hnc159 := NB219_221.out
                                have hcz160_0 : wc.cell? ⟨gb221, 0, none⟩ = some (.int .i64 ((rd_T62 l0_1 x10_1).f0)) := (blk_cell BK221.out 0).trans rfl
                                have hcz160_1 : wc.cell? ⟨gb221, 1, none⟩ = some (.int .i64 ((rd_T62 l0_1 x10_1).f1)) := (blk_cell BK221.out 1).trans rfl
                                have hcz160_2 : wc.cell? ⟨gb221, 2, none⟩ = some (.bool ((rd_T62 l0_1 x10_1).f2)) := (blk_cell BK221.out 2).trans rfl
                                have hfz160_0 := blk_frozen BK221.out 0
                                have hfz160_1 := blk_frozen BK221.out 1
                                have hfz160_2 := blk_frozen BK221.out 2
                                have hnb161 := NB219_216.out
                                have hnc161 := NB216_219.out
                                have hnb162 := NB219_217.out
                                have hnc162 := NB217_219.out
                                have hcz163_0 : wc.cell? ⟨gb219, 0, none⟩ = some (.int .i64 a0_0) := (blk_cell BK219.out 0).trans rfl
                                have hcz163_1 : wc.cell? ⟨gb219, 1, none⟩ = some (u220001) := (blk_cell BK219.out 1).trans rfl
                                have hfz163_0 := blk_frozen BK219.out 0
                                have hfz163_1 := blk_frozen BK219.out 1
                                go_wp2_with (first | ((with_reducible refine gate_builtin (b := .append) (xs := #[.tmp 69, .tmp 71]) rfl ?_); at_builtin; refine Kd.R_append k62 (w0 := w) w.heap.size rfl (.tmp 69) (.tmp 71) 30 62 (.agg #[(.int .i64 0), (.int .i64 0), (.bool false)]) 24 rfl Try.underlying30 info62 rfl (by decide) (by omega) u220001 x220001_1 (⟨((rd_T62 l0_1 x10_1).f0), ((rd_T62 l0_1 x10_1).f1), false⟩ : S62) [.int .i64 ((rd_T62 l0_1 x10_1).f0), .int .i64 ((rd_T62 l0_1 x10_1).f1), .bool false] (fun k_ => k_ ≠ gb221) (fun _ => False) rfl (by first | (go_simp; done) | (go_simp; rfl)) ?aP (fun _ hk => hk.elim) ?aF ?aO ?aB ?aS ?aL ?_; (case aP => exact k62_mkM _ _ _ (⟨((rd_T62 l0_1 x10_1).f0), ((rd_T62 l0_1 x10_1).f1), false⟩ : S62)); (case aB => exact (by repeat (first | (with_reducible first | exact HB.out | apply below_alloc | apply pw_below_drewN | apply below_drew1 | refine below_set ?_ GE216.out | refine below_set ?_ GE217.out | refine below_set ?_ GE219.out | refine below_set ?_ GE221.out) | exact HB.out))); (case aF => exact (fun k_ hk => Kd.freshB (g := gb221) (o := .cells #[.int .i64 ((rd_T62 l0_1 x10_1).f0), .int .i64 ((rd_T62 l0_1 x10_1).f1), .bool false] 62 (0, 0)) (by (with_reducible repeat (first | refine blk_drewN ?_ _ | refine blk_drew ?_ | refine blk_alloc ?_ _)); refine blk_put (cs := #[.int .i64 ((rd_T62 l0_1 x10_1).f0), .int .i64 ((rd_T62 l0_1 x10_1).f1), .bool ((rd_T62 l0_1 x10_1).f2)]) ?_ 2 _ rfl; (with_reducible repeat (first | refine blk_drewN ?_ _ | refine blk_drew ?_ | refine blk_alloc ?_ _)); exact BK221.out) k_ hk)); (case aO => exact (by (with_reducible repeat (first | apply Kd.R_alloc | apply Kd.R_drewN | apply Kd.R_drew)); exact Kd.R_mono (Kd.R_far (p := ⟨gb221, 2, none⟩) (Kd.R_mono HO_220001.out (fun k_ hk => (⟨hk, hk⟩ : _ ∧ k_ ≠ gb221))) (fun _ hk => hk.2) (.bool false)) (fun _ hk => hk.1))); (case aS => exact (below_size (by repeat (first | (with_reducible first | exact HB.out | apply below_alloc | apply pw_below_drewN | apply below_drew1 | refine below_set ?_ GE216.out | refine below_set ?_ GE217.out | refine below_set ?_ GE219.out | refine below_set ?_ GE221.out) | exact HB.out)))); (case aL => have := LMc156.out; omega); intro v247 w164 ho hb hg hat; rw [← Ny246.out] at ho; have n0_ := Aside0.mk (blk_grown (g := gb216) (o := .cells #[.int .i64 a0_0, .slice (some ad220) l0_1.length c0_1] 32 (0, 0)) (by (with_reducible repeat (first | refine blk_drewN ?_ _ | refine blk_drew ?_ | refine blk_alloc ?_ _)); refine blk_far ?_ NB216_221.out _; (with_reducible repeat (first | refine blk_drewN ?_ _ | refine blk_drew ?_ | refine blk_alloc ?_ _)); exact BK216.out) hg (Kd.R_ne HO_220001.out BK216.out (by decide))); have n1_ := Aside0.mk (blk_grown (g := gb217) (o := .cells #[.int .i64 0, .slice none 0 0] 32 (0, 0)) (by (with_reducible repeat (first | refine blk_drewN ?_ _ | refine blk_drew ?_ | refine blk_alloc ?_ _)); refine blk_far ?_ NB217_221.out _; (with_reducible repeat (first | refine blk_drewN ?_ _ | refine blk_drew ?_ | refine blk_alloc ?_ _)); exact BK217.out) hg (Kd.R_ne HO_220001.out BK217.out (by decide))); have n2_ := Aside0.mk (blk_grown (g := gb219) (o := .cells #[.int .i64 a0_0, u220001] 32 (0, 0)) (by (with_reducible repeat (first | refine blk_drewN ?_ _ | refine blk_drew ?_ | refine blk_alloc ?_ _)); refine blk_far ?_ NB219_221.out _; (with_reducible repeat (first | refine blk_drewN ?_ _ | refine blk_drew ?_ | refine blk_alloc ?_ _)); exact BK219.out) hg (Kd.R_ne HO_220001.out BK219.out (by decide))); have n3_ := Aside0.mk (blk_grown (g := gb221) (o := .cells #[.int .i64 ((rd_T62 l0_1 x10_1).f0), .int .i64 ((rd_T62 l0_1 x10_1).f1), .bool false] 62 (0, 0)) (by (with_reducible repeat (first | refine blk_drewN ?_ _ | refine blk_drew ?_ | refine blk_alloc ?_ _)); refine blk_put (cs := #[.int .i64 ((rd_T62 l0_1 x10_1).f0), .int .i64 ((rd_T62 l0_1 x10_1).f1), .bool ((rd_T62 l0_1 x10_1).f2)]) ?_ 2 _ rfl; (with_reducible repeat (first | refine blk_drewN ?_ _ | refine blk_drew ?_ | refine blk_alloc ?_ _)); exact BK221.out) hg (Kd.R_away HO_220001.out (fun _ hk => hk))); have n4_ := Aside0.mk (hb); have n5_ := Aside0.mk (ho); clear BK216; clear BK217; clear BK219; clear BK221; clear HB; clear HO_220001; have BK216 := n0_; have BK217 := n1_; have BK219 := n2_; have BK221 := n3_; have HB := n4_; have HO248 := n5_; clear n0_ n1_ n2_ n3_ n4_ n5_; clear ho hb hg hat; obtain ⟨Ao165, co165, eo165⟩ := Kd.R_slice HO248.out; subst eo165; have hcz166_0 : w164.cell? ⟨gb219, 0, none⟩ = some (.int .i64 a0_0) := (blk_cell BK219.out 0).trans rfl; have hcz166_1 : w164.cell? ⟨gb219, 1, none⟩ = some (u220001) := (blk_cell BK219.out 1).trans rfl; have hfz166_0 := blk_frozen BK219.out 0; have hfz166_1 := blk_frozen BK219.out 1))
                                go_roundg kj108
                                case measure => have := HK1.out; have := HJ18.out; have := HJ108.out; omega
                                case rel => exact ⟨(13), (wrap64 (x10_1 + 1)), (y246), (.slice Ao165 y246.length co165), (by first | rfl | (simp; done) | (simp [*]; done)), (by first | rfl | (simp; done) | (simp [*]; done)), H', ⟨by have := HK1.out; have := HJ18.out; have := HJ108.out; omega⟩, ⟨by (with_reducible repeat (first | apply Kd.R_alloc | apply Kd.R_drewN | apply Kd.R_drew)); exact Kd.R_mono (Kd.R_far (p := ⟨gb219, 1, none⟩) (Kd.R_types HO248.out BK219.out (by decide)) (fun _ hk => hk.2) (.slice Ao165 y246.length co165)) (fun _ hk => trivial)⟩, ⟨by (with_reducible repeat (first | refine blk_drewN ?_ _ | refine blk_drew ?_ | refine blk_alloc ?_ _)); refine blk_far ?_ NB216_219.out _; (with_reducible repeat (first | refine blk_drewN ?_ _ | refine blk_drew ?_ | refine blk_alloc ?_ _)); exact BK216.out⟩, ⟨by (with_reducible repeat (first | refine blk_drewN ?_ _ | refine blk_drew ?_ | refine blk_alloc ?_ _)); refine blk_far ?_ NB217_219.out _; (with_reducible repeat (first | refine blk_drewN ?_ _ | refine blk_drew ?_ | refine blk_alloc ?_ _)); exact BK217.out⟩, ⟨by (with_reducible repeat (first | refine blk_drewN ?_ _ | refine blk_drew ?_ | refine blk_alloc ?_ _)); refine blk_put (cs := #[.int .i64 a0_0, u220001]) ?_ 1 _ rfl; (with_reducible repeat (first | refine blk_drewN ?_ _ | refine blk_drew ?_ | refine blk_alloc ?_ _)); exact BK219.out⟩, ⟨by repeat (first | (with_reducible first | exact HB.out | apply below_alloc | apply pw_below_drewN | apply below_drew1 | refine below_set ?_ GE216.out | refine below_set ?_ GE217.out | refine below_set ?_ GE219.out | refine below_set ?_ GE221.out) | exact HB.out)⟩⟩
                              · rw [if_neg c156] at H
                                exact absurd H (by simp)
                          · replace c131 := Bool.eq_false_iff.mpr c131
                            subst c131
                            have H1 : (if a2 = true then (if 0 = 0 then (if x220001_1.length < 5864062014805 then (caduceusref14_Turn.l0 kj108 a1 a2 0 (wrap64 (x10_1 + 1)) a0_0 l0_1 a0_0 (x220001_1 ++ [(⟨((rd_T62 l0_1 x10_1).f0), wrap64 (((rd_T62 l0_1 x10_1).f1) + 1), a2⟩ : S62)])) else (none)) else (if x220001_1.length < 5864062014805 then (caduceusref14_Turn.l0 kj108 a1 a2 0 (wrap64 (x10_1 + 1)) a0_0 l0_1 a0_0 (x220001_1 ++ [(⟨((rd_T62 l0_1 x10_1).f0), ((rd_T62 l0_1 x10_1).f1), a2⟩ : S62)])) else (none))) else (if x220001_1.length < 5864062014805 then (caduceusref14_Turn.l0 kj108 a1 a2 0 (wrap64 (x10_1 + 1)) a0_0 l0_1 a0_0 (x220001_1 ++ [(⟨((rd_T62 l0_1 x10_1).f0), ((rd_T62 l0_1 x10_1).f1), a2⟩ : S62)])) else (none))) = some (r1, r2, r3) := by rw [if_neg (show ¬ (false = true) by decide)] at H; exact H
                            clear H
                            have H := H1
                            clear H1
                            by_cases c167 : a2 = true
                            · subst c167
                              have H1 : (if 0 = 0 then (if x220001_1.length < 5864062014805 then (caduceusref14_Turn.l0 kj108 a1 true 0 (wrap64 (x10_1 + 1)) a0_0 l0_1 a0_0 (x220001_1 ++ [(⟨((rd_T62 l0_1 x10_1).f0), wrap64 (((rd_T62 l0_1 x10_1).f1) + 1), true⟩ : S62)])) else (none)) else (if x220001_1.length < 5864062014805 then (caduceusref14_Turn.l0 kj108 a1 true 0 (wrap64 (x10_1 + 1)) a0_0 l0_1 a0_0 (x220001_1 ++ [(⟨((rd_T62 l0_1 x10_1).f0), ((rd_T62 l0_1 x10_1).f1), true⟩ : S62)])) else (none))) = some (r1, r2, r3) := by rw [if_pos rfl] at H; exact H
                              clear H
                              have H := H1
                              clear H1
                              by_cases c168 : 0 = 0
                              · rw [if_pos c168] at H
                                have c168b0 : (0 == 0) = true := beq_iff_eq.mpr c168
                                have c168b1 : (0 != 0) = false := bne_eq_false_iff_eq.mpr c168
                                clear c168
                                by_cases c169 : x220001_1.length < 5864062014805
                                · rw [if_pos c169] at H
                                  have LMc169 := Aside0.mk c169
                                  clear c169
                                  obtain ⟨y249, hy249⟩ : ∃ y_ : List (S62), y_ = (x220001_1 ++ [(⟨((rd_T62 l0_1 x10_1).f0), wrap64 (((rd_T62 l0_1 x10_1).f1) + 1), true⟩ : S62)]) := ⟨_, rfl⟩
                                  replace H : (caduceusref14_Turn.l0 kj108 a1 true 0 (wrap64 (x10_1 + 1)) a0_0 l0_1 a0_0 y249) = some (r1, r2, r3) := by first | (rw [hy249]; with_reducible exact H) | (have H2_ := (Option.bind_some _ _).symm.trans H; rw [hy249]; with_reducible exact H2_) | (have H2_ := (Option.bind_some _ _).symm.trans H; with_reducible exact H2_) | with_reducible exact H | (rw [hy249]; exact H) | exact H
                                  have Ny249 := Aside0.mk hy249
                                  clear hy249
                                  have H' := Aside0.mk H
                                  clear H
                                  have hnb170 := NB221_216.out
                                  have hnc170 := NB216_221.out
                                  have hnb171 := NB221_217.out
                                  have hnc171 := NB217_221.out
                                  have hnb172 := NB221_219.out
                                  have hnc172 := NB219_221.out
                                  have hcz173_0 : wc.cell? ⟨gb221, 0, none⟩ = some (.int .i64 ((rd_T62 l0_1 x10_1).f0)) := (blk_cell BK221.out 0).trans rfl
                                  have hcz173_1 : wc.cell? ⟨gb221, 1, none⟩ = some (.int .i64 ((rd_T62 l0_1 x10_1).f1)) := (blk_cell BK221.out 1).trans rfl
                                  have hcz173_2 : wc.cell? ⟨gb221, 2, none⟩ = some (.bool ((rd_T62 l0_1 x10_1).f2)) := (blk_cell BK221.out 2).trans rfl
                                  have hfz173_0 := blk_frozen BK221.out 0
                                  have hfz173_1 := blk_frozen BK221.out 1
                                  have hfz173_2 := blk_frozen BK221.out 2
                                  have hnb174 := NB219_216.out
                                  have hnc174 := NB216_219.out
                                  have hnb175 := NB219_217.out
                                  have hnc175 := NB217_219.out
                                  have hcz176_0 : wc.cell? ⟨gb219, 0, none⟩ = some (.int .i64 a0_0) := (blk_cell BK219.out 0).trans rfl
                                  have hcz176_1 : wc.cell? ⟨gb219, 1, none⟩ = some (u220001) := (blk_cell BK219.out 1).trans rfl
                                  have hfz176_0 := blk_frozen BK219.out 0
                                  have hfz176_1 := blk_frozen BK219.out 1
                                  go_wp2_with (first | ((with_reducible refine gate_builtin (b := .append) (xs := #[.tmp 69, .tmp 71]) rfl ?_); at_builtin; refine Kd.R_append k62 (w0 := w) w.heap.size rfl (.tmp 69) (.tmp 71) 30 62 (.agg #[(.int .i64 0), (.int .i64 0), (.bool false)]) 24 rfl Try.underlying30 info62 rfl (by decide) (by omega) u220001 x220001_1 (⟨((rd_T62 l0_1 x10_1).f0), wrap64 (((rd_T62 l0_1 x10_1).f1) + 1), true⟩ : S62) [.int .i64 ((rd_T62 l0_1 x10_1).f0), .int .i64 (wrap64 (((rd_T62 l0_1 x10_1).f1) + 1)), .bool true] (fun k_ => k_ ≠ gb221) (fun _ => False) rfl (by first | (go_simp; done) | (go_simp; rfl)) ?aP (fun _ hk => hk.elim) ?aF ?aO ?aB ?aS ?aL ?_; (case aP => exact k62_mkM _ _ _ (⟨((rd_T62 l0_1 x10_1).f0), wrap64 (((rd_T62 l0_1 x10_1).f1) + 1), true⟩ : S62)); (case aB => exact (by repeat (first | (with_reducible first | exact HB.out | apply below_alloc | apply pw_below_drewN | apply below_drew1 | refine below_set ?_ GE216.out | refine below_set ?_ GE217.out | refine below_set ?_ GE219.out | refine below_set ?_ GE221.out) | exact HB.out))); (case aF => exact (fun k_ hk => Kd.freshB (g := gb221) (o := .cells #[.int .i64 ((rd_T62 l0_1 x10_1).f0), .int .i64 (wrap64 (((rd_T62 l0_1 x10_1).f1) + 1)), .bool true] 62 (0, 0)) (by (with_reducible repeat (first | refine blk_drewN ?_ _ | refine blk_drew ?_ | refine blk_alloc ?_ _)); refine blk_put (cs := #[.int .i64 ((rd_T62 l0_1 x10_1).f0), .int .i64 ((rd_T62 l0_1 x10_1).f1), .bool true]) ?_ 1 _ rfl; (with_reducible repeat (first | refine blk_drewN ?_ _ | refine blk_drew ?_ | refine blk_alloc ?_ _)); refine blk_put (cs := #[.int .i64 ((rd_T62 l0_1 x10_1).f0), .int .i64 ((rd_T62 l0_1 x10_1).f1), .bool ((rd_T62 l0_1 x10_1).f2)]) ?_ 2 _ rfl; (with_reducible repeat (first | refine blk_drewN ?_ _ | refine blk_drew ?_ | refine blk_alloc ?_ _)); exact BK221.out) k_ hk)); (case aO => exact (by (with_reducible repeat (first | apply Kd.R_alloc | apply Kd.R_drewN | apply Kd.R_drew)); exact Kd.R_mono (Kd.R_far (p := ⟨gb221, 1, none⟩) (Kd.R_far (p := ⟨gb221, 2, none⟩) (Kd.R_mono HO_220001.out (fun k_ hk => (⟨hk, hk⟩ : _ ∧ k_ ≠ gb221))) (fun _ hk => hk.2) (.bool true)) (fun _ hk => hk.2) (.int .i64 (wrap64 (((rd_T62 l0_1 x10_1).f1) + 1)))) (fun _ hk => hk.1))); (case aS => exact (below_size (by repeat (first | (with_reducible first | exact HB.out | apply below_alloc | apply pw_below_drewN | apply below_drew1 | refine below_set ?_ GE216.out | refine below_set ?_ GE217.out | refine below_set ?_ GE219.out | refine below_set ?_ GE221.out) | exact HB.out)))); (case aL => have := LMc169.out; omega); intro v250 w177 ho hb hg hat; rw [← Ny249.out] at ho; have n0_ := Aside0.mk (blk_grown (g := gb216) (o := .cells #[.int .i64 a0_0, .slice (some ad220) l0_1.length c0_1] 32 (0, 0)) (by (with_reducible repeat (first | refine blk_drewN ?_ _ | refine blk_drew ?_ | refine blk_alloc ?_ _)); refine blk_far ?_ NB216_221.out _; (with_reducible repeat (first | refine blk_drewN ?_ _ | refine blk_drew ?_ | refine blk_alloc ?_ _)); refine blk_far ?_ NB216_221.out _; (with_reducible repeat (first | refine blk_drewN ?_ _ | refine blk_drew ?_ | refine blk_alloc ?_ _)); exact BK216.out) hg (Kd.R_ne HO_220001.out BK216.out (by decide))); have n1_ := Aside0.mk (blk_grown (g := gb217) (o := .cells #[.int .i64 0, .slice none 0 0] 32 (0, 0)) (by (with_reducible repeat (first | refine blk_drewN ?_ _ | refine blk_drew ?_ | refine blk_alloc ?_ _)); refine blk_far ?_ NB217_221.out _; (with_reducible repeat (first | refine blk_drewN ?_ _ | refine blk_drew ?_ | refine blk_alloc ?_ _)); refine blk_far ?_ NB217_221.out _; (with_reducible repeat (first | refine blk_drewN ?_ _ | refine blk_drew ?_ | refine blk_alloc ?_ _)); exact BK217.out) hg (Kd.R_ne HO_220001.out BK217.out (by decide))); have n2_ := Aside0.mk (blk_grown (g := gb219) (o := .cells #[.int .i64 a0_0, u220001] 32 (0, 0)) (by (with_reducible repeat (first | refine blk_drewN ?_ _ | refine blk_drew ?_ | refine blk_alloc ?_ _)); refine blk_far ?_ NB219_221.out _; (with_reducible repeat (first | refine blk_drewN ?_ _ | refine blk_drew ?_ | refine blk_alloc ?_ _)); refine blk_far ?_ NB219_221.out _; (with_reducible repeat (first | refine blk_drewN ?_ _ | refine blk_drew ?_ | refine blk_alloc ?_ _)); exact BK219.out) hg (Kd.R_ne HO_220001.out BK219.out (by decide))); have n3_ := Aside0.mk (blk_grown (g := gb221) (o := .cells #[.int .i64 ((rd_T62 l0_1 x10_1).f0), .int .i64 (wrap64 (((rd_T62 l0_1 x10_1).f1) + 1)), .bool true] 62 (0, 0)) (by (with_reducible repeat (first | refine blk_drewN ?_ _ | refine blk_drew ?_ | refine blk_alloc ?_ _)); refine blk_put (cs := #[.int .i64 ((rd_T62 l0_1 x10_1).f0), .int .i64 ((rd_T62 l0_1 x10_1).f1), .bool true]) ?_ 1 _ rfl; (with_reducible repeat (first | refine blk_drewN ?_ _ | refine blk_drew ?_ | refine blk_alloc ?_ _)); refine blk_put (cs := #[.int .i64 ((rd_T62 l0_1 x10_1).f0), .int .i64 ((rd_T62 l0_1 x10_1).f1), .bool ((rd_T62 l0_1 x10_1).f2)]) ?_ 2 _ rfl; (with_reducible repeat (first | refine blk_drewN ?_ _ | refine blk_drew ?_ | refine blk_alloc ?_ _)); exact BK221.out) hg (Kd.R_away HO_220001.out (fun _ hk => hk))); have n4_ := Aside0.mk (hb); have n5_ := Aside0.mk (ho); clear BK216; clear BK217; clear BK219; clear BK221; clear HB; clear HO_220001; have BK216 := n0_; have BK217 := n1_; have BK219 := n2_; have BK221 := n3_; have HB := n4_; have HO251 := n5_; clear n0_ n1_ n2_ n3_ n4_ n5_; clear ho hb hg hat; obtain ⟨Ao178, co178, eo178⟩ := Kd.R_slice HO251.out; subst eo178; have hcz179_0 : w177.cell? ⟨gb219, 0, none⟩ = some (.int .i64 a0_0) := (blk_cell BK219.out 0).trans rfl; have hcz179_1 : w177.cell? ⟨gb219, 1, none⟩ = some (u220001) := (blk_cell BK219.out 1).trans rfl; have hfz179_0 := blk_frozen BK219.out 0; have hfz179_1 := blk_frozen BK219.out 1))
                                  go_roundg kj108
                                  case measure => have := HK1.out; have := HJ18.out; have := HJ108.out; omega
                                  case rel => exact ⟨(0), (wrap64 (x10_1 + 1)), (y249), (.slice Ao178 y249.length co178), (by first | rfl | (simp; done) | (simp [*]; done)), (by first | rfl | (simp; done) | (simp [*]; done)), H', ⟨by have := HK1.out; have := HJ18.out; have := HJ108.out; omega⟩, ⟨by (with_reducible repeat (first | apply Kd.R_alloc | apply Kd.R_drewN | apply Kd.R_drew)); exact Kd.R_mono (Kd.R_far (p := ⟨gb219, 1, none⟩) (Kd.R_types HO251.out BK219.out (by decide)) (fun _ hk => hk.2) (.slice Ao178 y249.length co178)) (fun _ hk => trivial)⟩, ⟨by (with_reducible repeat (first | refine blk_drewN ?_ _ | refine blk_drew ?_ | refine blk_alloc ?_ _)); refine blk_far ?_ NB216_219.out _; (with_reducible repeat (first | refine blk_drewN ?_ _ | refine blk_drew ?_ | refine blk_alloc ?_ _)); exact BK216.out⟩, ⟨by (with_reducible repeat (first | refine blk_drewN ?_ _ | refine blk_drew ?_ | refine blk_alloc ?_ _)); refine blk_far ?_ NB217_219.out _; (with_reducible repeat (first | refine blk_drewN ?_ _ | refine blk_drew ?_ | refine blk_alloc ?_ _)); exact BK217.out⟩, ⟨by (with_reducible repeat (first | refine blk_drewN ?_ _ | refine blk_drew ?_ | refine blk_alloc ?_ _)); refine blk_put (cs := #[.int .i64 a0_0, u220001]) ?_ 1 _ rfl; (with_reducible repeat (first | refine blk_drewN ?_ _ | refine blk_drew ?_ | refine blk_alloc ?_ _)); exact BK219.out⟩, ⟨by repeat (first | (with_reducible first | exact HB.out | apply below_alloc | apply pw_below_drewN | apply below_drew1 | refine below_set ?_ GE216.out | refine below_set ?_ GE217.out | refine below_set ?_ GE219.out | refine below_set ?_ GE221.out) | exact HB.out)⟩⟩
                                · rw [if_neg c169] at H
                                  exact absurd H (by simp)
                              · exact absurd rfl c168
                            · replace c167 := Bool.eq_false_iff.mpr c167
                              subst c167
                              have H1 : (if x220001_1.length < 5864062014805 then (caduceusref14_Turn.l0 kj108 a1 false 0 (wrap64 (x10_1 + 1)) a0_0 l0_1 a0_0 (x220001_1 ++ [(⟨((rd_T62 l0_1 x10_1).f0), ((rd_T62 l0_1 x10_1).f1), false⟩ : S62)])) else (none)) = some (r1, r2, r3) := by rw [if_neg (show ¬ (false = true) by decide)] at H; exact H
                              clear H
                              have H := H1
                              clear H1
                              by_cases c191 : x220001_1.length < 5864062014805
                              · rw [if_pos c191] at H
                                have LMc191 := Aside0.mk c191
                                clear c191
                                obtain ⟨y255, hy255⟩ : ∃ y_ : List (S62), y_ = (x220001_1 ++ [(⟨((rd_T62 l0_1 x10_1).f0), ((rd_T62 l0_1 x10_1).f1), false⟩ : S62)]) := ⟨_, rfl⟩
                                replace H : (caduceusref14_Turn.l0 kj108 a1 false 0 (wrap64 (x10_1 + 1)) a0_0 l0_1 a0_0 y255) = some (r1, r2, r3) := by first | (rw [hy255]; with_reducible exact H) | (have H2_ := (Option.bind_some _ _).symm.trans H; rw [hy255]; with_reducible exact H2_) | (have H2_ := (Option.bind_some _ _).symm.trans H; with_reducible exact H2_) | with_reducible exact H | (rw [hy255]; exact H) | exact H
                                have Ny255 := Aside0.mk hy255
                                clear hy255
                                have H' := Aside0.mk H
                                clear H
                                have hnb192 := NB221_216.out
                                have hnc192 := NB216_221.out
                                have hnb193 := NB221_217.out
                                have hnc193 := NB217_221.out
                                have hnb194 := NB221_219.out
                                have hnc194 := NB219_221.out
                                have hcz195_0 : wc.cell? ⟨gb221, 0, none⟩ = some (.int .i64 ((rd_T62 l0_1 x10_1).f0)) := (blk_cell BK221.out 0).trans rfl
                                have hcz195_1 : wc.cell? ⟨gb221, 1, none⟩ = some (.int .i64 ((rd_T62 l0_1 x10_1).f1)) := (blk_cell BK221.out 1).trans rfl
                                have hcz195_2 : wc.cell? ⟨gb221, 2, none⟩ = some (.bool ((rd_T62 l0_1 x10_1).f2)) := (blk_cell BK221.out 2).trans rfl
                                have hfz195_0 := blk_frozen BK221.out 0
                                have hfz195_1 := blk_frozen BK221.out 1
                                have hfz195_2 := blk_frozen BK221.out 2
                                have hnb196 := NB219_216.out
                                have hnc196 := NB216_219.out
                                have hnb197 := NB219_217.out
                                have hnc197 := NB217_219.out
                                have hcz198_0 : wc.cell? ⟨gb219, 0, none⟩ = some (.int .i64 a0_0) := (blk_cell BK219.out 0).trans rfl
                                have hcz198_1 : wc.cell? ⟨gb219, 1, none⟩ = some (u220001) := (blk_cell BK219.out 1).trans rfl
                                have hfz198_0 := blk_frozen BK219.out 0
                                have hfz198_1 := blk_frozen BK219.out 1
                                go_wp2_with (first | ((with_reducible refine gate_builtin (b := .append) (xs := #[.tmp 69, .tmp 71]) rfl ?_); at_builtin; refine Kd.R_append k62 (w0 := w) w.heap.size rfl (.tmp 69) (.tmp 71) 30 62 (.agg #[(.int .i64 0), (.int .i64 0), (.bool false)]) 24 rfl Try.underlying30 info62 rfl (by decide) (by omega) u220001 x220001_1 (⟨((rd_T62 l0_1 x10_1).f0), ((rd_T62 l0_1 x10_1).f1), false⟩ : S62) [.int .i64 ((rd_T62 l0_1 x10_1).f0), .int .i64 ((rd_T62 l0_1 x10_1).f1), .bool false] (fun k_ => k_ ≠ gb221) (fun _ => False) rfl (by first | (go_simp; done) | (go_simp; rfl)) ?aP (fun _ hk => hk.elim) ?aF ?aO ?aB ?aS ?aL ?_; (case aP => exact k62_mkM _ _ _ (⟨((rd_T62 l0_1 x10_1).f0), ((rd_T62 l0_1 x10_1).f1), false⟩ : S62)); (case aB => exact (by repeat (first | (with_reducible first | exact HB.out | apply below_alloc | apply pw_below_drewN | apply below_drew1 | refine below_set ?_ GE216.out | refine below_set ?_ GE217.out | refine below_set ?_ GE219.out | refine below_set ?_ GE221.out) | exact HB.out))); (case aF => exact (fun k_ hk => Kd.freshB (g := gb221) (o := .cells #[.int .i64 ((rd_T62 l0_1 x10_1).f0), .int .i64 ((rd_T62 l0_1 x10_1).f1), .bool false] 62 (0, 0)) (by (with_reducible repeat (first | refine blk_drewN ?_ _ | refine blk_drew ?_ | refine blk_alloc ?_ _)); refine blk_put (cs := #[.int .i64 ((rd_T62 l0_1 x10_1).f0), .int .i64 ((rd_T62 l0_1 x10_1).f1), .bool ((rd_T62 l0_1 x10_1).f2)]) ?_ 2 _ rfl; (with_reducible repeat (first | refine blk_drewN ?_ _ | refine blk_drew ?_ | refine blk_alloc ?_ _)); exact BK221.out) k_ hk)); (case aO => exact (by (with_reducible repeat (first | apply Kd.R_alloc | apply Kd.R_drewN | apply Kd.R_drew)); exact Kd.R_mono (Kd.R_far (p := ⟨gb221, 2, none⟩) (Kd.R_mono HO_220001.out (fun k_ hk => (⟨hk, hk⟩ : _ ∧ k_ ≠ gb221))) (fun _ hk => hk.2) (.bool false)) (fun _ hk => hk.1))); (case aS => exact (below_size (by repeat (first | (with_reducible first | exact HB.out | apply below_alloc | apply pw_below_drewN | apply below_drew1 | refine below_set ?_ GE216.out | refine below_set ?_ GE217.out | refine below_set ?_ GE219.out | refine below_set ?_ GE221.out) | exact HB.out)))); (case aL => have := LMc191.out; omega); intro v256 w199 ho hb hg hat; rw [← Ny255.out] at ho; have n0_ := Aside0.mk (blk_grown (g := gb216) (o := .cells #[.int .i64 a0_0, .slice (some ad220) l0_1.length c0_1] 32 (0, 0)) (by (with_reducible repeat (first | refine blk_drewN ?_ _ | refine blk_drew ?_ | refine blk_alloc ?_ _)); refine blk_far ?_ NB216_221.out _; (with_reducible repeat (first | refine blk_drewN ?_ _ | refine blk_drew ?_ | refine blk_alloc ?_ _)); exact BK216.out) hg (Kd.R_ne HO_220001.out BK216.out (by decide))); have n1_ := Aside0.mk (blk_grown (g := gb217) (o := .cells #[.int .i64 0, .slice none 0 0] 32 (0, 0)) (by (with_reducible repeat (first | refine blk_drewN ?_ _ | refine blk_drew ?_ | refine blk_alloc ?_ _)); refine blk_far ?_ NB217_221.out _; (with_reducible repeat (first | refine blk_drewN ?_ _ | refine blk_drew ?_ | refine blk_alloc ?_ _)); exact BK217.out) hg (Kd.R_ne HO_220001.out BK217.out (by decide))); have n2_ := Aside0.mk (blk_grown (g := gb219) (o := .cells #[.int .i64 a0_0, u220001] 32 (0, 0)) (by (with_reducible repeat (first | refine blk_drewN ?_ _ | refine blk_drew ?_ | refine blk_alloc ?_ _)); refine blk_far ?_ NB219_221.out _; (with_reducible repeat (first | refine blk_drewN ?_ _ | refine blk_drew ?_ | refine blk_alloc ?_ _)); exact BK219.out) hg (Kd.R_ne HO_220001.out BK219.out (by decide))); have n3_ := Aside0.mk (blk_grown (g := gb221) (o := .cells #[.int .i64 ((rd_T62 l0_1 x10_1).f0), .int .i64 ((rd_T62 l0_1 x10_1).f1), .bool false] 62 (0, 0)) (by (with_reducible repeat (first | refine blk_drewN ?_ _ | refine blk_drew ?_ | refine blk_alloc ?_ _)); refine blk_put (cs := #[.int .i64 ((rd_T62 l0_1 x10_1).f0), .int .i64 ((rd_T62 l0_1 x10_1).f1), .bool ((rd_T62 l0_1 x10_1).f2)]) ?_ 2 _ rfl; (with_reducible repeat (first | refine blk_drewN ?_ _ | refine blk_drew ?_ | refine blk_alloc ?_ _)); exact BK221.out) hg (Kd.R_away HO_220001.out (fun _ hk => hk))); have n4_ := Aside0.mk (hb); have n5_ := Aside0.mk (ho); clear BK216; clear BK217; clear BK219; clear BK221; clear HB; clear HO_220001; have BK216 := n0_; have BK217 := n1_; have BK219 := n2_; have BK221 := n3_; have HB := n4_; have HO257 := n5_; clear n0_ n1_ n2_ n3_ n4_ n5_; clear ho hb hg hat; obtain ⟨Ao200, co200, eo200⟩ := Kd.R_slice HO257.out; subst eo200; have hcz201_0 : w199.cell? ⟨gb219, 0, none⟩ = some (.int .i64 a0_0) := (blk_cell BK219.out 0).trans rfl; have hcz201_1 : w199.cell? ⟨gb219, 1, none⟩ = some (u220001) := (blk_cell BK219.out 1).trans rfl; have hfz201_0 := blk_frozen BK219.out 0; have hfz201_1 := blk_frozen BK219.out 1))
                                go_roundg kj108
                                case measure => have := HK1.out; have := HJ18.out; have := HJ108.out; omega
                                case rel => exact ⟨(0), (wrap64 (x10_1 + 1)), (y255), (.slice Ao200 y255.length co200), (by first | rfl | (simp; done) | (simp [*]; done)), (by first | rfl | (simp; done) | (simp [*]; done)), H', ⟨by have := HK1.out; have := HJ18.out; have := HJ108.out; omega⟩, ⟨by (with_reducible repeat (first | apply Kd.R_alloc | apply Kd.R_drewN | apply Kd.R_drew)); exact Kd.R_mono (Kd.R_far (p := ⟨gb219, 1, none⟩) (Kd.R_types HO257.out BK219.out (by decide)) (fun _ hk => hk.2) (.slice Ao200 y255.length co200)) (fun _ hk => trivial)⟩, ⟨by (with_reducible repeat (first | refine blk_drewN ?_ _ | refine blk_drew ?_ | refine blk_alloc ?_ _)); refine blk_far ?_ NB216_219.out _; (with_reducible repeat (first | refine blk_drewN ?_ _ | refine blk_drew ?_ | refine blk_alloc ?_ _)); exact BK216.out⟩, ⟨by (with_reducible repeat (first | refine blk_drewN ?_ _ | refine blk_drew ?_ | refine blk_alloc ?_ _)); refine blk_far ?_ NB217_219.out _; (with_reducible repeat (first | refine blk_drewN ?_ _ | refine blk_drew ?_ | refine blk_alloc ?_ _)); exact BK217.out⟩, ⟨by (with_reducible repeat (first | refine blk_drewN ?_ _ | refine blk_drew ?_ | refine blk_alloc ?_ _)); refine blk_put (cs := #[.int .i64 a0_0, u220001]) ?_ 1 _ rfl; (with_reducible repeat (first | refine blk_drewN ?_ _ | refine blk_drew ?_ | refine blk_alloc ?_ _)); exact BK219.out⟩, ⟨by repeat (first | (with_reducible first | exact HB.out | apply below_alloc | apply pw_below_drewN | apply below_drew1 | refine below_set ?_ GE216.out | refine below_set ?_ GE217.out | refine below_set ?_ GE219.out | refine below_set ?_ GE221.out) | exact HB.out)⟩⟩
                              · rw [if_neg c191] at H
                                exact absurd H (by simp)
            · rw [if_neg c18] at H
              have c18b0 : (((rd_T62 l0_1 x10_1).f0) == a1) = false := beq_eq_false_iff_ne.mpr c18
              have c18b1 : (((rd_T62 l0_1 x10_1).f0) != a1) = true := bne_iff_ne.mpr c18
              by_cases c202 : x220001_1.length < 5864062014805
              · rw [if_pos c202] at H
                have LMc202 := Aside0.mk c202
                clear c202
                obtain ⟨y258, hy258⟩ : ∃ y_ : List (S62), y_ = (x220001_1 ++ [(⟨(rd_T62 l0_1 x10_1).f0, (rd_T62 l0_1 x10_1).f1, (rd_T62 l0_1 x10_1).f2⟩ : S62)]) := ⟨_, rfl⟩
                replace H : (caduceusref14_Turn.l0 k1 a1 a2 x9_1 (wrap64 (x10_1 + 1)) a0_0 l0_1 a0_0 y258) = some (r1, r2, r3) := by first | (rw [hy258]; with_reducible exact H) | (have H2_ := (Option.bind_some _ _).symm.trans H; rw [hy258]; with_reducible exact H2_) | (have H2_ := (Option.bind_some _ _).symm.trans H; with_reducible exact H2_) | with_reducible exact H | (rw [hy258]; exact H) | exact H
                have Ny258 := Aside0.mk hy258
                clear hy258
                have H' := Aside0.mk H
                clear H
                have hnb203 := NB216_217.out
                have hnc203 := NB217_216.out
                have hnb204 := NB216_219.out
                have hnc204 := NB219_216.out
                have hcz205_0 : wr.cell? ⟨gb216, 0, none⟩ = some (.int .i64 a0_0) := (blk_cell BK216.out 0).trans rfl
                have hcz205_1 : wr.cell? ⟨gb216, 1, none⟩ = some (.slice A0_1 l0_1.length c0_1) := (blk_cell BK216.out 1).trans rfl
                have hfz205_0 := blk_frozen BK216.out 0
                have hfz205_1 := blk_frozen BK216.out 1
                have p220 : 0 ≤ (x10_1 : Int) := of_decide_eq_true (by first | (with_reducible assumption) | assumption)
                have q220 : x10_1 < (l0_1.length : Int) := of_decide_eq_true (by first | (with_reducible assumption) | assumption)
                obtain ⟨ad220, e220, hx220_0, hx220_1, hx220_2⟩ := at_T62 HR0_1.out x10_1 p220 q220
                cases e220
                replace hx220_0 := (HB.out.cell (World.block_lt_of_cell? w _ hx220_0)).trans hx220_0
                replace hx220_1 := (HB.out.cell (World.block_lt_of_cell? w _ hx220_1)).trans hx220_1
                replace hx220_2 := (HB.out.cell (World.block_lt_of_cell? w _ hx220_2)).trans hx220_2
                replace p220 := eq_true p220
                replace q220 := eq_true q220
                go_wp2_with (first | ((with_reducible refine gate_dst (N := 11) rfl ?_); refine box_event ?hg (N := 11) ?hd (cs := #[.int .i64 0, .int .i64 0, .bool false]) (t := 62) ?hr ?_; (case hd => rfl); (case hg => rfl); (case hr => first | (go_simp; done) | (go_simp; rfl)); intro gb221 hg w206 hbox hb; have n0_ := Aside0.mk (Kd.R_below (Kd.R_elderB (by (with_reducible repeat (first | apply Kd.R_alloc | apply Kd.R_drewN | apply Kd.R_drew)); exact HO_220001.out) gb221 (Nat.le_of_eq hg.symm)) hb); have n1_ := Aside0.mk (blk_below (g := gb216) (o := .cells #[.int .i64 a0_0, .slice (some ad220) l0_1.length c0_1] 32 (0, 0)) (by (with_reducible repeat (first | refine blk_drewN ?_ _ | refine blk_drew ?_ | refine blk_alloc ?_ _)); exact BK216.out) hb); have n2_ := Aside0.mk (blk_below (g := gb217) (o := .cells #[.int .i64 0, .slice none 0 0] 32 (0, 0)) (by (with_reducible repeat (first | refine blk_drewN ?_ _ | refine blk_drew ?_ | refine blk_alloc ?_ _)); exact BK217.out) hb); have n3_ := Aside0.mk (blk_below (g := gb219) (o := .cells #[.int .i64 a0_0, u220001] 32 (0, 0)) (by (with_reducible repeat (first | refine blk_drewN ?_ _ | refine blk_drew ?_ | refine blk_alloc ?_ _)); exact BK219.out) hb); have n4_ := Aside0.mk (below_step (by repeat (first | (with_reducible first | exact HB.out | apply below_alloc | apply pw_below_drewN | apply below_drew1 | refine below_set ?_ GE216.out | refine below_set ?_ GE217.out | refine below_set ?_ GE219.out) | exact HB.out)) hb); have n5_ := Aside0.mk (hbox); have n6_ := Aside0.mk ((by rw [hg]; exact (below_size (by repeat (first | (with_reducible first | exact HB.out | apply below_alloc | apply pw_below_drewN | apply below_drew1 | refine below_set ?_ GE216.out | refine below_set ?_ GE217.out | refine below_set ?_ GE219.out) | exact HB.out))) : w.heap.size ≤ gb221)); have n7_ := Aside0.mk ((by rw [hg]; exact (below_size (by repeat (first | (with_reducible first | exact HB.out | apply below_alloc | apply pw_below_drewN | apply below_drew1 | refine below_set ?_ GE216.out | refine below_set ?_ GE217.out | refine below_set ?_ GE219.out) | exact HB.out))) : w.heap.size ≤ gb221)); have n8_ := Aside0.mk ((by rw [hg]; exact Nat.ne_of_lt (blk_lt (g := gb216) (o := .cells #[.int .i64 a0_0, .slice (some ad220) l0_1.length c0_1] 32 (0, 0)) (by (with_reducible repeat (first | refine blk_drewN ?_ _ | refine blk_drew ?_ | refine blk_alloc ?_ _)); exact BK216.out)) : gb216 ≠ gb221)); have n9_ := Aside0.mk ((by rw [hg]; exact Nat.ne_of_gt (blk_lt (g := gb216) (o := .cells #[.int .i64 a0_0, .slice (some ad220) l0_1.length c0_1] 32 (0, 0)) (by (with_reducible repeat (first | refine blk_drewN ?_ _ | refine blk_drew ?_ | refine blk_alloc ?_ _)); exact BK216.out)) : gb221 ≠ gb216)); have n10_ := Aside0.mk ((by rw [hg]; exact Nat.ne_of_lt (blk_lt (g := gb217) (o := .cells #[.int .i64 0, .slice none 0 0] 32 (0, 0)) (by (with_reducible repeat (first | refine blk_drewN ?_ _ | refine blk_drew ?_ | refine blk_alloc ?_ _)); exact BK217.out)) : gb217 ≠ gb221)); have n11_ := Aside0.mk ((by rw [hg]; exact Nat.ne_of_gt (blk_lt (g := gb217) (o := .cells #[.int .i64 0, .slice none 0 0] 32 (0, 0)) (by (with_reducible repeat (first | refine blk_drewN ?_ _ | refine blk_drew ?_ | refine blk_alloc ?_ _)); exact BK217.out)) : gb221 ≠ gb217)); have n12_ := Aside0.mk ((by rw [hg]; exact Nat.ne_of_lt (blk_lt (g := gb219) (o := .cells #[.int .i64 a0_0, u220001] 32 (0, 0)) (by (with_reducible repeat (first | refine blk_drewN ?_ _ | refine blk_drew ?_ | refine blk_alloc ?_ _)); exact BK219.out)) : gb219 ≠ gb221)); have n13_ := Aside0.mk ((by rw [hg]; exact Nat.ne_of_gt (blk_lt (g := gb219) (o := .cells #[.int .i64 a0_0, u220001] 32 (0, 0)) (by (with_reducible repeat (first | refine blk_drewN ?_ _ | refine blk_drew ?_ | refine blk_alloc ?_ _)); exact BK219.out)) : gb221 ≠ gb219)); clear HO_220001; clear BK216; clear BK217; clear BK219; clear HB; have HO_220001 := n0_; have BK216 := n1_; have BK217 := n2_; have BK219 := n3_; have HB := n4_; have BK221 := n5_; have GW221 := n6_; have GE221 := n7_; have NB216_221 := n8_; have NB221_216 := n9_; have NB217_221 := n10_; have NB221_217 := n11_; have NB219_221 := n12_; have NB221_219 := n13_; clear n0_ n1_ n2_ n3_ n4_ n5_ n6_ n7_ n8_ n9_ n10_ n11_ n12_ n13_; clear hb hbox hg; have hnb207 := NB221_216.out; have hnc207 := NB216_221.out; have hnb208 := NB221_217.out; have hnc208 := NB217_221.out; have hnb209 := NB221_219.out; have hnc209 := NB219_221.out; have hcz210_0 : w206.cell? ⟨gb221, 0, none⟩ = some (.int .i64 0) := (blk_cell BK221.out 0).trans rfl; have hcz210_1 : w206.cell? ⟨gb221, 1, none⟩ = some (.int .i64 0) := (blk_cell BK221.out 1).trans rfl; have hcz210_2 : w206.cell? ⟨gb221, 2, none⟩ = some (.bool false) := (blk_cell BK221.out 2).trans rfl; have hfz210_0 := blk_frozen BK221.out 0; have hfz210_1 := blk_frozen BK221.out 1; have hfz210_2 := blk_frozen BK221.out 2; have hnb211 := NB219_217.out; have hnc211 := NB217_219.out; have hcz212_0 : w206.cell? ⟨gb219, 0, none⟩ = some (.int .i64 a0_0) := (blk_cell BK219.out 0).trans rfl; have hcz212_1 : w206.cell? ⟨gb219, 1, none⟩ = some (u220001) := (blk_cell BK219.out 1).trans rfl; have hfz212_0 := blk_frozen BK219.out 0; have hfz212_1 := blk_frozen BK219.out 1) | ((with_reducible refine gate_builtin (b := .append) (xs := #[.tmp 69, .tmp 71]) rfl ?_); at_builtin; refine Kd.R_append k62 (w0 := w) w.heap.size rfl (.tmp 69) (.tmp 71) 30 62 (.agg #[(.int .i64 0), (.int .i64 0), (.bool false)]) 24 rfl Try.underlying30 info62 rfl (by decide) (by omega) u220001 x220001_1 (⟨(rd_T62 l0_1 x10_1).f0, (rd_T62 l0_1 x10_1).f1, (rd_T62 l0_1 x10_1).f2⟩ : S62) [.int .i64 ((rd_T62 l0_1 x10_1).f0), .int .i64 ((rd_T62 l0_1 x10_1).f1), .bool ((rd_T62 l0_1 x10_1).f2)] (fun k_ => k_ ≠ gb221) (fun _ => False) rfl (by first | (go_simp; done) | (go_simp; rfl)) ?aP (fun _ hk => hk.elim) ?aF ?aO ?aB ?aS ?aL ?_; (case aP => exact k62_mkM _ _ _ (⟨(rd_T62 l0_1 x10_1).f0, (rd_T62 l0_1 x10_1).f1, (rd_T62 l0_1 x10_1).f2⟩ : S62)); (case aB => exact (by repeat (first | (with_reducible first | exact HB.out | apply below_alloc | apply pw_below_drewN | apply below_drew1 | refine below_set ?_ GE216.out | refine below_set ?_ GE217.out | refine below_set ?_ GE219.out | refine below_set ?_ GE221.out) | exact HB.out))); (case aF => exact (fun k_ hk => Kd.freshB (g := gb221) (o := .cells #[.int .i64 ((rd_T62 l0_1 x10_1).f0), .int .i64 ((rd_T62 l0_1 x10_1).f1), .bool ((rd_T62 l0_1 x10_1).f2)] 62 (0, 0)) (by (with_reducible repeat (first | refine blk_drewN ?_ _ | refine blk_drew ?_ | refine blk_alloc ?_ _)); refine blk_put (cs := #[.int .i64 ((rd_T62 l0_1 x10_1).f0), .int .i64 ((rd_T62 l0_1 x10_1).f1), .bool false]) ?_ 2 _ rfl; (with_reducible repeat (first | refine blk_drewN ?_ _ | refine blk_drew ?_ | refine blk_alloc ?_ _)); refine blk_put (cs := #[.int .i64 ((rd_T62 l0_1 x10_1).f0), .int .i64 0, .bool false]) ?_ 1 _ rfl; (with_reducible repeat (first | refine blk_drewN ?_ _ | refine blk_drew ?_ | refine blk_alloc ?_ _)); refine blk_put (cs := #[.int .i64 0, .int .i64 0, .bool false]) ?_ 0 _ rfl; (with_reducible repeat (first | refine blk_drewN ?_ _ | refine blk_drew ?_ | refine blk_alloc ?_ _)); exact BK221.out) k_ hk)); (case aO => exact (by (with_reducible repeat (first | apply Kd.R_alloc | apply Kd.R_drewN | apply Kd.R_drew)); exact Kd.R_mono (Kd.R_far (p := ⟨gb221, 2, none⟩) (Kd.R_far (p := ⟨gb221, 1, none⟩) (Kd.R_far (p := ⟨gb221, 0, none⟩) (Kd.R_mono HO_220001.out (fun k_ hk => (⟨hk, hk.2⟩ : _ ∧ k_ ≠ gb221))) (fun _ hk => hk.2) (.int .i64 ((rd_T62 l0_1 x10_1).f0))) (fun _ hk => hk.2) (.int .i64 ((rd_T62 l0_1 x10_1).f1))) (fun _ hk => hk.2) (.bool ((rd_T62 l0_1 x10_1).f2))) (fun _ hk => hk.1.2))); (case aS => exact (below_size (by repeat (first | (with_reducible first | exact HB.out | apply below_alloc | apply pw_below_drewN | apply below_drew1 | refine below_set ?_ GE216.out | refine below_set ?_ GE217.out | refine below_set ?_ GE219.out | refine below_set ?_ GE221.out) | exact HB.out)))); (case aL => have := LMc202.out; omega); intro v259 w213 ho hb hg hat; rw [← Ny258.out] at ho; have n0_ := Aside0.mk (blk_grown (g := gb216) (o := .cells #[.int .i64 a0_0, .slice (some ad220) l0_1.length c0_1] 32 (0, 0)) (by (with_reducible repeat (first | refine blk_drewN ?_ _ | refine blk_drew ?_ | refine blk_alloc ?_ _)); refine blk_far ?_ NB216_221.out _; (with_reducible repeat (first | refine blk_drewN ?_ _ | refine blk_drew ?_ | refine blk_alloc ?_ _)); refine blk_far ?_ NB216_221.out _; (with_reducible repeat (first | refine blk_drewN ?_ _ | refine blk_drew ?_ | refine blk_alloc ?_ _)); refine blk_far ?_ NB216_221.out _; (with_reducible repeat (first | refine blk_drewN ?_ _ | refine blk_drew ?_ | refine blk_alloc ?_ _)); exact BK216.out) hg (Kd.R_ne HO_220001.out BK216.out (by decide))); have n1_ := Aside0.mk (blk_grown (g := gb217) (o := .cells #[.int .i64 0, .slice none 0 0] 32 (0, 0)) (by (with_reducible repeat (first | refine blk_drewN ?_ _ | refine blk_drew ?_ | refine blk_alloc ?_ _)); refine blk_far ?_ NB217_221.out _; (with_reducible repeat (first | refine blk_drewN ?_ _ | refine blk_drew ?_ | refine blk_alloc ?_ _)); refine blk_far ?_ NB217_221.out _; (with_reducible repeat (first | refine blk_drewN ?_ _ | refine blk_drew ?_ | refine blk_alloc ?_ _)); refine blk_far ?_ NB217_221.out _; (with_reducible repeat (first | refine blk_drewN ?_ _ | refine blk_drew ?_ | refine blk_alloc ?_ _)); exact BK217.out) hg (Kd.R_ne HO_220001.out BK217.out (by decide))); have n2_ := Aside0.mk (blk_grown (g := gb219) (o := .cells #[.int .i64 a0_0, u220001] 32 (0, 0)) (by (with_reducible repeat (first | refine blk_drewN ?_ _ | refine blk_drew ?_ | refine blk_alloc ?_ _)); refine blk_far ?_ NB219_221.out _; (with_reducible repeat (first | refine blk_drewN ?_ _ | refine blk_drew ?_ | refine blk_alloc ?_ _)); refine blk_far ?_ NB219_221.out _; (with_reducible repeat (first | refine blk_drewN ?_ _ | refine blk_drew ?_ | refine blk_alloc ?_ _)); refine blk_far ?_ NB219_221.out _; (with_reducible repeat (first | refine blk_drewN ?_ _ | refine blk_drew ?_ | refine blk_alloc ?_ _)); exact BK219.out) hg (Kd.R_ne HO_220001.out BK219.out (by decide))); have n3_ := Aside0.mk (blk_grown (g := gb221) (o := .cells #[.int .i64 ((rd_T62 l0_1 x10_1).f0), .int .i64 ((rd_T62 l0_1 x10_1).f1), .bool ((rd_T62 l0_1 x10_1).f2)] 62 (0, 0)) (by (with_reducible repeat (first | refine blk_drewN ?_ _ | refine blk_drew ?_ | refine blk_alloc ?_ _)); refine blk_put (cs := #[.int .i64 ((rd_T62 l0_1 x10_1).f0), .int .i64 ((rd_T62 l0_1 x10_1).f1), .bool false]) ?_ 2 _ rfl; (with_reducible repeat (first | refine blk_drewN ?_ _ | refine blk_drew ?_ | refine blk_alloc ?_ _)); refine blk_put (cs := #[.int .i64 ((rd_T62 l0_1 x10_1).f0), .int .i64 0, .bool false]) ?_ 1 _ rfl; (with_reducible repeat (first | refine blk_drewN ?_ _ | refine blk_drew ?_ | refine blk_alloc ?_ _)); refine blk_put (cs := #[.int .i64 0, .int .i64 0, .bool false]) ?_ 0 _ rfl; (with_reducible repeat (first | refine blk_drewN ?_ _ | refine blk_drew ?_ | refine blk_alloc ?_ _)); exact BK221.out) hg (Kd.R_away HO_220001.out (fun _ hk => hk.2))); have n4_ := Aside0.mk (hb); have n5_ := Aside0.mk (ho); clear BK216; clear BK217; clear BK219; clear BK221; clear HB; clear HO_220001; have BK216 := n0_; have BK217 := n1_; have BK219 := n2_; have BK221 := n3_; have HB := n4_; have HO260 := n5_; clear n0_ n1_ n2_ n3_ n4_ n5_; clear ho hb hg hat; obtain ⟨Ao214, co214, eo214⟩ := Kd.R_slice HO260.out; subst eo214; have hcz215_0 : w213.cell? ⟨gb219, 0, none⟩ = some (.int .i64 a0_0) := (blk_cell BK219.out 0).trans rfl; have hcz215_1 : w213.cell? ⟨gb219, 1, none⟩ = some (u220001) := (blk_cell BK219.out 1).trans rfl; have hfz215_0 := blk_frozen BK219.out 0; have hfz215_1 := blk_frozen BK219.out 1))
                go_roundg k1
                case measure => have := HK1.out; omega
                case rel => exact ⟨(x9_1), (wrap64 (x10_1 + 1)), (y258), (.slice Ao214 y258.length co214), (by first | rfl | (simp; done) | (simp [*]; done)), (by first | rfl | (simp; done) | (simp [*]; done)), H', ⟨by have := HK1.out; omega⟩, ⟨by (with_reducible repeat (first | apply Kd.R_alloc | apply Kd.R_drewN | apply Kd.R_drew)); exact Kd.R_mono (Kd.R_far (p := ⟨gb219, 1, none⟩) (Kd.R_types HO260.out BK219.out (by decide)) (fun _ hk => hk.2) (.slice Ao214 y258.length co214)) (fun _ hk => trivial)⟩, ⟨by (with_reducible repeat (first | refine blk_drewN ?_ _ | refine blk_drew ?_ | refine blk_alloc ?_ _)); refine blk_far ?_ NB216_219.out _; (with_reducible repeat (first | refine blk_drewN ?_ _ | refine blk_drew ?_ | refine blk_alloc ?_ _)); exact BK216.out⟩, ⟨by (with_reducible repeat (first | refine blk_drewN ?_ _ | refine blk_drew ?_ | refine blk_alloc ?_ _)); refine blk_far ?_ NB217_219.out _; (with_reducible repeat (first | refine blk_drewN ?_ _ | refine blk_drew ?_ | refine blk_alloc ?_ _)); exact BK217.out⟩, ⟨by (with_reducible repeat (first | refine blk_drewN ?_ _ | refine blk_drew ?_ | refine blk_alloc ?_ _)); refine blk_put (cs := #[.int .i64 a0_0, u220001]) ?_ 1 _ rfl; (with_reducible repeat (first | refine blk_drewN ?_ _ | refine blk_drew ?_ | refine blk_alloc ?_ _)); exact BK219.out⟩, ⟨by repeat (first | (with_reducible first | exact HB.out | apply below_alloc | apply pw_below_drewN | apply below_drew1 | refine below_set ?_ GE216.out | refine below_set ?_ GE217.out | refine below_set ?_ GE219.out | refine below_set ?_ GE221.out) | exact HB.out)⟩⟩
              · rw [if_neg c202] at H
                exact absurd H (by simp)
          · rw [if_neg c17] at H
            exact absurd H (by simp)
        · rw [if_neg c16] at H
          have c16b0 : decide (x10_1 < (l0_1.length : Int)) = false := decide_eq_false c16
          clear c16
          by_cases c216 : x9_1 = 0
          · rw [if_pos c216] at H
            have c216b0 : (x9_1 == 0) = true := beq_iff_eq.mpr c216
            have c216b1 : (x9_1 != 0) = false := bne_eq_false_iff_eq.mpr c216
            clear c216
            simp only [Option.some.injEq, Prod.mk.injEq] at H
            obtain ⟨rfl, rfl, rfl⟩ := H
            have hnb217 := NB216_217.out
            have hnc217 := NB217_216.out
            have hnb218 := NB216_219.out
            have hnc218 := NB219_216.out
            have hcz219_0 : wr.cell? ⟨gb216, 0, none⟩ = some (.int .i64 a0_0) := (blk_cell BK216.out 0).trans rfl
            have hcz219_1 : wr.cell? ⟨gb216, 1, none⟩ = some (.slice A0_1 l0_1.length c0_1) := (blk_cell BK216.out 1).trans rfl
            have hfz219_0 := blk_frozen BK216.out 0
            have hfz219_1 := blk_frozen BK216.out 1
            have hnb220 := NB219_217.out
            have hnc220 := NB217_219.out
            have hcz221_0 : wr.cell? ⟨gb219, 0, none⟩ = some (.int .i64 a0_0) := (blk_cell BK219.out 0).trans rfl
            have hcz221_1 : wr.cell? ⟨gb219, 1, none⟩ = some (u220001) := (blk_cell BK219.out 1).trans rfl
            have hfz221_0 := blk_frozen BK219.out 0
            have hfz221_1 := blk_frozen BK219.out 1
            have hcz222_0 : wr.cell? ⟨gb217, 0, none⟩ = some (.int .i64 0) := (blk_cell BK217.out 0).trans rfl
            have hcz222_1 : wr.cell? ⟨gb217, 1, none⟩ = some (.slice none 0 0) := (blk_cell BK217.out 1).trans rfl
            have hfz222_0 := blk_frozen BK217.out 0
            have hfz222_1 := blk_frozen BK217.out 1
            obtain ⟨Ao223, co223, eo223⟩ := Kd.R_slice HO_220001.out
            subst eo223
            go_wp2
            refine bodyPost_ret (results_ct rfl _ _ gb217 32 #[.int .i64 (wrap64 (a0_0 + 1)), .slice Ao223 x220001_1.length co223] (0, 0) _ rfl (by (with_reducible repeat (first | refine blk_drewN ?_ _ | refine blk_drew ?_ | refine blk_alloc ?_ _)); refine blk_put (cs := #[.int .i64 (wrap64 (a0_0 + 1)), .slice none 0 0]) ?_ 1 _ rfl; (with_reducible repeat (first | refine blk_drewN ?_ _ | refine blk_drew ?_ | refine blk_alloc ?_ _)); refine blk_put (cs := #[.int .i64 0, .slice none 0 0]) ?_ 0 _ rfl; (with_reducible repeat (first | refine blk_drewN ?_ _ | refine blk_drew ?_ | refine blk_alloc ?_ _)); refine blk_far ?_ NB217_219.out _; (with_reducible repeat (first | refine blk_drewN ?_ _ | refine blk_drew ?_ | refine blk_alloc ?_ _)); exact BK217.out) Try.underlying32 rfl (by kernel_rfl)) rfl ?_
            exact ⟨_, by first | rfl | (simp [errW_none, errW_some] <;> rfl) | (simp [*, errW_none, errW_some] <;> rfl), by (with_reducible repeat (first | apply Kd.R_alloc | apply Kd.R_drewN | apply Kd.R_drew)); exact Kd.R_mono (Kd.R_far (p := ⟨gb217, 1, none⟩) (Kd.R_far (p := ⟨gb217, 0, none⟩) (Kd.R_far (p := ⟨gb219, 0, none⟩) (Kd.R_types (Kd.R_types HO_220001.out BK219.out (by decide)) BK217.out (by decide)) (fun _ hk => hk.1.2) (.int .i64 (wrap64 (a0_0 + 1)))) (fun _ hk => hk.2) (.int .i64 (wrap64 (a0_0 + 1)))) (fun _ hk => hk.2) (.slice Ao223 x220001_1.length co223)) (fun _ hk => trivial), by repeat (first | (with_reducible first | exact HB.out | apply below_alloc | apply pw_below_drewN | apply below_drew1 | refine below_set ?_ GE216.out | refine below_set ?_ GE217.out | refine below_set ?_ GE219.out) | exact HB.out)⟩
          · rw [if_neg c216] at H
            have c216b0 : (x9_1 == 0) = false := beq_eq_false_iff_ne.mpr c216
            have c216b1 : (x9_1 != 0) = true := bne_iff_ne.mpr c216
            simp only [Option.some.injEq, Prod.mk.injEq] at H
            obtain ⟨rfl, rfl, rfl⟩ := H
            have hnb224 := NB216_217.out
            have hnc224 := NB217_216.out
            have hnb225 := NB216_219.out
            have hnc225 := NB219_216.out
            have hcz226_0 : wr.cell? ⟨gb216, 0, none⟩ = some (.int .i64 a0_0) := (blk_cell BK216.out 0).trans rfl
            have hcz226_1 : wr.cell? ⟨gb216, 1, none⟩ = some (.slice A0_1 l0_1.length c0_1) := (blk_cell BK216.out 1).trans rfl
            have hfz226_0 := blk_frozen BK216.out 0
            have hfz226_1 := blk_frozen BK216.out 1
            have hnb227 := NB217_219.out
            have hnc227 := NB219_217.out
            have hcz228_0 : wr.cell? ⟨gb217, 0, none⟩ = some (.int .i64 0) := (blk_cell BK217.out 0).trans rfl
            have hcz228_1 : wr.cell? ⟨gb217, 1, none⟩ = some (.slice none 0 0) := (blk_cell BK217.out 1).trans rfl
            have hfz228_0 := blk_frozen BK217.out 0
            have hfz228_1 := blk_frozen BK217.out 1
            go_wp2
            refine bodyPost_ret (results_ct rfl _ _ gb217 32 #[.int .i64 0, .slice none 0 0] (0, 0) _ rfl (by (with_reducible repeat (first | refine blk_drewN ?_ _ | refine blk_drew ?_ | refine blk_alloc ?_ _)); refine blk_put (cs := #[.int .i64 0, .slice none 0 0]) ?_ 1 _ rfl; (with_reducible repeat (first | refine blk_drewN ?_ _ | refine blk_drew ?_ | refine blk_alloc ?_ _)); refine blk_put (cs := #[.int .i64 0, .slice none 0 0]) ?_ 0 _ rfl; (with_reducible repeat (first | refine blk_drewN ?_ _ | refine blk_drew ?_ | refine blk_alloc ?_ _)); exact BK217.out) Try.underlying32 rfl (by kernel_rfl)) rfl ?_
            exact ⟨_, by first | rfl | (simp [errW_none, errW_some] <;> rfl) | (simp [*, errW_none, errW_some] <;> rfl), by first | exact Kd.R_nil _ _ _ _ _ | exact Kd.N_nil _ _ _ _ _ | exact Kd.V_nil _ _ _ _ _ | exact Kd.Q_nil _ _ _ _ _ | exact Kd.S_nil _ _ _ _ _, by repeat (first | (with_reducible first | exact HB.out | apply below_alloc | apply pw_below_drewN | apply below_drew1 | refine below_set ?_ GE216.out | refine below_set ?_ GE217.out | refine below_set ?_ GE219.out) | exact HB.out)⟩
  · replace c5 := Bool.eq_false_iff.mpr c5
    subst c5
    have H1 : (some (0, ([] : List (S62)), 1)) = some (r1, r2, r3) := by rw [if_neg (show ¬ (false = true) by decide)] at H; exact H
    clear H
    have H := H1
    clear H1
    simp only [Option.some.injEq, Prod.mk.injEq] at H
    obtain ⟨rfl, rfl, rfl⟩ := H
    go_enter Try.func10, Try.ntmps10
    go_wp2_with (first | ((with_reducible refine gate_dst (N := 3) rfl ?_); refine box_event ?hg (N := 3) ?hd (cs := #[.int .i64 a0_0, .slice A0_1 l0_1.length c0_1]) (t := 32) ?hr ?_; (case hd => rfl); (case hg => rfl); (case hr => first | (go_simp; done) | (go_simp; rfl)); intro gb216 hg w229 hbox hb; have n0_ := Aside0.mk (below_step (by repeat (first | (with_reducible first | exact HB.out | apply below_alloc | apply pw_below_drewN | apply below_drew1) | exact HB.out)) hb); have n1_ := Aside0.mk (hbox); have n2_ := Aside0.mk ((by rw [hg]; exact (below_size (by repeat (first | (with_reducible first | exact HB.out | apply below_alloc | apply pw_below_drewN | apply below_drew1) | exact HB.out))) : w.heap.size ≤ gb216)); have n3_ := Aside0.mk ((by rw [hg]; exact (below_size (by repeat (first | (with_reducible first | exact HB.out | apply below_alloc | apply pw_below_drewN | apply below_drew1) | exact HB.out))) : w.heap.size ≤ gb216)); clear HB; have HB := n0_; have BK216 := n1_; have GW216 := n2_; have GE216 := n3_; clear n0_ n1_ n2_ n3_; clear hb hbox hg) | ((with_reducible refine gate_dst (N := 6) rfl ?_); refine box_event ?hg (N := 6) ?hd (cs := #[.int .i64 0, .slice none 0 0]) (t := 32) ?hr ?_; (case hd => rfl); (case hg => rfl); (case hr => first | (go_simp; done) | (go_simp; rfl)); intro gb217 hg w230 hbox hb; have n0_ := Aside0.mk (blk_below (g := gb216) (o := .cells #[.int .i64 a0_0, .slice A0_1 l0_1.length c0_1] 32 (0, 0)) (by (with_reducible repeat (first | refine blk_drewN ?_ _ | refine blk_drew ?_ | refine blk_alloc ?_ _)); exact BK216.out) hb); have n1_ := Aside0.mk (below_step (by repeat (first | (with_reducible first | exact HB.out | apply below_alloc | apply pw_below_drewN | apply below_drew1 | refine below_set ?_ GE216.out) | exact HB.out)) hb); have n2_ := Aside0.mk (hbox); have n3_ := Aside0.mk ((by rw [hg]; exact (below_size (by repeat (first | (with_reducible first | exact HB.out | apply below_alloc | apply pw_below_drewN | apply below_drew1 | refine below_set ?_ GE216.out) | exact HB.out))) : w.heap.size ≤ gb217)); have n4_ := Aside0.mk ((by rw [hg]; exact (below_size (by repeat (first | (with_reducible first | exact HB.out | apply below_alloc | apply pw_below_drewN | apply below_drew1 | refine below_set ?_ GE216.out) | exact HB.out))) : w.heap.size ≤ gb217)); have n5_ := Aside0.mk ((by rw [hg]; exact Nat.ne_of_lt (blk_lt (g := gb216) (o := .cells #[.int .i64 a0_0, .slice A0_1 l0_1.length c0_1] 32 (0, 0)) (by (with_reducible repeat (first | refine blk_drewN ?_ _ | refine blk_drew ?_ | refine blk_alloc ?_ _)); exact BK216.out)) : gb216 ≠ gb217)); have n6_ := Aside0.mk ((by rw [hg]; exact Nat.ne_of_gt (blk_lt (g := gb216) (o := .cells #[.int .i64 a0_0, .slice A0_1 l0_1.length c0_1] 32 (0, 0)) (by (with_reducible repeat (first | refine blk_drewN ?_ _ | refine blk_drew ?_ | refine blk_alloc ?_ _)); exact BK216.out)) : gb217 ≠ gb216)); clear BK216; clear HB; have BK216 := n0_; have HB := n1_; have BK217 := n2_; have GW217 := n3_; have GE217 := n4_; have NB216_217 := n5_; have NB217_216 := n6_; clear n0_ n1_ n2_ n3_ n4_ n5_ n6_; clear hb hbox hg; have hnb231 := NB216_217.out; have hnc231 := NB217_216.out; have hcz232_0 : w230.cell? ⟨gb216, 0, none⟩ = some (.int .i64 a0_0) := (blk_cell BK216.out 0).trans rfl; have hcz232_1 : w230.cell? ⟨gb216, 1, none⟩ = some (.slice A0_1 l0_1.length c0_1) := (blk_cell BK216.out 1).trans rfl; have hfz232_0 := blk_frozen BK216.out 0; have hfz232_1 := blk_frozen BK216.out 1) | ((with_reducible refine gate_callee (f := 18) rfl ?_); refine goesL_ (some 13) rfl rfl Try.func18 (by kernel_rfl) rfl #[.agg #[.int .i64 a0_0, .slice A0_1 l0_1.length c0_1]] rfl (by (try simp only [List.map_toArray, List.map_cons, List.map_nil]); first | done | rfl | (simp only [List.length_drop, List.length_take]; rfl)) ?_; (with_reducible refine (caduceusref14_Check.calls k a0_0 _ _ l0_1 false _ ?side1 ?side2 A4.out).mono ?_); (case side1 => repeat (first | exact (Kd.C_below HR0_1.out HB.out) | (with_reducible refine Kd.C_alloc ?_ _) | (with_reducible refine Kd.C_drewN ?_ _) | (with_reducible refine Kd.C_drew ?_))); (case side2 => exact HC0_1.out); rintro e w233 ⟨rfl, hb⟩; refine ⟨_, rfl, ?_⟩; have n0_ := Aside0.mk (blk_below (g := gb216) (o := .cells #[.int .i64 a0_0, .slice A0_1 l0_1.length c0_1] 32 (0, 0)) (by (with_reducible repeat (first | refine blk_drewN ?_ _ | refine blk_drew ?_ | refine blk_alloc ?_ _)); exact BK216.out) hb); have n1_ := Aside0.mk (blk_below (g := gb217) (o := .cells #[.int .i64 0, .slice none 0 0] 32 (0, 0)) (by (with_reducible repeat (first | refine blk_drewN ?_ _ | refine blk_drew ?_ | refine blk_alloc ?_ _)); exact BK217.out) hb); have n2_ := Aside0.mk (below_step (by repeat (first | (with_reducible first | exact HB.out | apply below_alloc | apply pw_below_drewN | apply below_drew1 | refine below_set ?_ GE216.out | refine below_set ?_ GE217.out) | exact HB.out)) hb); clear BK216; clear BK217; clear HB; have BK216 := n0_; have BK217 := n1_; have HB := n2_; clear n0_ n1_ n2_; (try clear hb); (try clear hb2); (try clear hk); (try clear hi); have hcz234_0 : w233.cell? ⟨gb217, 0, none⟩ = some (.int .i64 0) := (blk_cell BK217.out 0).trans rfl; have hcz234_1 : w233.cell? ⟨gb217, 1, none⟩ = some (.slice none 0 0) := (blk_cell BK217.out 1).trans rfl; have hfz234_0 := blk_frozen BK217.out 0; have hfz234_1 := blk_frozen BK217.out 1))
    refine bodyPost_ret (results_ct rfl _ _ gb217 32 #[.int .i64 0, .slice none 0 0] (0, 0) _ rfl (by (with_reducible repeat (first | refine blk_drewN ?_ _ | refine blk_drew ?_ | refine blk_alloc ?_ _)); refine blk_put (cs := #[.int .i64 0, .slice none 0 0]) ?_ 1 _ rfl; (with_reducible repeat (first | refine blk_drewN ?_ _ | refine blk_drew ?_ | refine blk_alloc ?_ _)); refine blk_put (cs := #[.int .i64 0, .slice none 0 0]) ?_ 0 _ rfl; (with_reducible repeat (first | refine blk_drewN ?_ _ | refine blk_drew ?_ | refine blk_alloc ?_ _)); exact BK217.out) Try.underlying32 rfl (by kernel_rfl)) rfl ?_
    exact ⟨_, by first | rfl | (simp [errW_none, errW_some] <;> rfl) | (simp [*, errW_none, errW_some] <;> rfl), by first | exact Kd.R_nil _ _ _ _ _ | exact Kd.N_nil _ _ _ _ _ | exact Kd.V_nil _ _ _ _ _ | exact Kd.Q_nil _ _ _ _ _ | exact Kd.S_nil _ _ _ _ _, by repeat (first | (with_reducible first | exact HB.out | apply below_alloc | apply pw_below_drewN | apply below_drew1 | refine below_set ?_ GE216.out | refine below_set ?_ GE217.out) | exact HB.out)⟩

end Go.Proofs.Ytpdalofhekmbeaa.PViewTurns
