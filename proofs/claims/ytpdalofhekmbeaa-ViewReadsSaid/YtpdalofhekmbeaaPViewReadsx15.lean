-- Written by a program of this session over the kit's printer (with contracts of the session's own).
import Derived.Test.YtpdalofhekmbeaaPViewReadsx0
import Derived.Test.YtpdalofhekmbeaaPViewReadsx2
import Derived.Test.YtpdalofhekmbeaaPViewReadsx6
import Derived.Test.YtpdalofhekmbeaaPViewReadsx7
import Derived.Test.YtpdalofhekmbeaaPViewReadsx9
import Derived.Test.YtpdalofhekmbeaaPViewReadsx11
import Derived.Test.YtpdalofhekmbeaaPViewReadsx14
namespace Go.Proofs.Ytpdalofhekmbeaa.PViewReads
open Go.RowKit Go.Proofs.YtpdalofhekmbeaaW.PrintWords Go.Proofs.YtpdalofhekmbeaaW.PrintLast Go.Proofs.YtpdalofhekmbeaaW.PrintMore
attribute [local go_sem] max2_int min2_int max_two min_two max_three min_three max_four min_four   -- for this text's walks alone
set_option linter.unusedVariables false
set_option linter.unusedSimpArgs false

/-! ### caduceuslaw14_ViewReads: function 6 -/
mutual
def caduceuslaw14_ViewReads.j0 : Nat → ByteArray → Bool → Int → List (S53) → Option (Bool)
 | 0, _, _, _, _ => none
 | k + 1, x1, x18, x367000, x367001 => if x18 = true then ((caduceuslaw14_awake.f k).bind fun t368 => (some t368)) else ((view_Read.f k x1).bind fun bt369 => ((caduceusref14_Read.f k x1).bind fun bt375 => ((view_Text.f k x367000 x367001).bind fun t381 => ((caduceuslaw14_Ref.f k x367000 x367001).bind fun bt382 => ((caduceusref14_Text.f k bt382.1 bt382.2).bind fun t386 => (if t381.toList = t386.toList then ((caduceuslaw14_Ref.f k bt369.1 bt369.2.1).bind fun bt387 => ((caduceusref14_Same.f k bt387.1 bt387.2 bt375.1 bt375.2.1).bind fun t391 => (if t391 = true then (if bt369.2.2 = bt375.2.2 then (if bt369.2.2 = 0 then ((view_Text.f k bt369.1 bt369.2.1).bind fun t392 => (caduceuslaw14_ViewReads.j1 k (t392.toList != x1.toList) x367000 x367001)) else (caduceuslaw14_ViewReads.j1 k false x367000 x367001)) else none) else none))) else none))))))
def caduceuslaw14_ViewReads.j1 : Nat → Bool → Int → List (S53) → Option (Bool)
 | 0, _, _, _ => none
 | k + 1, x57, x367000, x367001 => if x57 = true then none else ((view_Text.f k x367000 x367001).bind fun t393 => ((view_Read.f k t393).bind fun bt394 => ((caduceuslaw14_awake.f k).bind fun t400 => (if t400 = true then ((view_Check.f k x367000 x367001).bind fun t401 => (if t401 = true then (if bt394.2.2 = 0 then ((caduceuslaw14_Ref.f k bt394.1 bt394.2.1).bind fun bt402 => ((caduceuslaw14_Ref.f k x367000 x367001).bind fun bt406 => ((caduceusref14_Same.f k bt402.1 bt402.2 bt406.1 bt406.2).bind fun t410 => (some t410)))) else none) else (if bt394.2.2 = 3 then (some true) else none))) else none))))
end
def caduceuslaw14_ViewReads.f (k : Nat) (a0_0 : Int) (l0_1 : List (S53)) (a1 : ByteArray) : Option (Bool) := (caduceuslaw14_few.f a0_0 l0_1).bind fun t367 => (if t367 = true then (caduceuslaw14_ViewReads.j0 k a1 (decide ((a1.size : Int) > 500)) a0_0 l0_1) else (caduceuslaw14_ViewReads.j0 k a1 true a0_0 l0_1))
theorem caduceuslaw14_ViewReads.mono_l : ∀ k, (∀ y0 y1 y2 y3, LeO (caduceuslaw14_ViewReads.j0 k y0 y1 y2 y3) (caduceuslaw14_ViewReads.j0 (k + 1) y0 y1 y2 y3)) ∧ (∀ y0 y1 y2, LeO (caduceuslaw14_ViewReads.j1 k y0 y1 y2) (caduceuslaw14_ViewReads.j1 (k + 1) y0 y1 y2))
 | 0 => ⟨fun _ _ _ _ r h => by simp [caduceuslaw14_ViewReads.j0] at h, fun _ _ _ r h => by simp [caduceuslaw14_ViewReads.j1] at h⟩
 | k + 1 => by
  obtain ⟨ih0, ih1⟩ := caduceuslaw14_ViewReads.mono_l k
  refine ⟨?_, ?_⟩
  ·intro y0 y1 y2 y3
   unfold caduceuslaw14_ViewReads.j0
   repeat' first
   | (with_reducible exact ih1 _ _ _)
   | (with_reducible exact caduceuslaw14_Ref.mono _ _ _)
   | (with_reducible exact caduceuslaw14_awake.mono _)
   | (with_reducible exact caduceusref14_Read.mono _ _)
   | (with_reducible exact caduceusref14_Same.mono _ _ _ _ _)
   | (with_reducible exact caduceusref14_Text.mono _ _ _)
   | (with_reducible exact view_Read.mono _ _)
   | (with_reducible exact view_Text.mono _ _ _)
   | (with_reducible exact LeO.refl _)
   | (with_reducible refine LeO.ite ?_ ?_)
   | (with_reducible refine LeO.bind ?_ (fun _ => ?_))

  ·intro y0 y1 y2
   unfold caduceuslaw14_ViewReads.j1
   repeat' first
   | (with_reducible exact caduceuslaw14_Ref.mono _ _ _)
   | (with_reducible exact caduceuslaw14_awake.mono _)
   | (with_reducible exact caduceusref14_Same.mono _ _ _ _ _)
   | (with_reducible exact view_Check.mono _ _ _)
   | (with_reducible exact view_Read.mono _ _)
   | (with_reducible exact view_Text.mono _ _ _)
   | (with_reducible exact LeO.refl _)
   | (with_reducible refine LeO.ite ?_ ?_)
   | (with_reducible refine LeO.bind ?_ (fun _ => ?_))

theorem caduceuslaw14_ViewReads.mono : ∀ a0 a1 a2 k, LeO (caduceuslaw14_ViewReads.f k a0 a1 a2) (caduceuslaw14_ViewReads.f (k + 1) a0 a1 a2) := by
 intro a0 a1 a2 k
 obtain ⟨ih0, ih1⟩ := caduceuslaw14_ViewReads.mono_l k
 unfold caduceuslaw14_ViewReads.f
 repeat' first
   | (with_reducible exact ih0 _ _ _ _)
   | (with_reducible exact LeO.refl _)
   | (with_reducible refine LeO.ite ?_ ?_)
   | (with_reducible refine LeO.bind ?_ (fun _ => ?_))

def caduceuslaw14_ViewReads.T5 : Bool × List (List Nat × List Nat) := (true, [([], []), ([0], [0]), ([], []), ([2, 1], [2]), ([3, 3], [3]), ([1, 4], [1, 4]), ([5, 4], [5]), ([6], [6]), ([7, 6, 6], [6, 7]), ([6], [6]), ([8, 9, 8, 6], [6, 8, 9]), ([10, 6], [6, 10]), ([6, 11], [6, 11]), ([12, 10], [12]), ([13], [13]), ([13], [13]), ([14, 15, 13], [13, 14, 15]), ([13, 16], [13, 16]), ([17, 13], [17]), ([18], [18]), ([19, 18], [18, 19]), ([20, 18, 18], [18, 20]), ([21], [21]), ([22, 21, 21], [21, 22]), ([21], [21]), ([23, 24, 21], [21, 23, 24]), ([21, 25, 18], [18, 21, 25]), ([18, 26], [18, 26])])
def caduceuslaw14_ViewReads.B5 : List Nat := [0, 1, 0, 7, 15, 31, 63, 127, 255, 127, 1023, 2047, 4095, 8191, 16383, 16383, 65535, 131071, 262143, 524287, 1048575, 2097151, 4194303, 8388607, 4194303, 33554431, 67108863, 134217727]
theorem caduceuslaw14_ViewReads.tab5 : rtab .any (opsOf Try.f6 5) = caduceuslaw14_ViewReads.T5 := by kernel_rfl
theorem caduceuslaw14_ViewReads.bits5 : waitsOk caduceuslaw14_ViewReads.T5.2 caduceuslaw14_ViewReads.B5 = true := by kernel_rfl
def caduceuslaw14_ViewReads.T8 : Bool × List (List Nat × List Nat) := (true, [([], []), ([0, 0], [0]), ([1], [1]), ([2, 1, 1], [1, 2]), ([3, 1], [1, 3]), ([4, 3, 1], [1, 4]), ([5], [5]), ([6, 5], [5, 6]), ([5, 7, 1], [1, 5, 7]), ([8, 5, 1], [1, 8]), ([9], [9]), ([10, 9], [9, 10]), ([11, 9, 9], [9, 11]), ([12], [12]), ([13, 12, 12], [12, 13]), ([12], [12]), ([15, 14, 12], [12, 15]), ([14, 16, 16, 12], [12, 14, 16]), ([12, 17, 9], [9, 12, 17]), ([9, 18, 1], [1, 9, 18]), ([1, 19], [1, 19]), ([20, 17, 0, 1, 2, 3, 4, 5, 6, 7, 8, 9, 10, 11, 12, 13, 14, 15, 16, 17, 18, 19, 20], [20])])
def caduceuslaw14_ViewReads.B8 : List Nat := [0, 1, 3, 7, 15, 31, 63, 127, 255, 511, 1023, 2047, 4095, 8191, 16383, 8191, 65535, 131071, 262143, 524287, 1048575, 2097151]
theorem caduceuslaw14_ViewReads.tab8 : rtab .any (opsOf Try.f6 8) = caduceuslaw14_ViewReads.T8 := by kernel_rfl
theorem caduceuslaw14_ViewReads.bits8 : waitsOk caduceuslaw14_ViewReads.T8.2 caduceuslaw14_ViewReads.B8 = true := by kernel_rfl
set_option maxHeartbeats 8000000 in
set_option maxRecDepth 100000 in
theorem caduceuslaw14_ViewReads.calls (k : Nat) (a0_0 : Int) (A0_1 : Option Addr) (c0_1 : Nat) (l0_1 : List (S53)) (a1 : ByteArray) (r : Bool) (w : World) (hr0_1 : Kd.C k53 w A0_1 l0_1.length l0_1) (hc0_1 : l0_1.length ≤ c0_1) (h : caduceuslaw14_ViewReads.f k a0_0 l0_1 a1 = some r) :
  Calls Try.prog 6 #[.agg #[.int .i64 a0_0, .slice A0_1 l0_1.length c0_1], .string a1] w fun e w' => e = .returned (.bool r) ∧ Below w.heap.size w w' := by
 have hu24 := Try.underlying24
 have hu32 := Try.underlying32
 have HR0_1 := Aside0.mk hr0_1
 have HC0_1 := Aside0.mk hc0_1
 clear hr0_1 hc0_1
 have HB := Aside0.mk (Below.refl w.heap.size w)
 have H : ((caduceuslaw14_few.f a0_0 l0_1).bind fun t367 => (if t367 = true then (caduceuslaw14_ViewReads.j0 k a1 (decide ((a1.size : Int) > 500)) a0_0 l0_1) else (caduceuslaw14_ViewReads.j0 k a1 true a0_0 l0_1))) = some r := h
 clear h
 have HC3 := Aside0.mk H
 clear H
 go_enter Try.func6, Try.ntmps6
 go_upto_region 1 with (first | ((with_reducible refine gate_dst (N := 2) rfl ?_); (try (refine gate_guard (by rfl) ?_; dsimp only)); refine box_event ?hg (N := 2) ?hd (cs := #[.int .i64 a0_0, .slice A0_1 l0_1.length c0_1]) (t := 24) ?hr ?_; (case hd => rfl); (case hg => rfl); (case hr => first | (go_simp; done) ); intro gb366 hg w4 hbox hb; have n0_ := Aside0.mk (below_step (by repeat (first | (with_reducible first | exact HB.out ) )) hb); have n1_ := Aside0.mk (hbox); have n2_ := Aside0.mk ((by rw [hg]; exact (below_size (by repeat (first | (with_reducible first | exact HB.out ) ))) : w.heap.size ≤ gb366)); have n3_ := Aside0.mk ((by rw [hg]; exact (below_size (by repeat (first | (with_reducible first | exact HB.out ) ))) : w.heap.size ≤ gb366)); clear HB; have HB := n0_; have BK366 := n1_; have GW366 := n2_; have GE366 := n3_; clear n0_ n1_ n2_ n3_; clear hb hbox hg))
 (try simp only [Act.put, List.setIfInBounds_toArray, List.set_cons_zero, List.set_cons_succ])
 go_cut [18] (fun v18 wc => ∃ (kq : Nat) (x18_2 : Bool), v18 = .bool x18_2 ∧ Aside0 (caduceuslaw14_ViewReads.j0 kq a1 x18_2 a0_0 l0_1 = some r) ∧ Aside0 (kq ≤ k) ∧ Aside0 (wc.heap[gb366]? = some (.cells #[.int .i64 a0_0, (.slice A0_1 l0_1.length c0_1)] 24 (0, 0))) ∧ Aside0 (Below w.heap.size w wc))
 case first =>
  have H := HC3.out
  clear HC3
  replace H := Option.bind_eq_some_iff.mp H
  obtain ⟨t367, A50, H⟩ := H
  replace H : (if t367 = true then (caduceuslaw14_ViewReads.j0 k a1 (decide ((a1.size : Int) > 500)) a0_0 l0_1) else (caduceuslaw14_ViewReads.j0 k a1 true a0_0 l0_1)) = some r := H
  have A5 := Aside0.mk A50
  clear A50
  by_cases c6 : t367 = true
  ·subst c6
   have H1 : (caduceuslaw14_ViewReads.j0 k a1 (decide ((a1.size : Int) > 500)) a0_0 l0_1) = some r := by rw [if_pos rfl] at H; exact H
   clear H
   have H := H1
   clear H1
   have H' := Aside0.mk H
   clear H
   have hcz7_0 : w4.cell? ⟨gb366, 0, none⟩ = some (.int .i64 a0_0) := (blk_cell BK366.out 0).trans rfl
   have hcz7_1 : w4.cell? ⟨gb366, 1, none⟩ = some (.slice A0_1 l0_1.length c0_1) := (blk_cell BK366.out 1).trans rfl
   have hfz7_0 := blk_frozen BK366.out 0
   have hfz7_1 := blk_frozen BK366.out 1
   go_wp2_with (first | ((with_reducible refine gate_callee (f := 7) rfl ?_); refine goesL_ (some 12) rfl rfl Try.func7 (by kernel_rfl) rfl #[.agg #[.int .i64 a0_0, .slice A0_1 l0_1.length c0_1]] rfl (by (try simp only [List.map_toArray, List.map_cons, List.map_nil]); first | rfl ) ?_; (with_reducible refine (caduceuslaw14_few.calls a0_0 _ _ l0_1 true _ ?side1 ?side2 A5.out).mono ?_); (case side1 => repeat (first | exact (Kd.C_below HR0_1.out HB.out) )); (case side2 => exact HC0_1.out); rintro e w8 ⟨rfl, hb⟩; refine ⟨_, rfl, ?_⟩; have n0_ := Aside0.mk (blk_below (g := gb366) (o := .cells #[.int .i64 a0_0, .slice A0_1 l0_1.length c0_1] 24 (0, 0)) (by (with_reducible repeat (fail)); exact BK366.out) hb); have n1_ := Aside0.mk (below_step (by repeat (first | (with_reducible first | exact HB.out ) )) hb); clear BK366; clear HB; have BK366 := n0_; have HB := n1_; clear n0_ n1_; (try clear hb); (try clear hb2); (try clear hk); (try clear hi)))
   go_meet
   case rel => exact ⟨_, (decide ((a1.size : Int) > 500)), (by first | rfl ), H', ⟨by first | omega ⟩, ⟨by (with_reducible repeat (fail)); exact BK366.out⟩, ⟨by repeat (first | (with_reducible first | exact HB.out ) )⟩⟩
  ·replace c6 := Bool.eq_false_iff.mpr c6
   subst c6
   have H1 : (caduceuslaw14_ViewReads.j0 k a1 true a0_0 l0_1) = some r := by rw [if_neg (show ¬ (false = true) by decide)] at H; exact H
   clear H
   have H := H1
   clear H1
   have H' := Aside0.mk H
   clear H
   have hcz9_0 : w4.cell? ⟨gb366, 0, none⟩ = some (.int .i64 a0_0) := (blk_cell BK366.out 0).trans rfl
   have hcz9_1 : w4.cell? ⟨gb366, 1, none⟩ = some (.slice A0_1 l0_1.length c0_1) := (blk_cell BK366.out 1).trans rfl
   have hfz9_0 := blk_frozen BK366.out 0
   have hfz9_1 := blk_frozen BK366.out 1
   go_wp2_with (first | ((with_reducible refine gate_callee (f := 7) rfl ?_); refine goesL_ (some 12) rfl rfl Try.func7 (by kernel_rfl) rfl #[.agg #[.int .i64 a0_0, .slice A0_1 l0_1.length c0_1]] rfl (by (try simp only [List.map_toArray, List.map_cons, List.map_nil]); first | rfl ) ?_; (with_reducible refine (caduceuslaw14_few.calls a0_0 _ _ l0_1 false _ ?side1 ?side2 A5.out).mono ?_); (case side1 => repeat (first | exact (Kd.C_below HR0_1.out HB.out) )); (case side2 => exact HC0_1.out); rintro e w10 ⟨rfl, hb⟩; refine ⟨_, rfl, ?_⟩; have n0_ := Aside0.mk (blk_below (g := gb366) (o := .cells #[.int .i64 a0_0, .slice A0_1 l0_1.length c0_1] 24 (0, 0)) (by (with_reducible repeat (fail)); exact BK366.out) hb); have n1_ := Aside0.mk (below_step (by repeat (first | (with_reducible first | exact HB.out ) )) hb); clear BK366; clear HB; have BK366 := n0_; have HB := n1_; clear n0_ n1_; (try clear hb); (try clear hb2); (try clear hk); (try clear hi)))
   go_meet
   case rel => exact ⟨_, (true), (by first | rfl ), H', ⟨by first | omega ⟩, ⟨by (with_reducible repeat (fail)); exact BK366.out⟩, ⟨by repeat (first | (with_reducible first | exact HB.out ) )⟩⟩
 case rest =>
  clear HC3
  try clear p2
  try clear c6
  try clear c7
  try clear hcz7_0
  try clear hcz7_1
  try clear hcz9_0
  try clear hcz9_1
  try clear hfz7_0
  try clear hfz7_1
  try clear hfz9_0
  try clear hfz9_1
  obtain ⟨kq, x18_2, rfl, HA, HJ2, BK366, HB⟩ := hcut
  cases kq with
  | zero => exact absurd HA.out (by simp [caduceuslaw14_ViewReads.j0])
  | succ kj2 =>
   have H := HA.out
   clear HA
   simp only [caduceuslaw14_ViewReads.j0] at H
   by_cases c11 : x18_2 = true
   ·subst c11
    have H1 : ((caduceuslaw14_awake.f kj2).bind fun t368 => (some t368)) = some r := by rw [if_pos rfl] at H; exact H
    clear H
    have H := H1
    clear H1
    replace H := Option.bind_eq_some_iff.mp H
    obtain ⟨t368, A120, H⟩ := H
    replace H : (some t368) = some r := H
    have A12 := Aside0.mk A120
    clear A120
    obtain rfl := Option.some.inj H
    go_wp2_with (first | ((with_reducible refine gate_callee (f := 8) rfl ?_); refine goesL_ (some 19) rfl rfl Try.func8 (by kernel_rfl) rfl #[] rfl (by (try simp only [List.map_toArray, List.map_cons, List.map_nil]); first | done ) ?_; (with_reducible refine (caduceuslaw14_awake.calls kj2  t368 _ A12.out).mono ?_); rintro e w13 ⟨rfl, hb⟩; refine ⟨_, rfl, ?_⟩; have n0_ := Aside0.mk (blk_below (g := gb366) (o := .cells #[.int .i64 a0_0, .slice A0_1 l0_1.length c0_1] 24 (0, 0)) (by (with_reducible repeat (fail)); exact BK366.out) hb); have n1_ := Aside0.mk (below_step (by repeat (first | (with_reducible first | exact HB.out ) )) hb); clear BK366; clear HB; have BK366 := n0_; have HB := n1_; clear n0_ n1_; (try clear hb); (try clear hb2); (try clear hk); (try clear hi)))
    go_ret
    exact ⟨by first | rfl , by repeat (first | (with_reducible first | exact HB.out ) )⟩
   ·replace c11 := Bool.eq_false_iff.mpr c11
    subst c11
    have H1 : ((view_Read.f kj2 a1).bind fun bt369 => ((caduceusref14_Read.f kj2 a1).bind fun bt375 => ((view_Text.f kj2 a0_0 l0_1).bind fun t381 => ((caduceuslaw14_Ref.f kj2 a0_0 l0_1).bind fun bt382 => ((caduceusref14_Text.f kj2 bt382.1 bt382.2).bind fun t386 => (if t381.toList = t386.toList then ((caduceuslaw14_Ref.f kj2 bt369.1 bt369.2.1).bind fun bt387 => ((caduceusref14_Same.f kj2 bt387.1 bt387.2 bt375.1 bt375.2.1).bind fun t391 => (if t391 = true then (if bt369.2.2 = bt375.2.2 then (if bt369.2.2 = 0 then ((view_Text.f kj2 bt369.1 bt369.2.1).bind fun t392 => (caduceuslaw14_ViewReads.j1 kj2 (t392.toList != a1.toList) a0_0 l0_1)) else (caduceuslaw14_ViewReads.j1 kj2 false a0_0 l0_1)) else none) else none))) else none)))))) = some r := by rw [if_neg (show ¬ (false = true) by decide)] at H; exact H
    clear H
    have H := H1
    clear H1
    replace H := Option.bind_eq_some_iff.mp H
    obtain ⟨⟨t369, t370, t373⟩, A140, H⟩ := H
    replace H : ((caduceusref14_Read.f kj2 a1).bind fun bt375 => ((view_Text.f kj2 a0_0 l0_1).bind fun t381 => ((caduceuslaw14_Ref.f kj2 a0_0 l0_1).bind fun bt382 => ((caduceusref14_Text.f kj2 bt382.1 bt382.2).bind fun t386 => (if t381.toList = t386.toList then ((caduceuslaw14_Ref.f kj2 t369 t370).bind fun bt387 => ((caduceusref14_Same.f kj2 bt387.1 bt387.2 bt375.1 bt375.2.1).bind fun t391 => (if t391 = true then (if t373 = bt375.2.2 then (if t373 = 0 then ((view_Text.f kj2 t369 t370).bind fun t392 => (caduceuslaw14_ViewReads.j1 kj2 (t392.toList != a1.toList) a0_0 l0_1)) else (caduceuslaw14_ViewReads.j1 kj2 false a0_0 l0_1)) else none) else none))) else none))))) = some r := H
    have A14 := Aside0.mk A140
    clear A140
    replace H := Option.bind_eq_some_iff.mp H
    obtain ⟨⟨t375, t376, t379⟩, A150, H⟩ := H
    replace H : ((view_Text.f kj2 a0_0 l0_1).bind fun t381 => ((caduceuslaw14_Ref.f kj2 a0_0 l0_1).bind fun bt382 => ((caduceusref14_Text.f kj2 bt382.1 bt382.2).bind fun t386 => (if t381.toList = t386.toList then ((caduceuslaw14_Ref.f kj2 t369 t370).bind fun bt387 => ((caduceusref14_Same.f kj2 bt387.1 bt387.2 t375 t376).bind fun t391 => (if t391 = true then (if t373 = t379 then (if t373 = 0 then ((view_Text.f kj2 t369 t370).bind fun t392 => (caduceuslaw14_ViewReads.j1 kj2 (t392.toList != a1.toList) a0_0 l0_1)) else (caduceuslaw14_ViewReads.j1 kj2 false a0_0 l0_1)) else none) else none))) else none)))) = some r := H
    have A15 := Aside0.mk A150
    clear A150
    have HC16 := Aside0.mk H
    clear H
    go_upto_region 5 with (first | ((with_reducible refine gate_callee (f := 26) rfl ?_); refine goesL_ (some 22) rfl rfl Try.func26 (by kernel_rfl) rfl #[.string a1] rfl (by (try simp only [List.map_toArray, List.map_cons, List.map_nil]); first | rfl ) ?_; (with_reducible refine (view_Read.calls kj2 a1 t369 t370 t373 _ A14.out).mono ?_); rintro e w17 ⟨v371, rfl, ho0, hb⟩; refine ⟨_, rfl, ?_⟩; have n0_ := Aside0.mk (Kd.R_lower ho0 (below_size (by repeat (first | (with_reducible first | exact HB.out ) )))); have n1_ := Aside0.mk (blk_below (g := gb366) (o := .cells #[.int .i64 a0_0, .slice A0_1 l0_1.length c0_1] 24 (0, 0)) (by (with_reducible repeat (fail)); exact BK366.out) hb); have n2_ := Aside0.mk (below_step (by repeat (first | (with_reducible first | exact HB.out ) )) hb); clear BK366; clear HB; have HO372 := n0_; have BK366 := n1_; have HB := n2_; clear n0_ n1_ n2_; (try clear hb); (try clear hb2); (try clear hk); (try clear hi); (try clear ho0)) | ((with_reducible refine gate_dst (N := 5) rfl ?_); (try (refine gate_guard (by rfl) ?_; dsimp only)); refine box_event ?hg (N := 5) ?hd (cs := #[.int .i64 0, .slice none 0 0]) (t := 24) ?hr ?_; (case hd => rfl); (case hg => rfl); (case hr => first | (go_simp; done) ); intro gb374 hg w18 hbox hb; have n0_ := Aside0.mk (Kd.R_below (by (with_reducible repeat (fail)); exact HO372.out) hb); have n1_ := Aside0.mk (blk_below (g := gb366) (o := .cells #[.int .i64 a0_0, .slice A0_1 l0_1.length c0_1] 24 (0, 0)) (by (with_reducible repeat (fail)); exact BK366.out) hb); have n2_ := Aside0.mk (below_step (by repeat (first | (with_reducible first | exact HB.out ) )) hb); have n3_ := Aside0.mk (hbox); have n4_ := Aside0.mk ((by rw [hg]; exact (below_size (by repeat (first | (with_reducible first | exact HB.out ) ))) : w.heap.size ≤ gb374)); have n5_ := Aside0.mk ((by rw [hg]; exact (below_size (by repeat (first | (with_reducible first | exact HB.out ) ))) : w.heap.size ≤ gb374)); have n6_ := Aside0.mk ((by rw [hg]; exact Nat.ne_of_lt (blk_lt (g := gb366) (o := .cells #[.int .i64 a0_0, .slice A0_1 l0_1.length c0_1] 24 (0, 0)) (by (with_reducible repeat (fail)); exact BK366.out)) : gb366 ≠ gb374)); have n7_ := Aside0.mk ((by rw [hg]; exact Nat.ne_of_gt (blk_lt (g := gb366) (o := .cells #[.int .i64 a0_0, .slice A0_1 l0_1.length c0_1] 24 (0, 0)) (by (with_reducible repeat (fail)); exact BK366.out)) : gb374 ≠ gb366)); clear HO372; clear BK366; clear HB; have HO372 := n0_; have BK366 := n1_; have HB := n2_; have BK374 := n3_; have GW374 := n4_; have GE374 := n5_; have NB366_374 := n6_; have NB374_366 := n7_; clear n0_ n1_ n2_ n3_ n4_ n5_ n6_ n7_; clear hb hbox hg; have hnb19 := NB374_366.out; have hnc19 := NB366_374.out; have hcz20_0 : w18.cell? ⟨gb374, 0, none⟩ = some (.int .i64 0) := (blk_cell BK374.out 0).trans rfl; have hcz20_1 : w18.cell? ⟨gb374, 1, none⟩ = some (.slice none 0 0) := (blk_cell BK374.out 1).trans rfl; have hfz20_0 := blk_frozen BK374.out 0; have hfz20_1 := blk_frozen BK374.out 1; obtain ⟨Ao21, co21, eo21⟩ := Kd.R_slice HO372.out; subst eo21) | ((with_reducible refine gate_callee (f := 27) rfl ?_); refine goesL_ (some 27) rfl rfl Try.func27 (by kernel_rfl) rfl #[.string a1] rfl (by (try simp only [List.map_toArray, List.map_cons, List.map_nil]); first | rfl ) ?_; (with_reducible refine (caduceusref14_Read.calls kj2 a1 t375 t376 t379 _ A15.out).mono ?_); rintro e w22 ⟨v377, rfl, ho0, hb⟩; refine ⟨_, rfl, ?_⟩; have n0_ := Aside0.mk (Kd.R_below (by (with_reducible repeat (fail)); exact (Kd.R_mono (Kd.R_far (p := ⟨gb374, 1, none⟩) (Kd.R_far (p := ⟨gb374, 0, none⟩) (Kd.R_types HO372.out BK374.out (by decide)) (fun _ hk => hk.2) (.int .i64 t369)) (fun _ hk => hk.2) (.slice Ao21 t370.length co21)) (fun _ h_ => h_.1))) hb); have n1_ := Aside0.mk (Kd.R_lower ho0 (below_size (by repeat (first | (with_reducible first | exact HB.out | refine below_set ?_ GE374.out) )))); have n2_ := Aside0.mk (blk_below (g := gb366) (o := .cells #[.int .i64 a0_0, .slice A0_1 l0_1.length c0_1] 24 (0, 0)) (by (with_reducible repeat (fail)); refine blk_far ?_ NB366_374.out _; (with_reducible repeat (fail)); refine blk_far ?_ NB366_374.out _; (with_reducible repeat (fail)); exact BK366.out) hb); have n3_ := Aside0.mk (blk_below (g := gb374) (o := .cells #[.int .i64 t369, .slice Ao21 t370.length co21] 24 (0, 0)) (by (with_reducible repeat (fail)); refine blk_put (cs := #[.int .i64 t369, .slice none 0 0]) ?_ 1 _ rfl; (with_reducible repeat (fail)); refine blk_put (cs := #[.int .i64 0, .slice none 0 0]) ?_ 0 _ rfl; (with_reducible repeat (fail)); exact BK374.out) hb); have n4_ := Aside0.mk (below_step (by repeat (first | (with_reducible first | exact HB.out | refine below_set ?_ GE374.out) )) hb); clear HO372; clear BK366; clear BK374; clear HB; have HO372 := n0_; have HO378 := n1_; have BK366 := n2_; have BK374 := n3_; have HB := n4_; clear n0_ n1_ n2_ n3_ n4_; (try clear hb); (try clear hb2); (try clear hk); (try clear hi); (try clear ho0)) | ((with_reducible refine gate_dst (N := 7) rfl ?_); (try (refine gate_guard (by rfl) ?_; dsimp only)); refine box_event ?hg (N := 7) ?hd (cs := #[.int .i64 0, .slice none 0 0]) (t := 32) ?hr ?_; (case hd => rfl); (case hg => rfl); (case hr => first | (go_simp; done) ); intro gb380 hg w23 hbox hb; have n0_ := Aside0.mk (Kd.R_below (by (with_reducible repeat (fail)); exact HO372.out) hb); have n1_ := Aside0.mk (Kd.R_below (by (with_reducible repeat (fail)); exact HO378.out) hb); have n2_ := Aside0.mk (blk_below (g := gb366) (o := .cells #[.int .i64 a0_0, .slice A0_1 l0_1.length c0_1] 24 (0, 0)) (by (with_reducible repeat (fail)); exact BK366.out) hb); have n3_ := Aside0.mk (blk_below (g := gb374) (o := .cells #[.int .i64 t369, .slice Ao21 t370.length co21] 24 (0, 0)) (by (with_reducible repeat (fail)); exact BK374.out) hb); have n4_ := Aside0.mk (below_step (by repeat (first | (with_reducible first | exact HB.out ) )) hb); have n5_ := Aside0.mk (hbox); have n6_ := Aside0.mk ((by rw [hg]; exact (below_size (by repeat (first | (with_reducible first | exact HB.out ) ))) : w.heap.size ≤ gb380)); have n7_ := Aside0.mk ((by rw [hg]; exact (below_size (by repeat (first | (with_reducible first | exact HB.out ) ))) : w.heap.size ≤ gb380)); have n8_ := Aside0.mk ((by rw [hg]; exact Nat.ne_of_lt (blk_lt (g := gb366) (o := .cells #[.int .i64 a0_0, .slice A0_1 l0_1.length c0_1] 24 (0, 0)) (by (with_reducible repeat (fail)); exact BK366.out)) : gb366 ≠ gb380)); have n9_ := Aside0.mk ((by rw [hg]; exact Nat.ne_of_gt (blk_lt (g := gb366) (o := .cells #[.int .i64 a0_0, .slice A0_1 l0_1.length c0_1] 24 (0, 0)) (by (with_reducible repeat (fail)); exact BK366.out)) : gb380 ≠ gb366)); have n10_ := Aside0.mk ((by rw [hg]; exact Nat.ne_of_lt (blk_lt (g := gb374) (o := .cells #[.int .i64 t369, .slice Ao21 t370.length co21] 24 (0, 0)) (by (with_reducible repeat (fail)); exact BK374.out)) : gb374 ≠ gb380)); have n11_ := Aside0.mk ((by rw [hg]; exact Nat.ne_of_gt (blk_lt (g := gb374) (o := .cells #[.int .i64 t369, .slice Ao21 t370.length co21] 24 (0, 0)) (by (with_reducible repeat (fail)); exact BK374.out)) : gb380 ≠ gb374)); clear HO372; clear HO378; clear BK366; clear BK374; clear HB; have HO372 := n0_; have HO378 := n1_; have BK366 := n2_; have BK374 := n3_; have HB := n4_; have BK380 := n5_; have GW380 := n6_; have GE380 := n7_; have NB366_380 := n8_; have NB380_366 := n9_; have NB374_380 := n10_; have NB380_374 := n11_; clear n0_ n1_ n2_ n3_ n4_ n5_ n6_ n7_ n8_ n9_ n10_ n11_; clear hb hbox hg; have hnb24 := NB380_366.out; have hnc24 := NB366_380.out; have hnb25 := NB380_374.out; have hnc25 := NB374_380.out; have hcz26_0 : w23.cell? ⟨gb380, 0, none⟩ = some (.int .i64 0) := (blk_cell BK380.out 0).trans rfl; have hcz26_1 : w23.cell? ⟨gb380, 1, none⟩ = some (.slice none 0 0) := (blk_cell BK380.out 1).trans rfl; have hfz26_0 := blk_frozen BK380.out 0; have hfz26_1 := blk_frozen BK380.out 1; obtain ⟨Ao27, co27, eo27⟩ := Kd.R_slice HO378.out; subst eo27))
    (try simp only [Act.put, List.setIfInBounds_toArray, List.set_cons_zero, List.set_cons_succ])
    go_cut [57] (fun v57 wc => ∃ (kq : Nat) (x57_15 : Bool), v57 = .bool x57_15 ∧ Aside0 (caduceuslaw14_ViewReads.j1 kq x57_15 a0_0 l0_1 = some r) ∧ Aside0 (kq ≤ kj2) ∧ Aside0 (Kd.R k53 53 wc w.heap.size (fun _ => True) (.slice Ao21 t370.length co21) t370) ∧ Aside0 (Kd.R k62 62 wc w.heap.size (fun _ => True) (.slice Ao27 t376.length co27) t376) ∧ Aside0 (wc.heap[gb366]? = some (.cells #[.int .i64 a0_0, (.slice A0_1 l0_1.length c0_1)] 24 (0, 0))) ∧ Aside0 (wc.heap[gb374]? = some (.cells #[.int .i64 t369, (.slice Ao21 t370.length co21)] 24 (0, 0))) ∧ Aside0 (wc.heap[gb380]? = some (.cells #[.int .i64 t375, (.slice Ao27 t376.length co27)] 32 (0, 0))) ∧ Aside0 (Below w.heap.size w wc))
    case first =>
     have H := HC16.out
     clear HC16
     replace H := Option.bind_eq_some_iff.mp H
     obtain ⟨t381, A280, H⟩ := H
     replace H : ((caduceuslaw14_Ref.f kj2 a0_0 l0_1).bind fun bt382 => ((caduceusref14_Text.f kj2 bt382.1 bt382.2).bind fun t386 => (if t381.toList = t386.toList then ((caduceuslaw14_Ref.f kj2 t369 t370).bind fun bt387 => ((caduceusref14_Same.f kj2 bt387.1 bt387.2 t375 t376).bind fun t391 => (if t391 = true then (if t373 = t379 then (if t373 = 0 then ((view_Text.f kj2 t369 t370).bind fun t392 => (caduceuslaw14_ViewReads.j1 kj2 (t392.toList != a1.toList) a0_0 l0_1)) else (caduceuslaw14_ViewReads.j1 kj2 false a0_0 l0_1)) else none) else none))) else none))) = some r := H
     have A28 := Aside0.mk A280
     clear A280
     replace H := Option.bind_eq_some_iff.mp H
     obtain ⟨⟨t382, t383⟩, A290, H⟩ := H
     replace H : ((caduceusref14_Text.f kj2 t382 t383).bind fun t386 => (if t381.toList = t386.toList then ((caduceuslaw14_Ref.f kj2 t369 t370).bind fun bt387 => ((caduceusref14_Same.f kj2 bt387.1 bt387.2 t375 t376).bind fun t391 => (if t391 = true then (if t373 = t379 then (if t373 = 0 then ((view_Text.f kj2 t369 t370).bind fun t392 => (caduceuslaw14_ViewReads.j1 kj2 (t392.toList != a1.toList) a0_0 l0_1)) else (caduceuslaw14_ViewReads.j1 kj2 false a0_0 l0_1)) else none) else none))) else none)) = some r := H
     have A29 := Aside0.mk A290
     clear A290
     replace H := Option.bind_eq_some_iff.mp H
     obtain ⟨t386, A300, H⟩ := H
     replace H : (if t381.toList = t386.toList then ((caduceuslaw14_Ref.f kj2 t369 t370).bind fun bt387 => ((caduceusref14_Same.f kj2 bt387.1 bt387.2 t375 t376).bind fun t391 => (if t391 = true then (if t373 = t379 then (if t373 = 0 then ((view_Text.f kj2 t369 t370).bind fun t392 => (caduceuslaw14_ViewReads.j1 kj2 (t392.toList != a1.toList) a0_0 l0_1)) else (caduceuslaw14_ViewReads.j1 kj2 false a0_0 l0_1)) else none) else none))) else none) = some r := H
     have A30 := Aside0.mk A300
     clear A300
     by_cases c31 : t381.toList = t386.toList
     ·rw [if_pos c31] at H
      have c31b0 : (t381.toList == t386.toList) = true := beq_iff_eq.mpr c31
      have c31b1 : (t381.toList != t386.toList) = false := bne_eq_false_iff_eq.mpr c31
      clear c31
      (first | skip)
      replace H := Option.bind_eq_some_iff.mp H
      obtain ⟨⟨t387, t388⟩, A320, H⟩ := H
      replace H : ((caduceusref14_Same.f kj2 t387 t388 t375 t376).bind fun t391 => (if t391 = true then (if t373 = t379 then (if t373 = 0 then ((view_Text.f kj2 t369 t370).bind fun t392 => (caduceuslaw14_ViewReads.j1 kj2 (t392.toList != a1.toList) a0_0 l0_1)) else (caduceuslaw14_ViewReads.j1 kj2 false a0_0 l0_1)) else none) else none)) = some r := H
      have A32 := Aside0.mk A320
      clear A320
      replace H := Option.bind_eq_some_iff.mp H
      obtain ⟨t391, A330, H⟩ := H
      replace H : (if t391 = true then (if t373 = t379 then (if t373 = 0 then ((view_Text.f kj2 t369 t370).bind fun t392 => (caduceuslaw14_ViewReads.j1 kj2 (t392.toList != a1.toList) a0_0 l0_1)) else (caduceuslaw14_ViewReads.j1 kj2 false a0_0 l0_1)) else none) else none) = some r := H
      have A33 := Aside0.mk A330
      clear A330
      by_cases c34 : t391 = true
      ·subst c34
       have H1 : (if t373 = t379 then (if t373 = 0 then ((view_Text.f kj2 t369 t370).bind fun t392 => (caduceuslaw14_ViewReads.j1 kj2 (t392.toList != a1.toList) a0_0 l0_1)) else (caduceuslaw14_ViewReads.j1 kj2 false a0_0 l0_1)) else none) = some r := by rw [if_pos rfl] at H; exact H
       clear H
       have H := H1
       clear H1
       by_cases c35 : t373 = t379
       ·rw [if_pos c35] at H
        have c35b0 : (t373 == t379) = true := beq_iff_eq.mpr c35
        have c35b1 : (t373 != t379) = false := bne_eq_false_iff_eq.mpr c35
        clear c35
        by_cases c36 : t373 = 0
        ·rw [if_pos c36] at H
         have c36b0 : (t373 == 0) = true := beq_iff_eq.mpr c36
         have c36b1 : (t373 != 0) = false := bne_eq_false_iff_eq.mpr c36
         clear c36
         replace H := Option.bind_eq_some_iff.mp H
         obtain ⟨t392, A370, H⟩ := H
         replace H : (caduceuslaw14_ViewReads.j1 kj2 (t392.toList != a1.toList) a0_0 l0_1) = some r := H
         have A37 := Aside0.mk A370
         clear A370
         have H' := Aside0.mk H
         clear H
         try go_wp2
         have n0_ : Aside0 (Kd.R k53 53 ((w23.setCell ⟨gb380, 0, none⟩ (.int .i64 t375)).setCell ⟨gb380, 1, none⟩ (.slice Ao27 t376.length co27)) w.heap.size (fun _ => True) (.slice Ao21 t370.length co21) t370) := ⟨by (with_reducible repeat (fail)); exact Kd.R_mono (Kd.R_far (p := ⟨gb380, 1, none⟩) (Kd.R_far (p := ⟨gb380, 0, none⟩) (Kd.R_types HO372.out BK380.out (by decide)) (fun _ hk => hk.2) (.int .i64 t375)) (fun _ hk => hk.2) (.slice Ao27 t376.length co27)) (fun _ hk => trivial)⟩
         have n1_ : Aside0 (Kd.R k62 62 ((w23.setCell ⟨gb380, 0, none⟩ (.int .i64 t375)).setCell ⟨gb380, 1, none⟩ (.slice Ao27 t376.length co27)) w.heap.size (fun _ => True) (.slice Ao27 t376.length co27) t376) := ⟨by (with_reducible repeat (fail)); exact Kd.R_mono (Kd.R_far (p := ⟨gb380, 1, none⟩) (Kd.R_far (p := ⟨gb380, 0, none⟩) (Kd.R_types HO378.out BK380.out (by decide)) (fun _ hk => hk.2) (.int .i64 t375)) (fun _ hk => hk.2) (.slice Ao27 t376.length co27)) (fun _ hk => trivial)⟩
         have n2_ : Aside0 (((w23.setCell ⟨gb380, 0, none⟩ (.int .i64 t375)).setCell ⟨gb380, 1, none⟩ (.slice Ao27 t376.length co27)).heap[gb366]? = some (.cells #[.int .i64 a0_0, .slice A0_1 l0_1.length c0_1] 24 (0, 0))) := ⟨by (with_reducible repeat (fail)); refine blk_far ?_ NB366_380.out _; (with_reducible repeat (fail)); refine blk_far ?_ NB366_380.out _; (with_reducible repeat (fail)); exact BK366.out⟩
         have n3_ : Aside0 (((w23.setCell ⟨gb380, 0, none⟩ (.int .i64 t375)).setCell ⟨gb380, 1, none⟩ (.slice Ao27 t376.length co27)).heap[gb374]? = some (.cells #[.int .i64 t369, .slice Ao21 t370.length co21] 24 (0, 0))) := ⟨by (with_reducible repeat (fail)); refine blk_far ?_ NB374_380.out _; (with_reducible repeat (fail)); refine blk_far ?_ NB374_380.out _; (with_reducible repeat (fail)); exact BK374.out⟩
         have n4_ : Aside0 (((w23.setCell ⟨gb380, 0, none⟩ (.int .i64 t375)).setCell ⟨gb380, 1, none⟩ (.slice Ao27 t376.length co27)).heap[gb380]? = some (.cells #[.int .i64 t375, .slice Ao27 t376.length co27] 32 (0, 0))) := ⟨by (with_reducible repeat (fail)); refine blk_put (cs := #[.int .i64 t375, .slice none 0 0]) ?_ 1 _ rfl; (with_reducible repeat (fail)); refine blk_put (cs := #[.int .i64 0, .slice none 0 0]) ?_ 0 _ rfl; (with_reducible repeat (fail)); exact BK380.out⟩
         have n5_ : Aside0 (Below w.heap.size w ((w23.setCell ⟨gb380, 0, none⟩ (.int .i64 t375)).setCell ⟨gb380, 1, none⟩ (.slice Ao27 t376.length co27))) := ⟨by repeat (first | (with_reducible first | exact HB.out | refine below_set ?_ GE380.out) )⟩
         (try clear HO372)
         (try clear HO378)
         (try clear BK366)
         (try clear BK374)
         (try clear BK380)
         (try clear HB)
         generalize ((w23.setCell ⟨gb380, 0, none⟩ (.int .i64 t375)).setCell ⟨gb380, 1, none⟩ (.slice Ao27 t376.length co27)) = w38 at n0_ n1_ n2_ n3_ n4_ n5_ ⊢
         have HO372 := n0_
         have HO378 := n1_
         have BK366 := n2_
         have BK374 := n3_
         have BK380 := n4_
         have HB := n5_
         clear n0_ n1_ n2_ n3_ n4_ n5_
         have n0_ := Aside0.mk (Kd.R_drew HO372.out)
         have n1_ := Aside0.mk (Kd.R_drew HO378.out)
         have n2_ := Aside0.mk (blk_drew BK366.out)
         have n3_ := Aside0.mk (blk_drew BK374.out)
         have n4_ := Aside0.mk (blk_drew BK380.out)
         have n5_ := Aside0.mk (below_drew1 HB.out)
         clear HO372
         clear HO378
         clear BK366
         clear BK374
         clear BK380
         clear HB
         have HO372 := n0_
         have HO378 := n1_
         have BK366 := n2_
         have BK374 := n3_
         have BK380 := n4_
         have HB := n5_
         clear n0_ n1_ n2_ n3_ n4_ n5_
         refine start_ (n := 28) (S := fun w' => w'.cell? ⟨gb366, 0, none⟩ = some (.int .i64 a0_0) ∧ w'.cell? ⟨gb366, 1, none⟩ = some (.slice A0_1 l0_1.length c0_1) ∧ w'.cell? ⟨gb374, 0, none⟩ = some (.int .i64 t369) ∧ w'.cell? ⟨gb374, 1, none⟩ = some (.slice Ao21 t370.length co21) ∧ w'.cell? ⟨gb380, 0, none⟩ = some (.int .i64 t375) ∧ w'.cell? ⟨gb380, 1, none⟩ = some (.slice Ao27 t376.length co27)) (ds := []) #[false, false, false, false, false, false, false, false, false, false, false, false, false, false, false, false, false, false, false, false, false, false, false, false, false, false, false, false] (by kernel_rfl) rfl rfl ⟨(blk_cell BK366.out 0).trans rfl, (blk_cell BK366.out 1).trans rfl, (blk_cell BK374.out 0).trans rfl, (blk_cell BK374.out 1).trans rfl, (blk_cell BK380.out 0).trans rfl, (blk_cell BK380.out 1).trans rfl⟩ (fun hHeld => ?_); refine with_tabW caduceuslaw14_ViewReads.tab5 caduceuslaw14_ViewReads.bits5 (fun HT_ HW_ => ?_)
         generalize w38.drew = w39 at HO372 HO378 BK366 BK374 BK380 HB hHeld ⊢
         refine take_ (i := 0) (N := some 30) (v := ?_) (a' := ?_) #[true, false, false, false, false, false, false, false, false, false, false, false, false, false, false, false, false, false, false, false, false, false, false, false, false, false, false, false] rfl rfl (take_ofW HT_.out HW_.out (by kernel_rfl)) (fun _ _ _ h => h) (Or.inl ⟨by rfl, ?_⟩) hHeld ?_ ?_
         rotate_left
         ·rintro w' ⟨s0, s1, s2, s3, s4, s5⟩
          go_simp
          with_reducible rfl
         rotate_left
         ·simp only [Act.put, List.setIfInBounds_toArray, List.set_cons_zero, List.set_cons_succ, i64_w, i32_w]
          rfl
         refine take_ (i := 2) (N := some 32) (v := ?_) (a' := ?_) #[true, false, true, false, false, false, false, false, false, false, false, false, false, false, false, false, false, false, false, false, false, false, false, false, false, false, false, false] rfl rfl (take_ofW HT_.out HW_.out (by kernel_rfl)) (fun _ _ _ h => h) (Or.inl ⟨by rfl, ?_⟩) hHeld ?_ ?_
         rotate_left
         ·rintro w' ⟨s0, s1, s2, s3, s4, s5⟩
          go_simp
          with_reducible rfl
         rotate_left
         ·simp only [Act.put, List.setIfInBounds_toArray, List.set_cons_zero, List.set_cons_succ, i64_w, i32_w]
          rfl
         refine one_ (i := 1) (N := some 31) #[true, true, true, false, false, false, false, false, false, false, false, false, false, false, false, false, false, false, false, false, false, false, false, false, false, false, false, false] rfl rfl (one_of HT_.out (by kernel_rfl)) (by decide) (fun K hK => ?_)
         refine goes_ Try.func28 (by kernel_rfl) rfl #[.agg #[.int .i64 a0_0, .slice A0_1 l0_1.length c0_1]] (by rfl) rfl rfl (by (try simp only [List.map_toArray, List.map_cons, List.map_nil]); first | rfl ) ?_
         with_reducible refine (view_Text.calls kj2 a0_0 _ _ l0_1 t381 _ ?side1 ?side2 A28.out).mono ?_
         (case side1 => repeat (first | exact (Kd.C_below HR0_1.out HB.out) ))
         (case side2 => exact HC0_1.out)
         rintro e w40 ⟨rfl, hb⟩
         refine ⟨_, rfl, ?_⟩
         have n0_ := Aside0.mk (Kd.R_below (by (with_reducible repeat (fail)); exact HO372.out) hb)
         have n1_ := Aside0.mk (Kd.R_below (by (with_reducible repeat (fail)); exact HO378.out) hb)
         have n2_ := Aside0.mk (blk_below (g := gb366) (o := .cells #[.int .i64 a0_0, .slice A0_1 l0_1.length c0_1] 24 (0, 0)) (by (with_reducible repeat (fail)); exact BK366.out) hb)
         have n3_ := Aside0.mk (blk_below (g := gb374) (o := .cells #[.int .i64 t369, .slice Ao21 t370.length co21] 24 (0, 0)) (by (with_reducible repeat (fail)); exact BK374.out) hb)
         have n4_ := Aside0.mk (blk_below (g := gb380) (o := .cells #[.int .i64 t375, .slice Ao27 t376.length co27] 32 (0, 0)) (by (with_reducible repeat (fail)); exact BK380.out) hb)
         have n5_ := Aside0.mk (below_step (by repeat (first | (with_reducible first | exact HB.out ) )) hb)
         clear HO372
         clear HO378
         clear BK366
         clear BK374
         clear BK380
         clear HB
         have HO372 := n0_
         have HO378 := n1_
         have BK366 := n2_
         have BK374 := n3_
         have BK380 := n4_
         have HB := n5_
         clear n0_ n1_ n2_ n3_ n4_ n5_
         (try clear hb)
         (try clear hb2)
         (try clear hk)
         (try clear hi)
         refine hK.out _ _ ⟨(blk_cell BK366.out 0).trans rfl, (blk_cell BK366.out 1).trans rfl, (blk_cell BK374.out 0).trans rfl, (blk_cell BK374.out 1).trans rfl, (blk_cell BK380.out 0).trans rfl, (blk_cell BK380.out 1).trans rfl⟩ (fun hHeld => ?_)
         clear hK K
         refine norm_ (a' := ?_) ?_ ?_
         rotate_left
         ·show Act.put _ (some 31) _ = _
          simp only [Act.put, List.setIfInBounds_toArray, List.set_cons_zero, List.set_cons_succ, i64_w, i32_w]
          rfl
         refine one_ (i := 3) (N := some 33) #[true, true, true, true, false, false, false, false, false, false, false, false, false, false, false, false, false, false, false, false, false, false, false, false, false, false, false, false] rfl rfl (one_of HT_.out (by kernel_rfl)) (by decide) (fun K hK => ?_)
         refine goes_ Try.func11 (by kernel_rfl) rfl #[.agg #[.int .i64 a0_0, .slice A0_1 l0_1.length c0_1]] (by rfl) rfl rfl (by (try simp only [List.map_toArray, List.map_cons, List.map_nil]); first | rfl ) ?_
         with_reducible refine (caduceuslaw14_Ref.calls kj2 a0_0 _ _ l0_1 t382 t383 _ ?side1 ?side2 A29.out).mono ?_
         (case side1 => repeat (first | exact (Kd.C_below HR0_1.out HB.out) ))
         (case side2 => exact HC0_1.out)
         rintro e w41 ⟨v384, rfl, ho0, hb⟩
         refine ⟨_, rfl, ?_⟩
         have n0_ := Aside0.mk (Kd.R_below (by (with_reducible repeat (fail)); exact HO372.out) hb)
         have n1_ := Aside0.mk (Kd.R_elder' (by (with_reducible repeat (fail)); exact HO378.out) (Kd.R_base ho0) hb)
         have n2_ := Aside0.mk (Kd.R_lower (Kd.R_new' ho0 (Kd.R_lt (by (with_reducible repeat (fail)); exact HO378.out))) (below_size (by repeat (first | (with_reducible first | exact HB.out ) ))))
         have n3_ := Aside0.mk (blk_below (g := gb366) (o := .cells #[.int .i64 a0_0, .slice A0_1 l0_1.length c0_1] 24 (0, 0)) (by (with_reducible repeat (fail)); exact BK366.out) hb)
         have n4_ := Aside0.mk (blk_below (g := gb374) (o := .cells #[.int .i64 t369, .slice Ao21 t370.length co21] 24 (0, 0)) (by (with_reducible repeat (fail)); exact BK374.out) hb)
         have n5_ := Aside0.mk (blk_below (g := gb380) (o := .cells #[.int .i64 t375, .slice Ao27 t376.length co27] 32 (0, 0)) (by (with_reducible repeat (fail)); exact BK380.out) hb)
         have n6_ := Aside0.mk (below_step (by repeat (first | (with_reducible first | exact HB.out ) )) hb)
         clear HO372
         clear HO378
         clear BK366
         clear BK374
         clear BK380
         clear HB
         have HO372 := n0_
         have HO378 := n1_
         have HO385 := n2_
         have BK366 := n3_
         have BK374 := n4_
         have BK380 := n5_
         have HB := n6_
         clear n0_ n1_ n2_ n3_ n4_ n5_ n6_
         (try clear hb)
         (try clear hb2)
         (try clear hk)
         (try clear hi)
         (try clear ho0)
         obtain ⟨Ao42, co42, eo42⟩ := Kd.R_slice HO385.out
         (first | subst eo42 )
         refine hK.out _ _ ⟨(blk_cell BK366.out 0).trans rfl, (blk_cell BK366.out 1).trans rfl, (blk_cell BK374.out 0).trans rfl, (blk_cell BK374.out 1).trans rfl, (blk_cell BK380.out 0).trans rfl, (blk_cell BK380.out 1).trans rfl⟩ (fun hHeld => ?_)
         clear hK K
         refine norm_ (a' := ?_) ?_ ?_
         rotate_left
         ·show Act.put _ (some 33) _ = _
          simp only [Act.put, List.setIfInBounds_toArray, List.set_cons_zero, List.set_cons_succ, i64_w, i32_w]
          rfl
         refine one_ (i := 4) (N := some 34) #[true, true, true, true, true, false, false, false, false, false, false, false, false, false, false, false, false, false, false, false, false, false, false, false, false, false, false, false] rfl rfl (one_of HT_.out (by kernel_rfl)) (by decide) (fun K hK => ?_)
         refine goes_ Try.func29 (by kernel_rfl) rfl #[.agg #[.int .i64 t382, .slice Ao42 t383.length co42]] (by rfl) rfl rfl (by (try simp only [List.map_toArray, List.map_cons, List.map_nil]); first | rfl ) ?_
         with_reducible refine (caduceusref14_Text.calls kj2 t382 _ _ t383 t386 _ ?side1 ?side2 A30.out).mono ?_
         (case side1 => repeat (first | exact (Kd.R_reads' HO385.out).2.2 ))
         (case side2 => exact (Kd.R_reads' HO385.out).2.1)
         rintro e w43 ⟨rfl, hb⟩
         refine ⟨_, rfl, ?_⟩
         have n0_ := Aside0.mk (Kd.R_below (by (with_reducible repeat (fail)); exact HO372.out) hb)
         have n1_ := Aside0.mk (Kd.R_below (by (with_reducible repeat (fail)); exact HO378.out) hb)
         have n2_ := Aside0.mk (Kd.R_below (by (with_reducible repeat (fail)); exact HO385.out) hb)
         have n3_ := Aside0.mk (blk_below (g := gb366) (o := .cells #[.int .i64 a0_0, .slice A0_1 l0_1.length c0_1] 24 (0, 0)) (by (with_reducible repeat (fail)); exact BK366.out) hb)
         have n4_ := Aside0.mk (blk_below (g := gb374) (o := .cells #[.int .i64 t369, .slice Ao21 t370.length co21] 24 (0, 0)) (by (with_reducible repeat (fail)); exact BK374.out) hb)
         have n5_ := Aside0.mk (blk_below (g := gb380) (o := .cells #[.int .i64 t375, .slice Ao27 t376.length co27] 32 (0, 0)) (by (with_reducible repeat (fail)); exact BK380.out) hb)
         have n6_ := Aside0.mk (below_step (by repeat (first | (with_reducible first | exact HB.out ) )) hb)
         clear HO372
         clear HO378
         clear HO385
         clear BK366
         clear BK374
         clear BK380
         clear HB
         have HO372 := n0_
         have HO378 := n1_
         have HO385 := n2_
         have BK366 := n3_
         have BK374 := n4_
         have BK380 := n5_
         have HB := n6_
         clear n0_ n1_ n2_ n3_ n4_ n5_ n6_
         (try clear hb)
         (try clear hb2)
         (try clear hk)
         (try clear hi)
         refine hK.out _ _ ⟨(blk_cell BK366.out 0).trans rfl, (blk_cell BK366.out 1).trans rfl, (blk_cell BK374.out 0).trans rfl, (blk_cell BK374.out 1).trans rfl, (blk_cell BK380.out 0).trans rfl, (blk_cell BK380.out 1).trans rfl⟩ (fun hHeld => ?_)
         clear hK K
         refine norm_ (a' := ?_) ?_ ?_
         rotate_left
         ·show Act.put _ (some 34) _ = _
          simp only [Act.put, List.setIfInBounds_toArray, List.set_cons_zero, List.set_cons_succ, i64_w, i32_w]
          rfl
         refine pure_ (i := 5) (N := some 35) (v := ?_) (a' := ?_) #[true, true, true, true, true, true, false, false, false, false, false, false, false, false, false, false, false, false, false, false, false, false, false, false, false, false, false, false] rfl rfl (any_of HT_.out (by kernel_rfl)) (fun _ _ _ h => h) (Or.inl ⟨by rfl, ?_⟩) ?_ ?_
         rotate_left
         ·intro w'
          go_simp
          with_reducible rfl
         rotate_left
         ·simp only [Act.put, List.setIfInBounds_toArray, List.set_cons_zero, List.set_cons_succ, i64_w, i32_w]
          rfl
         refine pure_ (i := 6) (N := some 36) (v := ?_) (a' := ?_) #[true, true, true, true, true, true, true, false, false, false, false, false, false, false, false, false, false, false, false, false, false, false, false, false, false, false, false, false] rfl rfl (any_of HT_.out (by kernel_rfl)) (fun _ _ _ h => h) (Or.inl ⟨by rfl, ?_⟩) ?_ ?_
         rotate_left
         ·intro w'
          go_simp
          with_reducible rfl
         rotate_left
         ·simp only [Act.put, List.setIfInBounds_toArray, List.set_cons_zero, List.set_cons_succ, i64_w, i32_w]
          rfl
         refine take_ (i := 7) (N := some 37) (v := ?_) (a' := ?_) #[true, true, true, true, true, true, true, true, false, false, false, false, false, false, false, false, false, false, false, false, false, false, false, false, false, false, false, false] rfl rfl (take_ofW HT_.out HW_.out (by kernel_rfl)) (fun _ _ _ h => h) (Or.inl ⟨by rfl, ?_⟩) hHeld ?_ ?_
         rotate_left
         ·rintro w' ⟨s0, s1, s2, s3, s4, s5⟩
          go_simp
          with_reducible rfl
         rotate_left
         ·simp only [Act.put, List.setIfInBounds_toArray, List.set_cons_zero, List.set_cons_succ, i64_w, i32_w]
          rfl
         refine take_ (i := 9) (N := some 39) (v := ?_) (a' := ?_) #[true, true, true, true, true, true, true, true, false, true, false, false, false, false, false, false, false, false, false, false, false, false, false, false, false, false, false, false] rfl rfl (take_ofW HT_.out HW_.out (by kernel_rfl)) (fun _ _ _ h => h) (Or.inl ⟨by rfl, ?_⟩) hHeld ?_ ?_
         rotate_left
         ·rintro w' ⟨s0, s1, s2, s3, s4, s5⟩
          go_simp
          with_reducible rfl
         rotate_left
         ·simp only [Act.put, List.setIfInBounds_toArray, List.set_cons_zero, List.set_cons_succ, i64_w, i32_w]
          rfl
         refine one_ (i := 8) (N := some 38) #[true, true, true, true, true, true, true, true, true, true, false, false, false, false, false, false, false, false, false, false, false, false, false, false, false, false, false, false] rfl rfl (one_of HT_.out (by kernel_rfl)) (by decide) (fun K hK => ?_)
         refine goes_ Try.func11 (by kernel_rfl) rfl #[.agg #[.int .i64 t369, .slice Ao21 t370.length co21]] (by rfl) rfl rfl (by (try simp only [List.map_toArray, List.map_cons, List.map_nil]); first | rfl ) ?_
         with_reducible refine (caduceuslaw14_Ref.calls kj2 t369 _ _ t370 t387 t388 _ ?side1 ?side2 A32.out).mono ?_
         (case side1 => repeat (first | exact (Kd.R_reads' HO372.out).2.2 ))
         (case side2 => exact (Kd.R_reads' HO372.out).2.1)
         rintro e w44 ⟨v389, rfl, ho0, hb⟩
         refine ⟨_, rfl, ?_⟩
         have n0_ := Aside0.mk (Kd.R_below (by (with_reducible repeat (fail)); exact HO372.out) hb)
         have n1_ := Aside0.mk (Kd.R_elder' (by (with_reducible repeat (fail)); exact HO378.out) (Kd.R_base ho0) hb)
         have n2_ := Aside0.mk (Kd.R_elder' (by (with_reducible repeat (fail)); exact HO385.out) (Kd.R_base ho0) hb)
         have n3_ := Aside0.mk (Kd.R_lower (Kd.R_new' (Kd.R_new' ho0 (Kd.R_lt (by (with_reducible repeat (fail)); exact HO378.out))) (Kd.R_lt (by (with_reducible repeat (fail)); exact HO385.out))) (below_size (by repeat (first | (with_reducible first | exact HB.out ) ))))
         have n4_ := Aside0.mk (blk_below (g := gb366) (o := .cells #[.int .i64 a0_0, .slice A0_1 l0_1.length c0_1] 24 (0, 0)) (by (with_reducible repeat (fail)); exact BK366.out) hb)
         have n5_ := Aside0.mk (blk_below (g := gb374) (o := .cells #[.int .i64 t369, .slice Ao21 t370.length co21] 24 (0, 0)) (by (with_reducible repeat (fail)); exact BK374.out) hb)
         have n6_ := Aside0.mk (blk_below (g := gb380) (o := .cells #[.int .i64 t375, .slice Ao27 t376.length co27] 32 (0, 0)) (by (with_reducible repeat (fail)); exact BK380.out) hb)
         have n7_ := Aside0.mk (below_step (by repeat (first | (with_reducible first | exact HB.out ) )) hb)
         clear HO372
         clear HO378
         clear HO385
         clear BK366
         clear BK374
         clear BK380
         clear HB
         have HO372 := n0_
         have HO378 := n1_
         have HO385 := n2_
         have HO390 := n3_
         have BK366 := n4_
         have BK374 := n5_
         have BK380 := n6_
         have HB := n7_
         clear n0_ n1_ n2_ n3_ n4_ n5_ n6_ n7_
         (try clear hb)
         (try clear hb2)
         (try clear hk)
         (try clear hi)
         (try clear ho0)
         obtain ⟨Ao45, co45, eo45⟩ := Kd.R_slice HO390.out
         (first | subst eo45 )
         refine hK.out _ _ ⟨(blk_cell BK366.out 0).trans rfl, (blk_cell BK366.out 1).trans rfl, (blk_cell BK374.out 0).trans rfl, (blk_cell BK374.out 1).trans rfl, (blk_cell BK380.out 0).trans rfl, (blk_cell BK380.out 1).trans rfl⟩ (fun hHeld => ?_)
         clear hK K
         refine norm_ (a' := ?_) ?_ ?_
         rotate_left
         ·show Act.put _ (some 38) _ = _
          simp only [Act.put, List.setIfInBounds_toArray, List.set_cons_zero, List.set_cons_succ, i64_w, i32_w]
          rfl
         refine one_ (i := 10) (N := some 40) #[true, true, true, true, true, true, true, true, true, true, true, false, false, false, false, false, false, false, false, false, false, false, false, false, false, false, false, false] rfl rfl (one_of HT_.out (by kernel_rfl)) (by decide) (fun K hK => ?_)
         refine goes_ Try.func13 (by kernel_rfl) rfl #[.agg #[.int .i64 t387, .slice Ao45 t388.length co45], .agg #[.int .i64 t375, .slice Ao27 t376.length co27]] (by rfl) rfl rfl (by (try simp only [List.map_toArray, List.map_cons, List.map_nil]); first | rfl ) ?_
         with_reducible refine (caduceusref14_Same.calls kj2 t387 _ _ t388 t375 _ _ t376 true _ ?side1 ?side2 ?side3 ?side4 A33.out).mono ?_
         (case side1 => repeat (first | exact (Kd.R_reads' HO390.out).2.2 ))
         (case side2 => exact (Kd.R_reads' HO390.out).2.1)
         (case side3 => repeat (first | exact (Kd.R_reads' HO378.out).2.2 ))
         (case side4 => exact (Kd.R_reads' HO378.out).2.1)
         rintro e w46 ⟨rfl, hb⟩
         refine ⟨_, rfl, ?_⟩
         have n0_ := Aside0.mk (Kd.R_below (by (with_reducible repeat (fail)); exact HO372.out) hb)
         have n1_ := Aside0.mk (Kd.R_below (by (with_reducible repeat (fail)); exact HO378.out) hb)
         have n2_ := Aside0.mk (Kd.R_below (by (with_reducible repeat (fail)); exact HO385.out) hb)
         have n3_ := Aside0.mk (Kd.R_below (by (with_reducible repeat (fail)); exact HO390.out) hb)
         have n4_ := Aside0.mk (blk_below (g := gb366) (o := .cells #[.int .i64 a0_0, .slice A0_1 l0_1.length c0_1] 24 (0, 0)) (by (with_reducible repeat (fail)); exact BK366.out) hb)
         have n5_ := Aside0.mk (blk_below (g := gb374) (o := .cells #[.int .i64 t369, .slice Ao21 t370.length co21] 24 (0, 0)) (by (with_reducible repeat (fail)); exact BK374.out) hb)
         have n6_ := Aside0.mk (blk_below (g := gb380) (o := .cells #[.int .i64 t375, .slice Ao27 t376.length co27] 32 (0, 0)) (by (with_reducible repeat (fail)); exact BK380.out) hb)
         have n7_ := Aside0.mk (below_step (by repeat (first | (with_reducible first | exact HB.out ) )) hb)
         clear HO372
         clear HO378
         clear HO385
         clear HO390
         clear BK366
         clear BK374
         clear BK380
         clear HB
         have HO372 := n0_
         have HO378 := n1_
         have HO385 := n2_
         have HO390 := n3_
         have BK366 := n4_
         have BK374 := n5_
         have BK380 := n6_
         have HB := n7_
         clear n0_ n1_ n2_ n3_ n4_ n5_ n6_ n7_
         (try clear hb)
         (try clear hb2)
         (try clear hk)
         (try clear hi)
         refine hK.out _ _ ⟨(blk_cell BK366.out 0).trans rfl, (blk_cell BK366.out 1).trans rfl, (blk_cell BK374.out 0).trans rfl, (blk_cell BK374.out 1).trans rfl, (blk_cell BK380.out 0).trans rfl, (blk_cell BK380.out 1).trans rfl⟩ (fun hHeld => ?_)
         clear hK K
         refine norm_ (a' := ?_) ?_ ?_
         rotate_left
         ·show Act.put _ (some 40) _ = _
          simp only [Act.put, List.setIfInBounds_toArray, List.set_cons_zero, List.set_cons_succ, i64_w, i32_w]
          rfl
         refine pure_ (i := 11) (N := some 41) (v := ?_) (a' := ?_) #[true, true, true, true, true, true, true, true, true, true, true, true, false, false, false, false, false, false, false, false, false, false, false, false, false, false, false, false] rfl rfl (any_of HT_.out (by kernel_rfl)) (fun _ _ _ h => h) (Or.inl ⟨by rfl, ?_⟩) ?_ ?_
         rotate_left
         ·intro w'
          go_simp
          with_reducible rfl
         rotate_left
         ·simp only [Act.put, List.setIfInBounds_toArray, List.set_cons_zero, List.set_cons_succ, i64_w, i32_w]
          rfl
         refine pure_ (i := 12) (N := some 42) (v := ?_) (a' := ?_) #[true, true, true, true, true, true, true, true, true, true, true, true, true, false, false, false, false, false, false, false, false, false, false, false, false, false, false, false] rfl rfl (any_of HT_.out (by kernel_rfl)) (fun _ _ _ h => h) (Or.inl ⟨by rfl, ?_⟩) ?_ ?_
         rotate_left
         ·intro w'
          go_simp
          with_reducible rfl
         rotate_left
         ·simp only [Act.put, List.setIfInBounds_toArray, List.set_cons_zero, List.set_cons_succ, i64_w, i32_w]
          rfl
         refine pure_ (i := 13) (N := some 43) (v := ?_) (a' := ?_) #[true, true, true, true, true, true, true, true, true, true, true, true, true, true, false, false, false, false, false, false, false, false, false, false, false, false, false, false] rfl rfl (any_of HT_.out (by kernel_rfl)) (fun _ _ _ h => h) (Or.inl ⟨by rfl, ?_⟩) ?_ ?_
         rotate_left
         ·intro w'
          go_simp
          with_reducible rfl
         rotate_left
         ·simp only [Act.put, List.setIfInBounds_toArray, List.set_cons_zero, List.set_cons_succ, i64_w, i32_w]
          rfl
         refine pure_ (i := 14) (N := some 44) (v := ?_) (a' := ?_) #[true, true, true, true, true, true, true, true, true, true, true, true, true, true, true, false, false, false, false, false, false, false, false, false, false, false, false, false] rfl rfl (any_of HT_.out (by kernel_rfl)) (fun _ _ _ h => h) (Or.inl ⟨by rfl, ?_⟩) ?_ ?_
         rotate_left
         ·intro w'
          go_simp
          with_reducible rfl
         rotate_left
         ·simp only [Act.put, List.setIfInBounds_toArray, List.set_cons_zero, List.set_cons_succ, i64_w, i32_w]
          rfl
         refine pure_ (i := 15) (N := some 45) (v := ?_) (a' := ?_) #[true, true, true, true, true, true, true, true, true, true, true, true, true, true, true, true, false, false, false, false, false, false, false, false, false, false, false, false] rfl rfl (any_of HT_.out (by kernel_rfl)) (fun _ _ _ h => h) (Or.inl ⟨by rfl, ?_⟩) ?_ ?_
         rotate_left
         ·intro w'
          go_simp
          with_reducible rfl
         rotate_left
         ·simp only [Act.put, List.setIfInBounds_toArray, List.set_cons_zero, List.set_cons_succ, i64_w, i32_w]
          rfl
         refine pure_ (i := 16) (N := some 46) (v := ?_) (a' := ?_) #[true, true, true, true, true, true, true, true, true, true, true, true, true, true, true, true, true, false, false, false, false, false, false, false, false, false, false, false] rfl rfl (any_of HT_.out (by kernel_rfl)) (fun _ _ _ h => h) (Or.inl ⟨by rfl, ?_⟩) ?_ ?_
         rotate_left
         ·intro w'
          go_simp
          with_reducible rfl
         rotate_left
         ·simp only [Act.put, List.setIfInBounds_toArray, List.set_cons_zero, List.set_cons_succ, i64_w, i32_w]
          rfl
         refine pure_ (i := 17) (N := some 47) (v := ?_) (a' := ?_) #[true, true, true, true, true, true, true, true, true, true, true, true, true, true, true, true, true, true, false, false, false, false, false, false, false, false, false, false] rfl rfl (any_of HT_.out (by kernel_rfl)) (fun _ _ _ h => h) (Or.inl ⟨by rfl, ?_⟩) ?_ ?_
         rotate_left
         ·intro w'
          go_simp
          with_reducible rfl
         rotate_left
         ·simp only [Act.put, List.setIfInBounds_toArray, List.set_cons_zero, List.set_cons_succ, i64_w, i32_w]
          rfl
         refine pure_ (i := 18) (N := some 48) (v := ?_) (a' := ?_) #[true, true, true, true, true, true, true, true, true, true, true, true, true, true, true, true, true, true, true, false, false, false, false, false, false, false, false, false] rfl rfl (any_of HT_.out (by kernel_rfl)) (fun _ _ _ h => h) (Or.inl ⟨by rfl, ?_⟩) ?_ ?_
         rotate_left
         ·intro w'
          go_simp
          with_reducible rfl
         rotate_left
         ·simp only [Act.put, List.setIfInBounds_toArray, List.set_cons_zero, List.set_cons_succ, i64_w, i32_w]
          rfl
         refine pure_ (i := 19) (N := some 49) (v := ?_) (a' := ?_) #[true, true, true, true, true, true, true, true, true, true, true, true, true, true, true, true, true, true, true, true, false, false, false, false, false, false, false, false] rfl rfl (any_of HT_.out (by kernel_rfl)) (fun _ _ _ h => h) (Or.inl ⟨by rfl, ?_⟩) ?_ ?_
         rotate_left
         ·intro w'
          go_simp
          with_reducible rfl
         rotate_left
         ·simp only [Act.put, List.setIfInBounds_toArray, List.set_cons_zero, List.set_cons_succ, i64_w, i32_w]
          rfl
         refine pure_ (i := 20) (N := some 50) (v := ?_) (a' := ?_) #[true, true, true, true, true, true, true, true, true, true, true, true, true, true, true, true, true, true, true, true, true, false, false, false, false, false, false, false] rfl rfl (any_of HT_.out (by kernel_rfl)) (fun _ _ _ h => h) (Or.inl ⟨by rfl, ?_⟩) ?_ ?_
         rotate_left
         ·intro w'
          go_simp
          with_reducible rfl
         rotate_left
         ·simp only [Act.put, List.setIfInBounds_toArray, List.set_cons_zero, List.set_cons_succ, i64_w, i32_w]
          rfl
         refine pure_ (i := 21) (N := some 51) (v := ?_) (a' := ?_) #[true, true, true, true, true, true, true, true, true, true, true, true, true, true, true, true, true, true, true, true, true, true, false, false, false, false, false, false] rfl rfl (any_of HT_.out (by kernel_rfl)) (fun _ _ _ h => h) (Or.inl ⟨by rfl, ?_⟩) ?_ ?_
         rotate_left
         ·intro w'
          go_simp
          with_reducible rfl
         rotate_left
         ·simp only [Act.put, List.setIfInBounds_toArray, List.set_cons_zero, List.set_cons_succ, i64_w, i32_w]
          rfl
         refine pure_ (i := 24) (N := some 54) (v := ?_) (a' := ?_) #[true, true, true, true, true, true, true, true, true, true, true, true, true, true, true, true, true, true, true, true, true, true, false, false, true, false, false, false] rfl rfl (any_of HT_.out (by kernel_rfl)) (fun _ _ _ h => h) (Or.inl ⟨by rfl, ?_⟩) ?_ ?_
         rotate_left
         ·intro w'
          go_simp
          with_reducible rfl
         rotate_left
         ·simp only [Act.put, List.setIfInBounds_toArray, List.set_cons_zero, List.set_cons_succ, i64_w, i32_w]
          rfl
         refine take_ (i := 22) (N := some 52) (v := ?_) (a' := ?_) #[true, true, true, true, true, true, true, true, true, true, true, true, true, true, true, true, true, true, true, true, true, true, true, false, true, false, false, false] rfl rfl (take_ofW HT_.out HW_.out (by kernel_rfl)) (fun _ _ _ h => h) (Or.inl ⟨by rfl, ?_⟩) hHeld ?_ ?_
         rotate_left
         ·rintro w' ⟨s0, s1, s2, s3, s4, s5⟩
          go_simp
          with_reducible rfl
         rotate_left
         ·simp only [Act.put, List.setIfInBounds_toArray, List.set_cons_zero, List.set_cons_succ, i64_w, i32_w]
          rfl
         refine one_ (i := 23) (N := some 53) #[true, true, true, true, true, true, true, true, true, true, true, true, true, true, true, true, true, true, true, true, true, true, true, true, true, false, false, false] rfl rfl (one_of HT_.out (by kernel_rfl)) (by decide) (fun K hK => ?_)
         refine goes_ Try.func28 (by kernel_rfl) rfl #[.agg #[.int .i64 t369, .slice Ao21 t370.length co21]] (by rfl) rfl rfl (by (try simp only [List.map_toArray, List.map_cons, List.map_nil]); first | rfl ) ?_
         with_reducible refine (view_Text.calls kj2 t369 _ _ t370 t392 _ ?side1 ?side2 A37.out).mono ?_
         (case side1 => repeat (first | exact (Kd.R_reads' HO372.out).2.2 ))
         (case side2 => exact (Kd.R_reads' HO372.out).2.1)
         rintro e w47 ⟨rfl, hb⟩
         refine ⟨_, rfl, ?_⟩
         have n0_ := Aside0.mk (Kd.R_below (by (with_reducible repeat (fail)); exact HO372.out) hb)
         have n1_ := Aside0.mk (Kd.R_below (by (with_reducible repeat (fail)); exact HO378.out) hb)
         have n2_ := Aside0.mk (Kd.R_below (by (with_reducible repeat (fail)); exact HO385.out) hb)
         have n3_ := Aside0.mk (Kd.R_below (by (with_reducible repeat (fail)); exact HO390.out) hb)
         have n4_ := Aside0.mk (blk_below (g := gb366) (o := .cells #[.int .i64 a0_0, .slice A0_1 l0_1.length c0_1] 24 (0, 0)) (by (with_reducible repeat (fail)); exact BK366.out) hb)
         have n5_ := Aside0.mk (blk_below (g := gb374) (o := .cells #[.int .i64 t369, .slice Ao21 t370.length co21] 24 (0, 0)) (by (with_reducible repeat (fail)); exact BK374.out) hb)
         have n6_ := Aside0.mk (blk_below (g := gb380) (o := .cells #[.int .i64 t375, .slice Ao27 t376.length co27] 32 (0, 0)) (by (with_reducible repeat (fail)); exact BK380.out) hb)
         have n7_ := Aside0.mk (below_step (by repeat (first | (with_reducible first | exact HB.out ) )) hb)
         clear HO372
         clear HO378
         clear HO385
         clear HO390
         clear BK366
         clear BK374
         clear BK380
         clear HB
         have HO372 := n0_
         have HO378 := n1_
         have HO385 := n2_
         have HO390 := n3_
         have BK366 := n4_
         have BK374 := n5_
         have BK380 := n6_
         have HB := n7_
         clear n0_ n1_ n2_ n3_ n4_ n5_ n6_ n7_
         (try clear hb)
         (try clear hb2)
         (try clear hk)
         (try clear hi)
         refine hK.out _ _ ⟨(blk_cell BK366.out 0).trans rfl, (blk_cell BK366.out 1).trans rfl, (blk_cell BK374.out 0).trans rfl, (blk_cell BK374.out 1).trans rfl, (blk_cell BK380.out 0).trans rfl, (blk_cell BK380.out 1).trans rfl⟩ (fun hHeld => ?_)
         clear hK K
         refine norm_ (a' := ?_) ?_ ?_
         rotate_left
         ·show Act.put _ (some 53) _ = _
          simp only [Act.put, List.setIfInBounds_toArray, List.set_cons_zero, List.set_cons_succ, i64_w, i32_w]
          rfl
         refine pure_ (i := 25) (N := some 55) (v := ?_) (a' := ?_) #[true, true, true, true, true, true, true, true, true, true, true, true, true, true, true, true, true, true, true, true, true, true, true, true, true, true, false, false] rfl rfl (any_of HT_.out (by kernel_rfl)) (fun _ _ _ h => h) (Or.inl ⟨by rfl, ?_⟩) ?_ ?_
         rotate_left
         ·intro w'
          go_simp
          with_reducible rfl
         rotate_left
         ·simp only [Act.put, List.setIfInBounds_toArray, List.set_cons_zero, List.set_cons_succ, i64_w, i32_w]
          rfl
         refine pure_ (i := 26) (N := some 56) (v := ?_) (a' := ?_) #[true, true, true, true, true, true, true, true, true, true, true, true, true, true, true, true, true, true, true, true, true, true, true, true, true, true, true, false] rfl rfl (any_of HT_.out (by kernel_rfl)) (fun _ _ _ h => h) (Or.inl ⟨by rfl, ?_⟩) ?_ ?_
         rotate_left
         ·intro w'
          go_simp
          with_reducible rfl
         rotate_left
         ·simp only [Act.put, List.setIfInBounds_toArray, List.set_cons_zero, List.set_cons_succ, i64_w, i32_w]
          rfl
         refine pure_ (i := 27) (N := some 57) (v := ?_) (a' := ?_) #[true, true, true, true, true, true, true, true, true, true, true, true, true, true, true, true, true, true, true, true, true, true, true, true, true, true, true, true] rfl rfl (any_of HT_.out (by kernel_rfl)) (fun _ _ _ h => h) (Or.inl ⟨by rfl, ?_⟩) ?_ ?_
         rotate_left
         ·intro w'
          go_simp
          with_reducible rfl
         rotate_left
         ·simp only [Act.put, List.setIfInBounds_toArray, List.set_cons_zero, List.set_cons_succ, i64_w, i32_w]
          rfl
         refine done_ (done_of HT_.out (by kernel_rfl)) ?_
         try go_wp2
         go_meet
         case rel => exact ⟨_, ((t392.toList != a1.toList)), (by first | rfl ), H', ⟨by have := HJ2.out; first | omega ⟩, ⟨by (with_reducible repeat (fail)); exact HO372.out⟩, ⟨by (with_reducible repeat (fail)); exact Kd.R_mono HO378.out (fun _ hk => trivial)⟩, ⟨by (with_reducible repeat (fail)); exact BK366.out⟩, ⟨by (with_reducible repeat (fail)); exact BK374.out⟩, ⟨by (with_reducible repeat (fail)); exact BK380.out⟩, ⟨by repeat (first | (with_reducible first | exact HB.out ) )⟩⟩
        ·rw [if_neg c36] at H
         have c36b0 : (t373 == 0) = false := beq_eq_false_iff_ne.mpr c36
         have c36b1 : (t373 != 0) = true := bne_iff_ne.mpr c36
         have H' := Aside0.mk H
         clear H
         try go_wp2
         have n0_ : Aside0 (Kd.R k53 53 ((w23.setCell ⟨gb380, 0, none⟩ (.int .i64 t375)).setCell ⟨gb380, 1, none⟩ (.slice Ao27 t376.length co27)) w.heap.size (fun _ => True) (.slice Ao21 t370.length co21) t370) := ⟨by (with_reducible repeat (fail)); exact Kd.R_mono (Kd.R_far (p := ⟨gb380, 1, none⟩) (Kd.R_far (p := ⟨gb380, 0, none⟩) (Kd.R_types HO372.out BK380.out (by decide)) (fun _ hk => hk.2) (.int .i64 t375)) (fun _ hk => hk.2) (.slice Ao27 t376.length co27)) (fun _ hk => trivial)⟩
         have n1_ : Aside0 (Kd.R k62 62 ((w23.setCell ⟨gb380, 0, none⟩ (.int .i64 t375)).setCell ⟨gb380, 1, none⟩ (.slice Ao27 t376.length co27)) w.heap.size (fun _ => True) (.slice Ao27 t376.length co27) t376) := ⟨by (with_reducible repeat (fail)); exact Kd.R_mono (Kd.R_far (p := ⟨gb380, 1, none⟩) (Kd.R_far (p := ⟨gb380, 0, none⟩) (Kd.R_types HO378.out BK380.out (by decide)) (fun _ hk => hk.2) (.int .i64 t375)) (fun _ hk => hk.2) (.slice Ao27 t376.length co27)) (fun _ hk => trivial)⟩
         have n2_ : Aside0 (((w23.setCell ⟨gb380, 0, none⟩ (.int .i64 t375)).setCell ⟨gb380, 1, none⟩ (.slice Ao27 t376.length co27)).heap[gb366]? = some (.cells #[.int .i64 a0_0, .slice A0_1 l0_1.length c0_1] 24 (0, 0))) := ⟨by (with_reducible repeat (fail)); refine blk_far ?_ NB366_380.out _; (with_reducible repeat (fail)); refine blk_far ?_ NB366_380.out _; (with_reducible repeat (fail)); exact BK366.out⟩
         have n3_ : Aside0 (((w23.setCell ⟨gb380, 0, none⟩ (.int .i64 t375)).setCell ⟨gb380, 1, none⟩ (.slice Ao27 t376.length co27)).heap[gb374]? = some (.cells #[.int .i64 t369, .slice Ao21 t370.length co21] 24 (0, 0))) := ⟨by (with_reducible repeat (fail)); refine blk_far ?_ NB374_380.out _; (with_reducible repeat (fail)); refine blk_far ?_ NB374_380.out _; (with_reducible repeat (fail)); exact BK374.out⟩
         have n4_ : Aside0 (((w23.setCell ⟨gb380, 0, none⟩ (.int .i64 t375)).setCell ⟨gb380, 1, none⟩ (.slice Ao27 t376.length co27)).heap[gb380]? = some (.cells #[.int .i64 t375, .slice Ao27 t376.length co27] 32 (0, 0))) := ⟨by (with_reducible repeat (fail)); refine blk_put (cs := #[.int .i64 t375, .slice none 0 0]) ?_ 1 _ rfl; (with_reducible repeat (fail)); refine blk_put (cs := #[.int .i64 0, .slice none 0 0]) ?_ 0 _ rfl; (with_reducible repeat (fail)); exact BK380.out⟩
         have n5_ : Aside0 (Below w.heap.size w ((w23.setCell ⟨gb380, 0, none⟩ (.int .i64 t375)).setCell ⟨gb380, 1, none⟩ (.slice Ao27 t376.length co27))) := ⟨by repeat (first | (with_reducible first | exact HB.out | refine below_set ?_ GE380.out) )⟩
         (try clear HO372)
         (try clear HO378)
         (try clear BK366)
         (try clear BK374)
         (try clear BK380)
         (try clear HB)
         generalize ((w23.setCell ⟨gb380, 0, none⟩ (.int .i64 t375)).setCell ⟨gb380, 1, none⟩ (.slice Ao27 t376.length co27)) = w48 at n0_ n1_ n2_ n3_ n4_ n5_ ⊢
         have HO372 := n0_
         have HO378 := n1_
         have BK366 := n2_
         have BK374 := n3_
         have BK380 := n4_
         have HB := n5_
         clear n0_ n1_ n2_ n3_ n4_ n5_
         have n0_ := Aside0.mk (Kd.R_drew HO372.out)
         have n1_ := Aside0.mk (Kd.R_drew HO378.out)
         have n2_ := Aside0.mk (blk_drew BK366.out)
         have n3_ := Aside0.mk (blk_drew BK374.out)
         have n4_ := Aside0.mk (blk_drew BK380.out)
         have n5_ := Aside0.mk (below_drew1 HB.out)
         clear HO372
         clear HO378
         clear BK366
         clear BK374
         clear BK380
         clear HB
         have HO372 := n0_
         have HO378 := n1_
         have BK366 := n2_
         have BK374 := n3_
         have BK380 := n4_
         have HB := n5_
         clear n0_ n1_ n2_ n3_ n4_ n5_
         refine start_ (n := 28) (S := fun w' => w'.cell? ⟨gb366, 0, none⟩ = some (.int .i64 a0_0) ∧ w'.cell? ⟨gb366, 1, none⟩ = some (.slice A0_1 l0_1.length c0_1) ∧ w'.cell? ⟨gb374, 0, none⟩ = some (.int .i64 t369) ∧ w'.cell? ⟨gb374, 1, none⟩ = some (.slice Ao21 t370.length co21) ∧ w'.cell? ⟨gb380, 0, none⟩ = some (.int .i64 t375) ∧ w'.cell? ⟨gb380, 1, none⟩ = some (.slice Ao27 t376.length co27)) (ds := []) #[false, false, false, false, false, false, false, false, false, false, false, false, false, false, false, false, false, false, false, false, false, false, false, false, false, false, false, false] (by kernel_rfl) rfl rfl ⟨(blk_cell BK366.out 0).trans rfl, (blk_cell BK366.out 1).trans rfl, (blk_cell BK374.out 0).trans rfl, (blk_cell BK374.out 1).trans rfl, (blk_cell BK380.out 0).trans rfl, (blk_cell BK380.out 1).trans rfl⟩ (fun hHeld => ?_); refine with_tabW caduceuslaw14_ViewReads.tab5 caduceuslaw14_ViewReads.bits5 (fun HT_ HW_ => ?_)
         generalize w48.drew = w49 at HO372 HO378 BK366 BK374 BK380 HB hHeld ⊢
         refine take_ (i := 0) (N := some 30) (v := ?_) (a' := ?_) #[true, false, false, false, false, false, false, false, false, false, false, false, false, false, false, false, false, false, false, false, false, false, false, false, false, false, false, false] rfl rfl (take_ofW HT_.out HW_.out (by kernel_rfl)) (fun _ _ _ h => h) (Or.inl ⟨by rfl, ?_⟩) hHeld ?_ ?_
         rotate_left
         ·rintro w' ⟨s0, s1, s2, s3, s4, s5⟩
          go_simp
          with_reducible rfl
         rotate_left
         ·simp only [Act.put, List.setIfInBounds_toArray, List.set_cons_zero, List.set_cons_succ, i64_w, i32_w]
          rfl
         refine take_ (i := 2) (N := some 32) (v := ?_) (a' := ?_) #[true, false, true, false, false, false, false, false, false, false, false, false, false, false, false, false, false, false, false, false, false, false, false, false, false, false, false, false] rfl rfl (take_ofW HT_.out HW_.out (by kernel_rfl)) (fun _ _ _ h => h) (Or.inl ⟨by rfl, ?_⟩) hHeld ?_ ?_
         rotate_left
         ·rintro w' ⟨s0, s1, s2, s3, s4, s5⟩
          go_simp
          with_reducible rfl
         rotate_left
         ·simp only [Act.put, List.setIfInBounds_toArray, List.set_cons_zero, List.set_cons_succ, i64_w, i32_w]
          rfl
         refine one_ (i := 1) (N := some 31) #[true, true, true, false, false, false, false, false, false, false, false, false, false, false, false, false, false, false, false, false, false, false, false, false, false, false, false, false] rfl rfl (one_of HT_.out (by kernel_rfl)) (by decide) (fun K hK => ?_)
         refine goes_ Try.func28 (by kernel_rfl) rfl #[.agg #[.int .i64 a0_0, .slice A0_1 l0_1.length c0_1]] (by rfl) rfl rfl (by (try simp only [List.map_toArray, List.map_cons, List.map_nil]); first | rfl ) ?_
         with_reducible refine (view_Text.calls kj2 a0_0 _ _ l0_1 t381 _ ?side1 ?side2 A28.out).mono ?_
         (case side1 => repeat (first | exact (Kd.C_below HR0_1.out HB.out) ))
         (case side2 => exact HC0_1.out)
         rintro e w50 ⟨rfl, hb⟩
         refine ⟨_, rfl, ?_⟩
         have n0_ := Aside0.mk (Kd.R_below (by (with_reducible repeat (fail)); exact HO372.out) hb)
         have n1_ := Aside0.mk (Kd.R_below (by (with_reducible repeat (fail)); exact HO378.out) hb)
         have n2_ := Aside0.mk (blk_below (g := gb366) (o := .cells #[.int .i64 a0_0, .slice A0_1 l0_1.length c0_1] 24 (0, 0)) (by (with_reducible repeat (fail)); exact BK366.out) hb)
         have n3_ := Aside0.mk (blk_below (g := gb374) (o := .cells #[.int .i64 t369, .slice Ao21 t370.length co21] 24 (0, 0)) (by (with_reducible repeat (fail)); exact BK374.out) hb)
         have n4_ := Aside0.mk (blk_below (g := gb380) (o := .cells #[.int .i64 t375, .slice Ao27 t376.length co27] 32 (0, 0)) (by (with_reducible repeat (fail)); exact BK380.out) hb)
         have n5_ := Aside0.mk (below_step (by repeat (first | (with_reducible first | exact HB.out ) )) hb)
         clear HO372
         clear HO378
         clear BK366
         clear BK374
         clear BK380
         clear HB
         have HO372 := n0_
         have HO378 := n1_
         have BK366 := n2_
         have BK374 := n3_
         have BK380 := n4_
         have HB := n5_
         clear n0_ n1_ n2_ n3_ n4_ n5_
         (try clear hb)
         (try clear hb2)
         (try clear hk)
         (try clear hi)
         refine hK.out _ _ ⟨(blk_cell BK366.out 0).trans rfl, (blk_cell BK366.out 1).trans rfl, (blk_cell BK374.out 0).trans rfl, (blk_cell BK374.out 1).trans rfl, (blk_cell BK380.out 0).trans rfl, (blk_cell BK380.out 1).trans rfl⟩ (fun hHeld => ?_)
         clear hK K
         refine norm_ (a' := ?_) ?_ ?_
         rotate_left
         ·show Act.put _ (some 31) _ = _
          simp only [Act.put, List.setIfInBounds_toArray, List.set_cons_zero, List.set_cons_succ, i64_w, i32_w]
          rfl
         refine one_ (i := 3) (N := some 33) #[true, true, true, true, false, false, false, false, false, false, false, false, false, false, false, false, false, false, false, false, false, false, false, false, false, false, false, false] rfl rfl (one_of HT_.out (by kernel_rfl)) (by decide) (fun K hK => ?_)
         refine goes_ Try.func11 (by kernel_rfl) rfl #[.agg #[.int .i64 a0_0, .slice A0_1 l0_1.length c0_1]] (by rfl) rfl rfl (by (try simp only [List.map_toArray, List.map_cons, List.map_nil]); first | rfl ) ?_
         with_reducible refine (caduceuslaw14_Ref.calls kj2 a0_0 _ _ l0_1 t382 t383 _ ?side1 ?side2 A29.out).mono ?_
         (case side1 => repeat (first | exact (Kd.C_below HR0_1.out HB.out) ))
         (case side2 => exact HC0_1.out)
         rintro e w51 ⟨v384, rfl, ho0, hb⟩
         refine ⟨_, rfl, ?_⟩
         have n0_ := Aside0.mk (Kd.R_below (by (with_reducible repeat (fail)); exact HO372.out) hb)
         have n1_ := Aside0.mk (Kd.R_elder' (by (with_reducible repeat (fail)); exact HO378.out) (Kd.R_base ho0) hb)
         have n2_ := Aside0.mk (Kd.R_lower (Kd.R_new' ho0 (Kd.R_lt (by (with_reducible repeat (fail)); exact HO378.out))) (below_size (by repeat (first | (with_reducible first | exact HB.out ) ))))
         have n3_ := Aside0.mk (blk_below (g := gb366) (o := .cells #[.int .i64 a0_0, .slice A0_1 l0_1.length c0_1] 24 (0, 0)) (by (with_reducible repeat (fail)); exact BK366.out) hb)
         have n4_ := Aside0.mk (blk_below (g := gb374) (o := .cells #[.int .i64 t369, .slice Ao21 t370.length co21] 24 (0, 0)) (by (with_reducible repeat (fail)); exact BK374.out) hb)
         have n5_ := Aside0.mk (blk_below (g := gb380) (o := .cells #[.int .i64 t375, .slice Ao27 t376.length co27] 32 (0, 0)) (by (with_reducible repeat (fail)); exact BK380.out) hb)
         have n6_ := Aside0.mk (below_step (by repeat (first | (with_reducible first | exact HB.out ) )) hb)
         clear HO372
         clear HO378
         clear BK366
         clear BK374
         clear BK380
         clear HB
         have HO372 := n0_
         have HO378 := n1_
         have HO385 := n2_
         have BK366 := n3_
         have BK374 := n4_
         have BK380 := n5_
         have HB := n6_
         clear n0_ n1_ n2_ n3_ n4_ n5_ n6_
         (try clear hb)
         (try clear hb2)
         (try clear hk)
         (try clear hi)
         (try clear ho0)
         obtain ⟨Ao52, co52, eo52⟩ := Kd.R_slice HO385.out
         (first | subst eo52 )
         refine hK.out _ _ ⟨(blk_cell BK366.out 0).trans rfl, (blk_cell BK366.out 1).trans rfl, (blk_cell BK374.out 0).trans rfl, (blk_cell BK374.out 1).trans rfl, (blk_cell BK380.out 0).trans rfl, (blk_cell BK380.out 1).trans rfl⟩ (fun hHeld => ?_)
         clear hK K
         refine norm_ (a' := ?_) ?_ ?_
         rotate_left
         ·show Act.put _ (some 33) _ = _
          simp only [Act.put, List.setIfInBounds_toArray, List.set_cons_zero, List.set_cons_succ, i64_w, i32_w]
          rfl
         refine one_ (i := 4) (N := some 34) #[true, true, true, true, true, false, false, false, false, false, false, false, false, false, false, false, false, false, false, false, false, false, false, false, false, false, false, false] rfl rfl (one_of HT_.out (by kernel_rfl)) (by decide) (fun K hK => ?_)
         refine goes_ Try.func29 (by kernel_rfl) rfl #[.agg #[.int .i64 t382, .slice Ao52 t383.length co52]] (by rfl) rfl rfl (by (try simp only [List.map_toArray, List.map_cons, List.map_nil]); first | rfl ) ?_
         with_reducible refine (caduceusref14_Text.calls kj2 t382 _ _ t383 t386 _ ?side1 ?side2 A30.out).mono ?_
         (case side1 => repeat (first | exact (Kd.R_reads' HO385.out).2.2 ))
         (case side2 => exact (Kd.R_reads' HO385.out).2.1)
         rintro e w53 ⟨rfl, hb⟩
         refine ⟨_, rfl, ?_⟩
         have n0_ := Aside0.mk (Kd.R_below (by (with_reducible repeat (fail)); exact HO372.out) hb)
         have n1_ := Aside0.mk (Kd.R_below (by (with_reducible repeat (fail)); exact HO378.out) hb)
         have n2_ := Aside0.mk (Kd.R_below (by (with_reducible repeat (fail)); exact HO385.out) hb)
         have n3_ := Aside0.mk (blk_below (g := gb366) (o := .cells #[.int .i64 a0_0, .slice A0_1 l0_1.length c0_1] 24 (0, 0)) (by (with_reducible repeat (fail)); exact BK366.out) hb)
         have n4_ := Aside0.mk (blk_below (g := gb374) (o := .cells #[.int .i64 t369, .slice Ao21 t370.length co21] 24 (0, 0)) (by (with_reducible repeat (fail)); exact BK374.out) hb)
         have n5_ := Aside0.mk (blk_below (g := gb380) (o := .cells #[.int .i64 t375, .slice Ao27 t376.length co27] 32 (0, 0)) (by (with_reducible repeat (fail)); exact BK380.out) hb)
         have n6_ := Aside0.mk (below_step (by repeat (first | (with_reducible first | exact HB.out ) )) hb)
         clear HO372
         clear HO378
         clear HO385
         clear BK366
         clear BK374
         clear BK380
         clear HB
         have HO372 := n0_
         have HO378 := n1_
         have HO385 := n2_
         have BK366 := n3_
         have BK374 := n4_
         have BK380 := n5_
         have HB := n6_
         clear n0_ n1_ n2_ n3_ n4_ n5_ n6_
         (try clear hb)
         (try clear hb2)
         (try clear hk)
         (try clear hi)
         refine hK.out _ _ ⟨(blk_cell BK366.out 0).trans rfl, (blk_cell BK366.out 1).trans rfl, (blk_cell BK374.out 0).trans rfl, (blk_cell BK374.out 1).trans rfl, (blk_cell BK380.out 0).trans rfl, (blk_cell BK380.out 1).trans rfl⟩ (fun hHeld => ?_)
         clear hK K
         refine norm_ (a' := ?_) ?_ ?_
         rotate_left
         ·show Act.put _ (some 34) _ = _
          simp only [Act.put, List.setIfInBounds_toArray, List.set_cons_zero, List.set_cons_succ, i64_w, i32_w]
          rfl
         refine pure_ (i := 5) (N := some 35) (v := ?_) (a' := ?_) #[true, true, true, true, true, true, false, false, false, false, false, false, false, false, false, false, false, false, false, false, false, false, false, false, false, false, false, false] rfl rfl (any_of HT_.out (by kernel_rfl)) (fun _ _ _ h => h) (Or.inl ⟨by rfl, ?_⟩) ?_ ?_
         rotate_left
         ·intro w'
          go_simp
          with_reducible rfl
         rotate_left
         ·simp only [Act.put, List.setIfInBounds_toArray, List.set_cons_zero, List.set_cons_succ, i64_w, i32_w]
          rfl
         refine pure_ (i := 6) (N := some 36) (v := ?_) (a' := ?_) #[true, true, true, true, true, true, true, false, false, false, false, false, false, false, false, false, false, false, false, false, false, false, false, false, false, false, false, false] rfl rfl (any_of HT_.out (by kernel_rfl)) (fun _ _ _ h => h) (Or.inl ⟨by rfl, ?_⟩) ?_ ?_
         rotate_left
         ·intro w'
          go_simp
          with_reducible rfl
         rotate_left
         ·simp only [Act.put, List.setIfInBounds_toArray, List.set_cons_zero, List.set_cons_succ, i64_w, i32_w]
          rfl
         refine take_ (i := 7) (N := some 37) (v := ?_) (a' := ?_) #[true, true, true, true, true, true, true, true, false, false, false, false, false, false, false, false, false, false, false, false, false, false, false, false, false, false, false, false] rfl rfl (take_ofW HT_.out HW_.out (by kernel_rfl)) (fun _ _ _ h => h) (Or.inl ⟨by rfl, ?_⟩) hHeld ?_ ?_
         rotate_left
         ·rintro w' ⟨s0, s1, s2, s3, s4, s5⟩
          go_simp
          with_reducible rfl
         rotate_left
         ·simp only [Act.put, List.setIfInBounds_toArray, List.set_cons_zero, List.set_cons_succ, i64_w, i32_w]
          rfl
         refine take_ (i := 9) (N := some 39) (v := ?_) (a' := ?_) #[true, true, true, true, true, true, true, true, false, true, false, false, false, false, false, false, false, false, false, false, false, false, false, false, false, false, false, false] rfl rfl (take_ofW HT_.out HW_.out (by kernel_rfl)) (fun _ _ _ h => h) (Or.inl ⟨by rfl, ?_⟩) hHeld ?_ ?_
         rotate_left
         ·rintro w' ⟨s0, s1, s2, s3, s4, s5⟩
          go_simp
          with_reducible rfl
         rotate_left
         ·simp only [Act.put, List.setIfInBounds_toArray, List.set_cons_zero, List.set_cons_succ, i64_w, i32_w]
          rfl
         refine one_ (i := 8) (N := some 38) #[true, true, true, true, true, true, true, true, true, true, false, false, false, false, false, false, false, false, false, false, false, false, false, false, false, false, false, false] rfl rfl (one_of HT_.out (by kernel_rfl)) (by decide) (fun K hK => ?_)
         refine goes_ Try.func11 (by kernel_rfl) rfl #[.agg #[.int .i64 t369, .slice Ao21 t370.length co21]] (by rfl) rfl rfl (by (try simp only [List.map_toArray, List.map_cons, List.map_nil]); first | rfl ) ?_
         with_reducible refine (caduceuslaw14_Ref.calls kj2 t369 _ _ t370 t387 t388 _ ?side1 ?side2 A32.out).mono ?_
         (case side1 => repeat (first | exact (Kd.R_reads' HO372.out).2.2 ))
         (case side2 => exact (Kd.R_reads' HO372.out).2.1)
         rintro e w54 ⟨v389, rfl, ho0, hb⟩
         refine ⟨_, rfl, ?_⟩
         have n0_ := Aside0.mk (Kd.R_below (by (with_reducible repeat (fail)); exact HO372.out) hb)
         have n1_ := Aside0.mk (Kd.R_elder' (by (with_reducible repeat (fail)); exact HO378.out) (Kd.R_base ho0) hb)
         have n2_ := Aside0.mk (Kd.R_elder' (by (with_reducible repeat (fail)); exact HO385.out) (Kd.R_base ho0) hb)
         have n3_ := Aside0.mk (Kd.R_lower (Kd.R_new' (Kd.R_new' ho0 (Kd.R_lt (by (with_reducible repeat (fail)); exact HO378.out))) (Kd.R_lt (by (with_reducible repeat (fail)); exact HO385.out))) (below_size (by repeat (first | (with_reducible first | exact HB.out ) ))))
         have n4_ := Aside0.mk (blk_below (g := gb366) (o := .cells #[.int .i64 a0_0, .slice A0_1 l0_1.length c0_1] 24 (0, 0)) (by (with_reducible repeat (fail)); exact BK366.out) hb)
         have n5_ := Aside0.mk (blk_below (g := gb374) (o := .cells #[.int .i64 t369, .slice Ao21 t370.length co21] 24 (0, 0)) (by (with_reducible repeat (fail)); exact BK374.out) hb)
         have n6_ := Aside0.mk (blk_below (g := gb380) (o := .cells #[.int .i64 t375, .slice Ao27 t376.length co27] 32 (0, 0)) (by (with_reducible repeat (fail)); exact BK380.out) hb)
         have n7_ := Aside0.mk (below_step (by repeat (first | (with_reducible first | exact HB.out ) )) hb)
         clear HO372
         clear HO378
         clear HO385
         clear BK366
         clear BK374
         clear BK380
         clear HB
         have HO372 := n0_
         have HO378 := n1_
         have HO385 := n2_
         have HO390 := n3_
         have BK366 := n4_
         have BK374 := n5_
         have BK380 := n6_
         have HB := n7_
         clear n0_ n1_ n2_ n3_ n4_ n5_ n6_ n7_
         (try clear hb)
         (try clear hb2)
         (try clear hk)
         (try clear hi)
         (try clear ho0)
         obtain ⟨Ao55, co55, eo55⟩ := Kd.R_slice HO390.out
         (first | subst eo55 )
         refine hK.out _ _ ⟨(blk_cell BK366.out 0).trans rfl, (blk_cell BK366.out 1).trans rfl, (blk_cell BK374.out 0).trans rfl, (blk_cell BK374.out 1).trans rfl, (blk_cell BK380.out 0).trans rfl, (blk_cell BK380.out 1).trans rfl⟩ (fun hHeld => ?_)
         clear hK K
         refine norm_ (a' := ?_) ?_ ?_
         rotate_left
         ·show Act.put _ (some 38) _ = _
          simp only [Act.put, List.setIfInBounds_toArray, List.set_cons_zero, List.set_cons_succ, i64_w, i32_w]
          rfl
         refine one_ (i := 10) (N := some 40) #[true, true, true, true, true, true, true, true, true, true, true, false, false, false, false, false, false, false, false, false, false, false, false, false, false, false, false, false] rfl rfl (one_of HT_.out (by kernel_rfl)) (by decide) (fun K hK => ?_)
         refine goes_ Try.func13 (by kernel_rfl) rfl #[.agg #[.int .i64 t387, .slice Ao55 t388.length co55], .agg #[.int .i64 t375, .slice Ao27 t376.length co27]] (by rfl) rfl rfl (by (try simp only [List.map_toArray, List.map_cons, List.map_nil]); first | rfl ) ?_
         with_reducible refine (caduceusref14_Same.calls kj2 t387 _ _ t388 t375 _ _ t376 true _ ?side1 ?side2 ?side3 ?side4 A33.out).mono ?_
         (case side1 => repeat (first | exact (Kd.R_reads' HO390.out).2.2 ))
         (case side2 => exact (Kd.R_reads' HO390.out).2.1)
         (case side3 => repeat (first | exact (Kd.R_reads' HO378.out).2.2 ))
         (case side4 => exact (Kd.R_reads' HO378.out).2.1)
         rintro e w56 ⟨rfl, hb⟩
         refine ⟨_, rfl, ?_⟩
         have n0_ := Aside0.mk (Kd.R_below (by (with_reducible repeat (fail)); exact HO372.out) hb)
         have n1_ := Aside0.mk (Kd.R_below (by (with_reducible repeat (fail)); exact HO378.out) hb)
         have n2_ := Aside0.mk (Kd.R_below (by (with_reducible repeat (fail)); exact HO385.out) hb)
         have n3_ := Aside0.mk (Kd.R_below (by (with_reducible repeat (fail)); exact HO390.out) hb)
         have n4_ := Aside0.mk (blk_below (g := gb366) (o := .cells #[.int .i64 a0_0, .slice A0_1 l0_1.length c0_1] 24 (0, 0)) (by (with_reducible repeat (fail)); exact BK366.out) hb)
         have n5_ := Aside0.mk (blk_below (g := gb374) (o := .cells #[.int .i64 t369, .slice Ao21 t370.length co21] 24 (0, 0)) (by (with_reducible repeat (fail)); exact BK374.out) hb)
         have n6_ := Aside0.mk (blk_below (g := gb380) (o := .cells #[.int .i64 t375, .slice Ao27 t376.length co27] 32 (0, 0)) (by (with_reducible repeat (fail)); exact BK380.out) hb)
         have n7_ := Aside0.mk (below_step (by repeat (first | (with_reducible first | exact HB.out ) )) hb)
         clear HO372
         clear HO378
         clear HO385
         clear HO390
         clear BK366
         clear BK374
         clear BK380
         clear HB
         have HO372 := n0_
         have HO378 := n1_
         have HO385 := n2_
         have HO390 := n3_
         have BK366 := n4_
         have BK374 := n5_
         have BK380 := n6_
         have HB := n7_
         clear n0_ n1_ n2_ n3_ n4_ n5_ n6_ n7_
         (try clear hb)
         (try clear hb2)
         (try clear hk)
         (try clear hi)
         refine hK.out _ _ ⟨(blk_cell BK366.out 0).trans rfl, (blk_cell BK366.out 1).trans rfl, (blk_cell BK374.out 0).trans rfl, (blk_cell BK374.out 1).trans rfl, (blk_cell BK380.out 0).trans rfl, (blk_cell BK380.out 1).trans rfl⟩ (fun hHeld => ?_)
         clear hK K
         refine norm_ (a' := ?_) ?_ ?_
         rotate_left
         ·show Act.put _ (some 40) _ = _
          simp only [Act.put, List.setIfInBounds_toArray, List.set_cons_zero, List.set_cons_succ, i64_w, i32_w]
          rfl
         refine pure_ (i := 11) (N := some 41) (v := ?_) (a' := ?_) #[true, true, true, true, true, true, true, true, true, true, true, true, false, false, false, false, false, false, false, false, false, false, false, false, false, false, false, false] rfl rfl (any_of HT_.out (by kernel_rfl)) (fun _ _ _ h => h) (Or.inl ⟨by rfl, ?_⟩) ?_ ?_
         rotate_left
         ·intro w'
          go_simp
          with_reducible rfl
         rotate_left
         ·simp only [Act.put, List.setIfInBounds_toArray, List.set_cons_zero, List.set_cons_succ, i64_w, i32_w]
          rfl
         refine pure_ (i := 12) (N := some 42) (v := ?_) (a' := ?_) #[true, true, true, true, true, true, true, true, true, true, true, true, true, false, false, false, false, false, false, false, false, false, false, false, false, false, false, false] rfl rfl (any_of HT_.out (by kernel_rfl)) (fun _ _ _ h => h) (Or.inl ⟨by rfl, ?_⟩) ?_ ?_
         rotate_left
         ·intro w'
          go_simp
          with_reducible rfl
         rotate_left
         ·simp only [Act.put, List.setIfInBounds_toArray, List.set_cons_zero, List.set_cons_succ, i64_w, i32_w]
          rfl
         refine pure_ (i := 13) (N := some 43) (v := ?_) (a' := ?_) #[true, true, true, true, true, true, true, true, true, true, true, true, true, true, false, false, false, false, false, false, false, false, false, false, false, false, false, false] rfl rfl (any_of HT_.out (by kernel_rfl)) (fun _ _ _ h => h) (Or.inl ⟨by rfl, ?_⟩) ?_ ?_
         rotate_left
         ·intro w'
          go_simp
          with_reducible rfl
         rotate_left
         ·simp only [Act.put, List.setIfInBounds_toArray, List.set_cons_zero, List.set_cons_succ, i64_w, i32_w]
          rfl
         refine pure_ (i := 14) (N := some 44) (v := ?_) (a' := ?_) #[true, true, true, true, true, true, true, true, true, true, true, true, true, true, true, false, false, false, false, false, false, false, false, false, false, false, false, false] rfl rfl (any_of HT_.out (by kernel_rfl)) (fun _ _ _ h => h) (Or.inl ⟨by rfl, ?_⟩) ?_ ?_
         rotate_left
         ·intro w'
          go_simp
          with_reducible rfl
         rotate_left
         ·simp only [Act.put, List.setIfInBounds_toArray, List.set_cons_zero, List.set_cons_succ, i64_w, i32_w]
          rfl
         refine pure_ (i := 15) (N := some 45) (v := ?_) (a' := ?_) #[true, true, true, true, true, true, true, true, true, true, true, true, true, true, true, true, false, false, false, false, false, false, false, false, false, false, false, false] rfl rfl (any_of HT_.out (by kernel_rfl)) (fun _ _ _ h => h) (Or.inl ⟨by rfl, ?_⟩) ?_ ?_
         rotate_left
         ·intro w'
          go_simp
          with_reducible rfl
         rotate_left
         ·simp only [Act.put, List.setIfInBounds_toArray, List.set_cons_zero, List.set_cons_succ, i64_w, i32_w]
          rfl
         refine pure_ (i := 16) (N := some 46) (v := ?_) (a' := ?_) #[true, true, true, true, true, true, true, true, true, true, true, true, true, true, true, true, true, false, false, false, false, false, false, false, false, false, false, false] rfl rfl (any_of HT_.out (by kernel_rfl)) (fun _ _ _ h => h) (Or.inl ⟨by rfl, ?_⟩) ?_ ?_
         rotate_left
         ·intro w'
          go_simp
          with_reducible rfl
         rotate_left
         ·simp only [Act.put, List.setIfInBounds_toArray, List.set_cons_zero, List.set_cons_succ, i64_w, i32_w]
          rfl
         refine pure_ (i := 17) (N := some 47) (v := ?_) (a' := ?_) #[true, true, true, true, true, true, true, true, true, true, true, true, true, true, true, true, true, true, false, false, false, false, false, false, false, false, false, false] rfl rfl (any_of HT_.out (by kernel_rfl)) (fun _ _ _ h => h) (Or.inl ⟨by rfl, ?_⟩) ?_ ?_
         rotate_left
         ·intro w'
          go_simp
          with_reducible rfl
         rotate_left
         ·simp only [Act.put, List.setIfInBounds_toArray, List.set_cons_zero, List.set_cons_succ, i64_w, i32_w]
          rfl
         refine pure_ (i := 18) (N := some 48) (v := ?_) (a' := ?_) #[true, true, true, true, true, true, true, true, true, true, true, true, true, true, true, true, true, true, true, false, false, false, false, false, false, false, false, false] rfl rfl (any_of HT_.out (by kernel_rfl)) (fun _ _ _ h => h) (Or.inl ⟨by rfl, ?_⟩) ?_ ?_
         rotate_left
         ·intro w'
          go_simp
          with_reducible rfl
         rotate_left
         ·simp only [Act.put, List.setIfInBounds_toArray, List.set_cons_zero, List.set_cons_succ, i64_w, i32_w]
          rfl
         refine pure_ (i := 19) (N := some 49) (v := ?_) (a' := ?_) #[true, true, true, true, true, true, true, true, true, true, true, true, true, true, true, true, true, true, true, true, false, false, false, false, false, false, false, false] rfl rfl (any_of HT_.out (by kernel_rfl)) (fun _ _ _ h => h) (Or.inl ⟨by rfl, ?_⟩) ?_ ?_
         rotate_left
         ·intro w'
          go_simp
          with_reducible rfl
         rotate_left
         ·simp only [Act.put, List.setIfInBounds_toArray, List.set_cons_zero, List.set_cons_succ, i64_w, i32_w]
          rfl
         refine pure_ (i := 20) (N := some 50) (v := ?_) (a' := ?_) #[true, true, true, true, true, true, true, true, true, true, true, true, true, true, true, true, true, true, true, true, true, false, false, false, false, false, false, false] rfl rfl (any_of HT_.out (by kernel_rfl)) (fun _ _ _ h => h) (Or.inl ⟨by rfl, ?_⟩) ?_ ?_
         rotate_left
         ·intro w'
          go_simp
          with_reducible rfl
         rotate_left
         ·simp only [Act.put, List.setIfInBounds_toArray, List.set_cons_zero, List.set_cons_succ, i64_w, i32_w]
          rfl
         refine pure_ (i := 21) (N := some 51) (v := ?_) (a' := ?_) #[true, true, true, true, true, true, true, true, true, true, true, true, true, true, true, true, true, true, true, true, true, true, false, false, false, false, false, false] rfl rfl (any_of HT_.out (by kernel_rfl)) (fun _ _ _ h => h) (Or.inl ⟨by rfl, ?_⟩) ?_ ?_
         rotate_left
         ·intro w'
          go_simp
          with_reducible rfl
         rotate_left
         ·simp only [Act.put, List.setIfInBounds_toArray, List.set_cons_zero, List.set_cons_succ, i64_w, i32_w]
          rfl
         refine pure_ (i := 22) (N := some 52) (v := undef) (a' := ?_) #[true, true, true, true, true, true, true, true, true, true, true, true, true, true, true, true, true, true, true, true, true, true, true, false, false, false, false, false] rfl rfl (any_of HT_.out (by kernel_rfl)) (fun _ _ _ h => h) (Or.inr ⟨by rfl, rfl⟩) ?_ ?_
         rotate_left
         ·simp only [Act.put, List.setIfInBounds_toArray, List.set_cons_zero, List.set_cons_succ, i64_w, i32_w]
          rfl
         refine pure_ (i := 23) (N := some 53) (v := undef) (a' := ?_) #[true, true, true, true, true, true, true, true, true, true, true, true, true, true, true, true, true, true, true, true, true, true, true, true, false, false, false, false] rfl rfl (any_of HT_.out (by kernel_rfl)) (fun _ _ _ h => h) (Or.inr ⟨by rfl, rfl⟩) ?_ ?_
         rotate_left
         ·simp only [Act.put, List.setIfInBounds_toArray, List.set_cons_zero, List.set_cons_succ, i64_w, i32_w]
          rfl
         refine pure_ (i := 24) (N := some 54) (v := undef) (a' := ?_) #[true, true, true, true, true, true, true, true, true, true, true, true, true, true, true, true, true, true, true, true, true, true, true, true, true, false, false, false] rfl rfl (any_of HT_.out (by kernel_rfl)) (fun _ _ _ h => h) (Or.inr ⟨by rfl, rfl⟩) ?_ ?_
         rotate_left
         ·simp only [Act.put, List.setIfInBounds_toArray, List.set_cons_zero, List.set_cons_succ, i64_w, i32_w]
          rfl
         refine pure_ (i := 25) (N := some 55) (v := undef) (a' := ?_) #[true, true, true, true, true, true, true, true, true, true, true, true, true, true, true, true, true, true, true, true, true, true, true, true, true, true, false, false] rfl rfl (any_of HT_.out (by kernel_rfl)) (fun _ _ _ h => h) (Or.inr ⟨by rfl, rfl⟩) ?_ ?_
         rotate_left
         ·simp only [Act.put, List.setIfInBounds_toArray, List.set_cons_zero, List.set_cons_succ, i64_w, i32_w]
          rfl
         refine pure_ (i := 26) (N := some 56) (v := ?_) (a' := ?_) #[true, true, true, true, true, true, true, true, true, true, true, true, true, true, true, true, true, true, true, true, true, true, true, true, true, true, true, false] rfl rfl (any_of HT_.out (by kernel_rfl)) (fun _ _ _ h => h) (Or.inl ⟨by rfl, ?_⟩) ?_ ?_
         rotate_left
         ·intro w'
          go_simp
          with_reducible rfl
         rotate_left
         ·simp only [Act.put, List.setIfInBounds_toArray, List.set_cons_zero, List.set_cons_succ, i64_w, i32_w]
          rfl
         refine pure_ (i := 27) (N := some 57) (v := ?_) (a' := ?_) #[true, true, true, true, true, true, true, true, true, true, true, true, true, true, true, true, true, true, true, true, true, true, true, true, true, true, true, true] rfl rfl (any_of HT_.out (by kernel_rfl)) (fun _ _ _ h => h) (Or.inl ⟨by rfl, ?_⟩) ?_ ?_
         rotate_left
         ·intro w'
          go_simp
          with_reducible rfl
         rotate_left
         ·simp only [Act.put, List.setIfInBounds_toArray, List.set_cons_zero, List.set_cons_succ, i64_w, i32_w]
          rfl
         refine done_ (done_of HT_.out (by kernel_rfl)) ?_
         try go_wp2
         go_meet
         case rel => exact ⟨_, (false), (by first | rfl ), H', ⟨by have := HJ2.out; first | omega ⟩, ⟨by (with_reducible repeat (fail)); exact HO372.out⟩, ⟨by (with_reducible repeat (fail)); exact Kd.R_mono HO378.out (fun _ hk => trivial)⟩, ⟨by (with_reducible repeat (fail)); exact BK366.out⟩, ⟨by (with_reducible repeat (fail)); exact BK374.out⟩, ⟨by (with_reducible repeat (fail)); exact BK380.out⟩, ⟨by repeat (first | (with_reducible first | exact HB.out ) )⟩⟩
       ·rw [if_neg c35] at H
        cases H
      ·replace c34 := Bool.eq_false_iff.mpr c34
       subst c34
       have H1 : (none : Option _) = some r := by rw [if_neg (show ¬ (false = true) by decide)] at H; exact H
       cases H1
     ·rw [if_neg c31] at H
      cases H
    case rest =>
     clear HC16
     try clear c1
     try clear c2
     try clear p2
     try clear c3
     try clear c11
     try clear c13
     try clear c28
     try clear c29
     try clear c31
     try clear c31b0
     try clear c31b1
     obtain ⟨kq, x57_15, rfl, HA, HJ15, HO_375001, HO_381001, BK366, BK374, BK380, HB⟩ := hcut
     cases kq with
     | zero => exact absurd HA.out (by simp [caduceuslaw14_ViewReads.j1])
     | succ kj15 =>
      have H := HA.out
      clear HA
      simp only [caduceuslaw14_ViewReads.j1] at H
      by_cases c81 : x57_15 = true
      ·subst c81
       have H1 : (none : Option _) = some r := by rw [if_pos rfl] at H; exact H
       cases H1
      ·replace c81 := Bool.eq_false_iff.mpr c81
       subst c81
       have H1 : ((view_Text.f kj15 a0_0 l0_1).bind fun t393 => ((view_Read.f kj15 t393).bind fun bt394 => ((caduceuslaw14_awake.f kj15).bind fun t400 => (if t400 = true then ((view_Check.f kj15 a0_0 l0_1).bind fun t401 => (if t401 = true then (if bt394.2.2 = 0 then ((caduceuslaw14_Ref.f kj15 bt394.1 bt394.2.1).bind fun bt402 => ((caduceuslaw14_Ref.f kj15 a0_0 l0_1).bind fun bt406 => ((caduceusref14_Same.f kj15 bt402.1 bt402.2 bt406.1 bt406.2).bind fun t410 => (some t410)))) else none) else (if bt394.2.2 = 3 then (some true) else none))) else none)))) = some r := by rw [if_neg (show ¬ (false = true) by decide)] at H; exact H
       clear H
       have H := H1
       clear H1
       replace H := Option.bind_eq_some_iff.mp H
       obtain ⟨t393, A820, H⟩ := H
       replace H : ((view_Read.f kj15 t393).bind fun bt394 => ((caduceuslaw14_awake.f kj15).bind fun t400 => (if t400 = true then ((view_Check.f kj15 a0_0 l0_1).bind fun t401 => (if t401 = true then (if bt394.2.2 = 0 then ((caduceuslaw14_Ref.f kj15 bt394.1 bt394.2.1).bind fun bt402 => ((caduceuslaw14_Ref.f kj15 a0_0 l0_1).bind fun bt406 => ((caduceusref14_Same.f kj15 bt402.1 bt402.2 bt406.1 bt406.2).bind fun t410 => (some t410)))) else none) else (if bt394.2.2 = 3 then (some true) else none))) else none))) = some r := H
       have A82 := Aside0.mk A820
       clear A820
       replace H := Option.bind_eq_some_iff.mp H
       obtain ⟨⟨t394, t395, t398⟩, A830, H⟩ := H
       replace H : ((caduceuslaw14_awake.f kj15).bind fun t400 => (if t400 = true then ((view_Check.f kj15 a0_0 l0_1).bind fun t401 => (if t401 = true then (if t398 = 0 then ((caduceuslaw14_Ref.f kj15 t394 t395).bind fun bt402 => ((caduceuslaw14_Ref.f kj15 a0_0 l0_1).bind fun bt406 => ((caduceusref14_Same.f kj15 bt402.1 bt402.2 bt406.1 bt406.2).bind fun t410 => (some t410)))) else none) else (if t398 = 3 then (some true) else none))) else none)) = some r := H
       have A83 := Aside0.mk A830
       clear A830
       replace H := Option.bind_eq_some_iff.mp H
       obtain ⟨t400, A840, H⟩ := H
       replace H : (if t400 = true then ((view_Check.f kj15 a0_0 l0_1).bind fun t401 => (if t401 = true then (if t398 = 0 then ((caduceuslaw14_Ref.f kj15 t394 t395).bind fun bt402 => ((caduceuslaw14_Ref.f kj15 a0_0 l0_1).bind fun bt406 => ((caduceusref14_Same.f kj15 bt402.1 bt402.2 bt406.1 bt406.2).bind fun t410 => (some t410)))) else none) else (if t398 = 3 then (some true) else none))) else none) = some r := H
       have A84 := Aside0.mk A840
       clear A840
       by_cases c85 : t400 = true
       ·subst c85
        have H1 : ((view_Check.f kj15 a0_0 l0_1).bind fun t401 => (if t401 = true then (if t398 = 0 then ((caduceuslaw14_Ref.f kj15 t394 t395).bind fun bt402 => ((caduceuslaw14_Ref.f kj15 a0_0 l0_1).bind fun bt406 => ((caduceusref14_Same.f kj15 bt402.1 bt402.2 bt406.1 bt406.2).bind fun t410 => (some t410)))) else none) else (if t398 = 3 then (some true) else none))) = some r := by rw [if_pos rfl] at H; exact H
        clear H
        have H := H1
        clear H1
        replace H := Option.bind_eq_some_iff.mp H
        obtain ⟨t401, A860, H⟩ := H
        replace H : (if t401 = true then (if t398 = 0 then ((caduceuslaw14_Ref.f kj15 t394 t395).bind fun bt402 => ((caduceuslaw14_Ref.f kj15 a0_0 l0_1).bind fun bt406 => ((caduceusref14_Same.f kj15 bt402.1 bt402.2 bt406.1 bt406.2).bind fun t410 => (some t410)))) else none) else (if t398 = 3 then (some true) else none)) = some r := H
        have A86 := Aside0.mk A860
        clear A860
        by_cases c87 : t401 = true
        ·subst c87
         have H1 : (if t398 = 0 then ((caduceuslaw14_Ref.f kj15 t394 t395).bind fun bt402 => ((caduceuslaw14_Ref.f kj15 a0_0 l0_1).bind fun bt406 => ((caduceusref14_Same.f kj15 bt402.1 bt402.2 bt406.1 bt406.2).bind fun t410 => (some t410)))) else none) = some r := by rw [if_pos rfl] at H; exact H
         clear H
         have H := H1
         clear H1
         by_cases c88 : t398 = 0
         ·rw [if_pos c88] at H
          have c88b0 : (t398 == 0) = true := beq_iff_eq.mpr c88
          have c88b1 : (t398 != 0) = false := bne_eq_false_iff_eq.mpr c88
          clear c88
          replace H := Option.bind_eq_some_iff.mp H
          obtain ⟨⟨t402, t403⟩, A890, H⟩ := H
          replace H : ((caduceuslaw14_Ref.f kj15 a0_0 l0_1).bind fun bt406 => ((caduceusref14_Same.f kj15 t402 t403 bt406.1 bt406.2).bind fun t410 => (some t410))) = some r := H
          have A89 := Aside0.mk A890
          clear A890
          replace H := Option.bind_eq_some_iff.mp H
          obtain ⟨⟨t406, t407⟩, A900, H⟩ := H
          replace H : ((caduceusref14_Same.f kj15 t402 t403 t406 t407).bind fun t410 => (some t410)) = some r := H
          have A90 := Aside0.mk A900
          clear A900
          replace H := Option.bind_eq_some_iff.mp H
          obtain ⟨t410, A910, H⟩ := H
          replace H : (some t410) = some r := H
          have A91 := Aside0.mk A910
          clear A910
          obtain rfl := Option.some.inj H
          have hnb92 := NB366_374.out
          have hnc92 := NB374_366.out
          have hnb93 := NB366_380.out
          have hnc93 := NB380_366.out
          have hcz94_0 : wc.cell? ⟨gb366, 0, none⟩ = some (.int .i64 a0_0) := (blk_cell BK366.out 0).trans rfl
          have hcz94_1 : wc.cell? ⟨gb366, 1, none⟩ = some (.slice A0_1 l0_1.length c0_1) := (blk_cell BK366.out 1).trans rfl
          have hfz94_0 := blk_frozen BK366.out 0
          have hfz94_1 := blk_frozen BK366.out 1
          try go_wp2_with (first | ((with_reducible refine gate_callee (f := 28) rfl ?_); refine goesL_ (some 60) rfl rfl Try.func28 (by kernel_rfl) rfl #[.agg #[.int .i64 a0_0, .slice A0_1 l0_1.length c0_1]] rfl (by (try simp only [List.map_toArray, List.map_cons, List.map_nil]); first | rfl ) ?_; (with_reducible refine (view_Text.calls kj15 a0_0 _ _ l0_1 t393 _ ?side1 ?side2 A82.out).mono ?_); (case side1 => repeat (first | exact (Kd.C_below HR0_1.out HB.out) )); (case side2 => exact HC0_1.out); rintro e w95 ⟨rfl, hb⟩; refine ⟨_, rfl, ?_⟩; have n0_ := Aside0.mk (Kd.R_below (by (with_reducible repeat (fail)); exact HO_375001.out) hb); have n1_ := Aside0.mk (Kd.R_below (by (with_reducible repeat (fail)); exact HO_381001.out) hb); have n2_ := Aside0.mk (blk_below (g := gb366) (o := .cells #[.int .i64 a0_0, .slice A0_1 l0_1.length c0_1] 24 (0, 0)) (by (with_reducible repeat (fail)); exact BK366.out) hb); have n3_ := Aside0.mk (blk_below (g := gb374) (o := .cells #[.int .i64 t369, .slice Ao21 t370.length co21] 24 (0, 0)) (by (with_reducible repeat (fail)); exact BK374.out) hb); have n4_ := Aside0.mk (blk_below (g := gb380) (o := .cells #[.int .i64 t375, .slice Ao27 t376.length co27] 32 (0, 0)) (by (with_reducible repeat (fail)); exact BK380.out) hb); have n5_ := Aside0.mk (below_step (by repeat (first | (with_reducible first | exact HB.out ) )) hb); clear HO_375001; clear HO_381001; clear BK366; clear BK374; clear BK380; clear HB; have HO_375001 := n0_; have HO_381001 := n1_; have BK366 := n2_; have BK374 := n3_; have BK380 := n4_; have HB := n5_; clear n0_ n1_ n2_ n3_ n4_ n5_; (try clear hb); (try clear hb2); (try clear hk); (try clear hi)) | ((with_reducible refine gate_callee (f := 26) rfl ?_); refine goesL_ (some 61) rfl rfl Try.func26 (by kernel_rfl) rfl #[.string t393] rfl (by (try simp only [List.map_toArray, List.map_cons, List.map_nil]); first | rfl ) ?_; (with_reducible refine (view_Read.calls kj15 t393 t394 t395 t398 _ A83.out).mono ?_); rintro e w96 ⟨v396, rfl, ho0, hb⟩; refine ⟨_, rfl, ?_⟩; have n0_ := Aside0.mk (Kd.R_elder' (by (with_reducible repeat (fail)); exact HO_375001.out) (Kd.R_base ho0) hb); have n1_ := Aside0.mk (Kd.R_below (by (with_reducible repeat (fail)); exact HO_381001.out) hb); have n2_ := Aside0.mk (Kd.R_lower (Kd.R_new' ho0 (Kd.R_lt (by (with_reducible repeat (fail)); exact HO_375001.out))) (below_size (by repeat (first | (with_reducible first | exact HB.out ) )))); have n3_ := Aside0.mk (blk_below (g := gb366) (o := .cells #[.int .i64 a0_0, .slice A0_1 l0_1.length c0_1] 24 (0, 0)) (by (with_reducible repeat (fail)); exact BK366.out) hb); have n4_ := Aside0.mk (blk_below (g := gb374) (o := .cells #[.int .i64 t369, .slice Ao21 t370.length co21] 24 (0, 0)) (by (with_reducible repeat (fail)); exact BK374.out) hb); have n5_ := Aside0.mk (blk_below (g := gb380) (o := .cells #[.int .i64 t375, .slice Ao27 t376.length co27] 32 (0, 0)) (by (with_reducible repeat (fail)); exact BK380.out) hb); have n6_ := Aside0.mk (below_step (by repeat (first | (with_reducible first | exact HB.out ) )) hb); clear HO_375001; clear HO_381001; clear BK366; clear BK374; clear BK380; clear HB; have HO_375001 := n0_; have HO_381001 := n1_; have HO397 := n2_; have BK366 := n3_; have BK374 := n4_; have BK380 := n5_; have HB := n6_; clear n0_ n1_ n2_ n3_ n4_ n5_ n6_; (try clear hb); (try clear hb2); (try clear hk); (try clear hi); (try clear ho0)) | ((with_reducible refine gate_dst (N := 9) rfl ?_); (try (refine gate_guard (by rfl) ?_; dsimp only)); refine box_event ?hg (N := 9) ?hd (cs := #[.int .i64 0, .slice none 0 0]) (t := 24) ?hr ?_; (case hd => rfl); (case hg => rfl); (case hr => first | (go_simp; done) ); intro gb399 hg w97 hbox hb; have n0_ := Aside0.mk (Kd.R_below (by (with_reducible repeat (fail)); exact HO_375001.out) hb); have n1_ := Aside0.mk (Kd.R_below (by (with_reducible repeat (fail)); exact HO_381001.out) hb); have n2_ := Aside0.mk (Kd.R_below (by (with_reducible repeat (fail)); exact HO397.out) hb); have n3_ := Aside0.mk (blk_below (g := gb366) (o := .cells #[.int .i64 a0_0, .slice A0_1 l0_1.length c0_1] 24 (0, 0)) (by (with_reducible repeat (fail)); exact BK366.out) hb); have n4_ := Aside0.mk (blk_below (g := gb374) (o := .cells #[.int .i64 t369, .slice Ao21 t370.length co21] 24 (0, 0)) (by (with_reducible repeat (fail)); exact BK374.out) hb); have n5_ := Aside0.mk (blk_below (g := gb380) (o := .cells #[.int .i64 t375, .slice Ao27 t376.length co27] 32 (0, 0)) (by (with_reducible repeat (fail)); exact BK380.out) hb); have n6_ := Aside0.mk (below_step (by repeat (first | (with_reducible first | exact HB.out ) )) hb); have n7_ := Aside0.mk (hbox); have n8_ := Aside0.mk ((by rw [hg]; exact (below_size (by repeat (first | (with_reducible first | exact HB.out ) ))) : w.heap.size ≤ gb399)); have n9_ := Aside0.mk ((by rw [hg]; exact (below_size (by repeat (first | (with_reducible first | exact HB.out ) ))) : w.heap.size ≤ gb399)); have n10_ := Aside0.mk ((by rw [hg]; exact Nat.ne_of_lt (blk_lt (g := gb366) (o := .cells #[.int .i64 a0_0, .slice A0_1 l0_1.length c0_1] 24 (0, 0)) (by (with_reducible repeat (fail)); exact BK366.out)) : gb366 ≠ gb399)); have n11_ := Aside0.mk ((by rw [hg]; exact Nat.ne_of_gt (blk_lt (g := gb366) (o := .cells #[.int .i64 a0_0, .slice A0_1 l0_1.length c0_1] 24 (0, 0)) (by (with_reducible repeat (fail)); exact BK366.out)) : gb399 ≠ gb366)); have n12_ := Aside0.mk ((by rw [hg]; exact Nat.ne_of_lt (blk_lt (g := gb374) (o := .cells #[.int .i64 t369, .slice Ao21 t370.length co21] 24 (0, 0)) (by (with_reducible repeat (fail)); exact BK374.out)) : gb374 ≠ gb399)); have n13_ := Aside0.mk ((by rw [hg]; exact Nat.ne_of_gt (blk_lt (g := gb374) (o := .cells #[.int .i64 t369, .slice Ao21 t370.length co21] 24 (0, 0)) (by (with_reducible repeat (fail)); exact BK374.out)) : gb399 ≠ gb374)); have n14_ := Aside0.mk ((by rw [hg]; exact Nat.ne_of_lt (blk_lt (g := gb380) (o := .cells #[.int .i64 t375, .slice Ao27 t376.length co27] 32 (0, 0)) (by (with_reducible repeat (fail)); exact BK380.out)) : gb380 ≠ gb399)); have n15_ := Aside0.mk ((by rw [hg]; exact Nat.ne_of_gt (blk_lt (g := gb380) (o := .cells #[.int .i64 t375, .slice Ao27 t376.length co27] 32 (0, 0)) (by (with_reducible repeat (fail)); exact BK380.out)) : gb399 ≠ gb380)); clear HO_375001; clear HO_381001; clear HO397; clear BK366; clear BK374; clear BK380; clear HB; have HO_375001 := n0_; have HO_381001 := n1_; have HO397 := n2_; have BK366 := n3_; have BK374 := n4_; have BK380 := n5_; have HB := n6_; have BK399 := n7_; have GW399 := n8_; have GE399 := n9_; have NB366_399 := n10_; have NB399_366 := n11_; have NB374_399 := n12_; have NB399_374 := n13_; have NB380_399 := n14_; have NB399_380 := n15_; clear n0_ n1_ n2_ n3_ n4_ n5_ n6_ n7_ n8_ n9_ n10_ n11_ n12_ n13_ n14_ n15_; clear hb hbox hg; have hnb98 := NB399_366.out; have hnc98 := NB366_399.out; have hnb99 := NB399_374.out; have hnc99 := NB374_399.out; have hnb100 := NB399_380.out; have hnc100 := NB380_399.out; have hcz101_0 : w97.cell? ⟨gb399, 0, none⟩ = some (.int .i64 0) := (blk_cell BK399.out 0).trans rfl; have hcz101_1 : w97.cell? ⟨gb399, 1, none⟩ = some (.slice none 0 0) := (blk_cell BK399.out 1).trans rfl; have hfz101_0 := blk_frozen BK399.out 0; have hfz101_1 := blk_frozen BK399.out 1; obtain ⟨Ao102, co102, eo102⟩ := Kd.R_slice HO397.out; subst eo102))
          have n0_ : Aside0 (Kd.R k53 53 ((w97.setCell ⟨gb399, 0, none⟩ (.int .i64 t394)).setCell ⟨gb399, 1, none⟩ (.slice Ao102 t395.length co102)) w.heap.size (fun k_ => some k_ ≠ (.slice Ao102 t395.length co102 : Value).ownBlock) (.slice Ao21 t370.length co21) t370) := ⟨by (with_reducible repeat (fail)); exact Kd.R_mono (Kd.R_far (p := ⟨gb399, 1, none⟩) (Kd.R_far (p := ⟨gb399, 0, none⟩) (Kd.R_types HO_375001.out BK399.out (by decide)) (fun _ hk => hk.2) (.int .i64 t394)) (fun _ hk => hk.2) (.slice Ao102 t395.length co102)) (fun _ hk => hk.1.2)⟩
          have n1_ : Aside0 (Kd.R k62 62 ((w97.setCell ⟨gb399, 0, none⟩ (.int .i64 t394)).setCell ⟨gb399, 1, none⟩ (.slice Ao102 t395.length co102)) w.heap.size (fun _ => True) (.slice Ao27 t376.length co27) t376) := ⟨by (with_reducible repeat (fail)); exact Kd.R_mono (Kd.R_far (p := ⟨gb399, 1, none⟩) (Kd.R_far (p := ⟨gb399, 0, none⟩) (Kd.R_types HO_381001.out BK399.out (by decide)) (fun _ hk => hk.2) (.int .i64 t394)) (fun _ hk => hk.2) (.slice Ao102 t395.length co102)) (fun _ hk => trivial)⟩
          have n2_ : Aside0 (Kd.R k53 53 ((w97.setCell ⟨gb399, 0, none⟩ (.int .i64 t394)).setCell ⟨gb399, 1, none⟩ (.slice Ao102 t395.length co102)) w.heap.size (fun k_ => some k_ ≠ (.slice Ao21 t370.length co21 : Value).ownBlock) (.slice Ao102 t395.length co102) t395) := ⟨by (with_reducible repeat (fail)); exact Kd.R_mono (Kd.R_far (p := ⟨gb399, 1, none⟩) (Kd.R_far (p := ⟨gb399, 0, none⟩) (Kd.R_types HO397.out BK399.out (by decide)) (fun _ hk => hk.2) (.int .i64 t394)) (fun _ hk => hk.2) (.slice Ao102 t395.length co102)) (fun _ hk => hk.1.2)⟩
          have n3_ : Aside0 (((w97.setCell ⟨gb399, 0, none⟩ (.int .i64 t394)).setCell ⟨gb399, 1, none⟩ (.slice Ao102 t395.length co102)).heap[gb366]? = some (.cells #[.int .i64 a0_0, .slice A0_1 l0_1.length c0_1] 24 (0, 0))) := ⟨by (with_reducible repeat (fail)); refine blk_far ?_ NB366_399.out _; (with_reducible repeat (fail)); refine blk_far ?_ NB366_399.out _; (with_reducible repeat (fail)); exact BK366.out⟩
          have n4_ : Aside0 (((w97.setCell ⟨gb399, 0, none⟩ (.int .i64 t394)).setCell ⟨gb399, 1, none⟩ (.slice Ao102 t395.length co102)).heap[gb374]? = some (.cells #[.int .i64 t369, .slice Ao21 t370.length co21] 24 (0, 0))) := ⟨by (with_reducible repeat (fail)); refine blk_far ?_ NB374_399.out _; (with_reducible repeat (fail)); refine blk_far ?_ NB374_399.out _; (with_reducible repeat (fail)); exact BK374.out⟩
          have n5_ : Aside0 (((w97.setCell ⟨gb399, 0, none⟩ (.int .i64 t394)).setCell ⟨gb399, 1, none⟩ (.slice Ao102 t395.length co102)).heap[gb380]? = some (.cells #[.int .i64 t375, .slice Ao27 t376.length co27] 32 (0, 0))) := ⟨by (with_reducible repeat (fail)); refine blk_far ?_ NB380_399.out _; (with_reducible repeat (fail)); refine blk_far ?_ NB380_399.out _; (with_reducible repeat (fail)); exact BK380.out⟩
          have n6_ : Aside0 (((w97.setCell ⟨gb399, 0, none⟩ (.int .i64 t394)).setCell ⟨gb399, 1, none⟩ (.slice Ao102 t395.length co102)).heap[gb399]? = some (.cells #[.int .i64 t394, .slice Ao102 t395.length co102] 24 (0, 0))) := ⟨by (with_reducible repeat (fail)); refine blk_put (cs := #[.int .i64 t394, .slice none 0 0]) ?_ 1 _ rfl; (with_reducible repeat (fail)); refine blk_put (cs := #[.int .i64 0, .slice none 0 0]) ?_ 0 _ rfl; (with_reducible repeat (fail)); exact BK399.out⟩
          have n7_ : Aside0 (Below w.heap.size w ((w97.setCell ⟨gb399, 0, none⟩ (.int .i64 t394)).setCell ⟨gb399, 1, none⟩ (.slice Ao102 t395.length co102))) := ⟨by repeat (first | (with_reducible first | exact HB.out | refine below_set ?_ GE399.out) )⟩
          (try clear HO_375001)
          (try clear HO_381001)
          (try clear HO397)
          (try clear BK366)
          (try clear BK374)
          (try clear BK380)
          (try clear BK399)
          (try clear HB)
          generalize ((w97.setCell ⟨gb399, 0, none⟩ (.int .i64 t394)).setCell ⟨gb399, 1, none⟩ (.slice Ao102 t395.length co102)) = w103 at n0_ n1_ n2_ n3_ n4_ n5_ n6_ n7_ ⊢
          have HO_375001 := n0_
          have HO_381001 := n1_
          have HO397 := n2_
          have BK366 := n3_
          have BK374 := n4_
          have BK380 := n5_
          have BK399 := n6_
          have HB := n7_
          clear n0_ n1_ n2_ n3_ n4_ n5_ n6_ n7_
          have n0_ := Aside0.mk (Kd.R_drew HO_375001.out)
          have n1_ := Aside0.mk (Kd.R_drew HO_381001.out)
          have n2_ := Aside0.mk (Kd.R_drew HO397.out)
          have n3_ := Aside0.mk (blk_drew BK366.out)
          have n4_ := Aside0.mk (blk_drew BK374.out)
          have n5_ := Aside0.mk (blk_drew BK380.out)
          have n6_ := Aside0.mk (blk_drew BK399.out)
          have n7_ := Aside0.mk (below_drew1 HB.out)
          clear HO_375001
          clear HO_381001
          clear HO397
          clear BK366
          clear BK374
          clear BK380
          clear BK399
          clear HB
          have HO_375001 := n0_
          have HO_381001 := n1_
          have HO397 := n2_
          have BK366 := n3_
          have BK374 := n4_
          have BK380 := n5_
          have BK399 := n6_
          have HB := n7_
          clear n0_ n1_ n2_ n3_ n4_ n5_ n6_ n7_
          refine start_ (n := 22) (S := fun w' => w'.cell? ⟨gb366, 0, none⟩ = some (.int .i64 a0_0) ∧ w'.cell? ⟨gb366, 1, none⟩ = some (.slice A0_1 l0_1.length c0_1) ∧ w'.cell? ⟨gb399, 0, none⟩ = some (.int .i64 t394) ∧ w'.cell? ⟨gb399, 1, none⟩ = some (.slice Ao102 t395.length co102)) (ds := []) #[false, false, false, false, false, false, false, false, false, false, false, false, false, false, false, false, false, false, false, false, false, false] (by kernel_rfl) rfl rfl ⟨(blk_cell BK366.out 0).trans rfl, (blk_cell BK366.out 1).trans rfl, (blk_cell BK399.out 0).trans rfl, (blk_cell BK399.out 1).trans rfl⟩ (fun hHeld => ?_); refine with_tabW caduceuslaw14_ViewReads.tab8 caduceuslaw14_ViewReads.bits8 (fun HT_ HW_ => ?_)
          generalize w103.drew = w104 at HO_375001 HO_381001 HO397 BK366 BK374 BK380 BK399 HB hHeld ⊢
          refine one_ (i := 0) (N := some 64) #[true, false, false, false, false, false, false, false, false, false, false, false, false, false, false, false, false, false, false, false, false, false] rfl rfl (one_of HT_.out (by kernel_rfl)) (by decide) (fun K hK => ?_)
          refine goes_ Try.func8 (by kernel_rfl) rfl #[] (by rfl) rfl rfl (by (try simp only [List.map_toArray, List.map_cons, List.map_nil]); first | done ) ?_
          with_reducible refine (caduceuslaw14_awake.calls kj15  true _ A84.out).mono ?_
          rintro e w105 ⟨rfl, hb⟩
          refine ⟨_, rfl, ?_⟩
          have n0_ := Aside0.mk (Kd.R_below (by (with_reducible repeat (fail)); exact HO_375001.out) hb)
          have n1_ := Aside0.mk (Kd.R_below (by (with_reducible repeat (fail)); exact HO_381001.out) hb)
          have n2_ := Aside0.mk (Kd.R_below (by (with_reducible repeat (fail)); exact HO397.out) hb)
          have n3_ := Aside0.mk (blk_below (g := gb366) (o := .cells #[.int .i64 a0_0, .slice A0_1 l0_1.length c0_1] 24 (0, 0)) (by (with_reducible repeat (fail)); exact BK366.out) hb)
          have n4_ := Aside0.mk (blk_below (g := gb374) (o := .cells #[.int .i64 t369, .slice Ao21 t370.length co21] 24 (0, 0)) (by (with_reducible repeat (fail)); exact BK374.out) hb)
          have n5_ := Aside0.mk (blk_below (g := gb380) (o := .cells #[.int .i64 t375, .slice Ao27 t376.length co27] 32 (0, 0)) (by (with_reducible repeat (fail)); exact BK380.out) hb)
          have n6_ := Aside0.mk (blk_below (g := gb399) (o := .cells #[.int .i64 t394, .slice Ao102 t395.length co102] 24 (0, 0)) (by (with_reducible repeat (fail)); exact BK399.out) hb)
          have n7_ := Aside0.mk (below_step (by repeat (first | (with_reducible first | exact HB.out ) )) hb)
          clear HO_375001
          clear HO_381001
          clear HO397
          clear BK366
          clear BK374
          clear BK380
          clear BK399
          clear HB
          have HO_375001 := n0_
          have HO_381001 := n1_
          have HO397 := n2_
          have BK366 := n3_
          have BK374 := n4_
          have BK380 := n5_
          have BK399 := n6_
          have HB := n7_
          clear n0_ n1_ n2_ n3_ n4_ n5_ n6_ n7_
          (try clear hb)
          (try clear hb2)
          (try clear hk)
          (try clear hi)
          refine hK.out _ _ ⟨(blk_cell BK366.out 0).trans rfl, (blk_cell BK366.out 1).trans rfl, (blk_cell BK399.out 0).trans rfl, (blk_cell BK399.out 1).trans rfl⟩ (fun hHeld => ?_)
          clear hK K
          refine norm_ (a' := ?_) ?_ ?_
          rotate_left
          ·show Act.put _ (some 64) _ = _
           simp only [Act.put, List.setIfInBounds_toArray, List.set_cons_zero, List.set_cons_succ, i64_w, i32_w]
           rfl
          refine pure_ (i := 1) (N := some 65) (v := ?_) (a' := ?_) #[true, true, false, false, false, false, false, false, false, false, false, false, false, false, false, false, false, false, false, false, false, false] rfl rfl (any_of HT_.out (by kernel_rfl)) (fun _ _ _ h => h) (Or.inl ⟨by rfl, ?_⟩) ?_ ?_
          rotate_left
          ·intro w'
           go_simp
           with_reducible rfl
          rotate_left
          ·simp only [Act.put, List.setIfInBounds_toArray, List.set_cons_zero, List.set_cons_succ, i64_w, i32_w]
           rfl
          refine take_ (i := 2) (N := some 66) (v := ?_) (a' := ?_) #[true, true, true, false, false, false, false, false, false, false, false, false, false, false, false, false, false, false, false, false, false, false] rfl rfl (take_ofW HT_.out HW_.out (by kernel_rfl)) (fun _ _ _ h => h) (Or.inl ⟨by rfl, ?_⟩) hHeld ?_ ?_
          rotate_left
          ·rintro w' ⟨s0, s1, s2, s3⟩
           go_simp
           with_reducible rfl
          rotate_left
          ·simp only [Act.put, List.setIfInBounds_toArray, List.set_cons_zero, List.set_cons_succ, i64_w, i32_w]
           rfl
          refine one_ (i := 3) (N := some 67) #[true, true, true, true, false, false, false, false, false, false, false, false, false, false, false, false, false, false, false, false, false, false] rfl rfl (one_of HT_.out (by kernel_rfl)) (by decide) (fun K hK => ?_)
          refine goes_ Try.func17 (by kernel_rfl) rfl #[.agg #[.int .i64 a0_0, .slice A0_1 l0_1.length c0_1]] (by rfl) rfl rfl (by (try simp only [List.map_toArray, List.map_cons, List.map_nil]); first | rfl ) ?_
          with_reducible refine (view_Check.calls kj15 a0_0 _ _ l0_1 true _ ?side1 ?side2 A86.out).mono ?_
          (case side1 => repeat (first | exact (Kd.C_below HR0_1.out HB.out) ))
          (case side2 => exact HC0_1.out)
          rintro e w106 ⟨rfl, hb⟩
          refine ⟨_, rfl, ?_⟩
          have n0_ := Aside0.mk (Kd.R_below (by (with_reducible repeat (fail)); exact HO_375001.out) hb)
          have n1_ := Aside0.mk (Kd.R_below (by (with_reducible repeat (fail)); exact HO_381001.out) hb)
          have n2_ := Aside0.mk (Kd.R_below (by (with_reducible repeat (fail)); exact HO397.out) hb)
          have n3_ := Aside0.mk (blk_below (g := gb366) (o := .cells #[.int .i64 a0_0, .slice A0_1 l0_1.length c0_1] 24 (0, 0)) (by (with_reducible repeat (fail)); exact BK366.out) hb)
          have n4_ := Aside0.mk (blk_below (g := gb374) (o := .cells #[.int .i64 t369, .slice Ao21 t370.length co21] 24 (0, 0)) (by (with_reducible repeat (fail)); exact BK374.out) hb)
          have n5_ := Aside0.mk (blk_below (g := gb380) (o := .cells #[.int .i64 t375, .slice Ao27 t376.length co27] 32 (0, 0)) (by (with_reducible repeat (fail)); exact BK380.out) hb)
          have n6_ := Aside0.mk (blk_below (g := gb399) (o := .cells #[.int .i64 t394, .slice Ao102 t395.length co102] 24 (0, 0)) (by (with_reducible repeat (fail)); exact BK399.out) hb)
          have n7_ := Aside0.mk (below_step (by repeat (first | (with_reducible first | exact HB.out ) )) hb)
          clear HO_375001
          clear HO_381001
          clear HO397
          clear BK366
          clear BK374
          clear BK380
          clear BK399
          clear HB
          have HO_375001 := n0_
          have HO_381001 := n1_
          have HO397 := n2_
          have BK366 := n3_
          have BK374 := n4_
          have BK380 := n5_
          have BK399 := n6_
          have HB := n7_
          clear n0_ n1_ n2_ n3_ n4_ n5_ n6_ n7_
          (try clear hb)
          (try clear hb2)
          (try clear hk)
          (try clear hi)
          refine hK.out _ _ ⟨(blk_cell BK366.out 0).trans rfl, (blk_cell BK366.out 1).trans rfl, (blk_cell BK399.out 0).trans rfl, (blk_cell BK399.out 1).trans rfl⟩ (fun hHeld => ?_)
          clear hK K
          refine norm_ (a' := ?_) ?_ ?_
          rotate_left
          ·show Act.put _ (some 67) _ = _
           simp only [Act.put, List.setIfInBounds_toArray, List.set_cons_zero, List.set_cons_succ, i64_w, i32_w]
           rfl
          refine pure_ (i := 4) (N := some 68) (v := ?_) (a' := ?_) #[true, true, true, true, true, false, false, false, false, false, false, false, false, false, false, false, false, false, false, false, false, false] rfl rfl (any_of HT_.out (by kernel_rfl)) (fun _ _ _ h => h) (Or.inl ⟨by rfl, ?_⟩) ?_ ?_
          rotate_left
          ·intro w'
           go_simp
           with_reducible rfl
          rotate_left
          ·simp only [Act.put, List.setIfInBounds_toArray, List.set_cons_zero, List.set_cons_succ, i64_w, i32_w]
           rfl
          refine pure_ (i := 5) (N := some 69) (v := ?_) (a' := ?_) #[true, true, true, true, true, true, false, false, false, false, false, false, false, false, false, false, false, false, false, false, false, false] rfl rfl (any_of HT_.out (by kernel_rfl)) (fun _ _ _ h => h) (Or.inl ⟨by rfl, ?_⟩) ?_ ?_
          rotate_left
          ·intro w'
           go_simp
           with_reducible rfl
          rotate_left
          ·simp only [Act.put, List.setIfInBounds_toArray, List.set_cons_zero, List.set_cons_succ, i64_w, i32_w]
           rfl
          refine pure_ (i := 6) (N := some 70) (v := undef) (a' := ?_) #[true, true, true, true, true, true, true, false, false, false, false, false, false, false, false, false, false, false, false, false, false, false] rfl rfl (any_of HT_.out (by kernel_rfl)) (fun _ _ _ h => h) (Or.inr ⟨by rfl, rfl⟩) ?_ ?_
          rotate_left
          ·simp only [Act.put, List.setIfInBounds_toArray, List.set_cons_zero, List.set_cons_succ, i64_w, i32_w]
           rfl
          refine pure_ (i := 7) (N := some 71) (v := undef) (a' := ?_) #[true, true, true, true, true, true, true, true, false, false, false, false, false, false, false, false, false, false, false, false, false, false] rfl rfl (any_of HT_.out (by kernel_rfl)) (fun _ _ _ h => h) (Or.inr ⟨by rfl, rfl⟩) ?_ ?_
          rotate_left
          ·simp only [Act.put, List.setIfInBounds_toArray, List.set_cons_zero, List.set_cons_succ, i64_w, i32_w]
           rfl
          refine pure_ (i := 8) (N := some 72) (v := ?_) (a' := ?_) #[true, true, true, true, true, true, true, true, true, false, false, false, false, false, false, false, false, false, false, false, false, false] rfl rfl (any_of HT_.out (by kernel_rfl)) (fun _ _ _ h => h) (Or.inl ⟨by rfl, ?_⟩) ?_ ?_
          rotate_left
          ·intro w'
           go_simp
           with_reducible rfl
          rotate_left
          ·simp only [Act.put, List.setIfInBounds_toArray, List.set_cons_zero, List.set_cons_succ, i64_w, i32_w]
           rfl
          refine pure_ (i := 9) (N := some 73) (v := ?_) (a' := ?_) #[true, true, true, true, true, true, true, true, true, true, false, false, false, false, false, false, false, false, false, false, false, false] rfl rfl (any_of HT_.out (by kernel_rfl)) (fun _ _ _ h => h) (Or.inl ⟨by rfl, ?_⟩) ?_ ?_
          rotate_left
          ·intro w'
           go_simp
           with_reducible rfl
          rotate_left
          ·simp only [Act.put, List.setIfInBounds_toArray, List.set_cons_zero, List.set_cons_succ, i64_w, i32_w]
           rfl
          refine pure_ (i := 10) (N := some 74) (v := ?_) (a' := ?_) #[true, true, true, true, true, true, true, true, true, true, true, false, false, false, false, false, false, false, false, false, false, false] rfl rfl (any_of HT_.out (by kernel_rfl)) (fun _ _ _ h => h) (Or.inl ⟨by rfl, ?_⟩) ?_ ?_
          rotate_left
          ·intro w'
           go_simp
           with_reducible rfl
          rotate_left
          ·simp only [Act.put, List.setIfInBounds_toArray, List.set_cons_zero, List.set_cons_succ, i64_w, i32_w]
           rfl
          refine pure_ (i := 11) (N := some 75) (v := ?_) (a' := ?_) #[true, true, true, true, true, true, true, true, true, true, true, true, false, false, false, false, false, false, false, false, false, false] rfl rfl (any_of HT_.out (by kernel_rfl)) (fun _ _ _ h => h) (Or.inl ⟨by rfl, ?_⟩) ?_ ?_
          rotate_left
          ·intro w'
           go_simp
           with_reducible rfl
          rotate_left
          ·simp only [Act.put, List.setIfInBounds_toArray, List.set_cons_zero, List.set_cons_succ, i64_w, i32_w]
           rfl
          refine pure_ (i := 12) (N := some 76) (v := ?_) (a' := ?_) #[true, true, true, true, true, true, true, true, true, true, true, true, true, false, false, false, false, false, false, false, false, false] rfl rfl (any_of HT_.out (by kernel_rfl)) (fun _ _ _ h => h) (Or.inl ⟨by rfl, ?_⟩) ?_ ?_
          rotate_left
          ·intro w'
           go_simp
           with_reducible rfl
          rotate_left
          ·simp only [Act.put, List.setIfInBounds_toArray, List.set_cons_zero, List.set_cons_succ, i64_w, i32_w]
           rfl
          refine take_ (i := 13) (N := some 77) (v := ?_) (a' := ?_) #[true, true, true, true, true, true, true, true, true, true, true, true, true, true, false, false, false, false, false, false, false, false] rfl rfl (take_ofW HT_.out HW_.out (by kernel_rfl)) (fun _ _ _ h => h) (Or.inl ⟨by rfl, ?_⟩) hHeld ?_ ?_
          rotate_left
          ·rintro w' ⟨s0, s1, s2, s3⟩
           go_simp
           with_reducible rfl
          rotate_left
          ·simp only [Act.put, List.setIfInBounds_toArray, List.set_cons_zero, List.set_cons_succ, i64_w, i32_w]
           rfl
          refine take_ (i := 15) (N := some 79) (v := ?_) (a' := ?_) #[true, true, true, true, true, true, true, true, true, true, true, true, true, true, false, true, false, false, false, false, false, false] rfl rfl (take_ofW HT_.out HW_.out (by kernel_rfl)) (fun _ _ _ h => h) (Or.inl ⟨by rfl, ?_⟩) hHeld ?_ ?_
          rotate_left
          ·rintro w' ⟨s0, s1, s2, s3⟩
           go_simp
           with_reducible rfl
          rotate_left
          ·simp only [Act.put, List.setIfInBounds_toArray, List.set_cons_zero, List.set_cons_succ, i64_w, i32_w]
           rfl
          refine one_ (i := 14) (N := some 78) #[true, true, true, true, true, true, true, true, true, true, true, true, true, true, true, true, false, false, false, false, false, false] rfl rfl (one_of HT_.out (by kernel_rfl)) (by decide) (fun K hK => ?_)
          refine goes_ Try.func11 (by kernel_rfl) rfl #[.agg #[.int .i64 t394, .slice Ao102 t395.length co102]] (by rfl) rfl rfl (by (try simp only [List.map_toArray, List.map_cons, List.map_nil]); first | rfl ) ?_
          with_reducible refine (caduceuslaw14_Ref.calls kj15 t394 _ _ t395 t402 t403 _ ?side1 ?side2 A89.out).mono ?_
          (case side1 => repeat (first | exact (Kd.R_reads' HO397.out).2.2 ))
          (case side2 => exact (Kd.R_reads' HO397.out).2.1)
          rintro e w107 ⟨v404, rfl, ho0, hb⟩
          refine ⟨_, rfl, ?_⟩
          have n0_ := Aside0.mk (Kd.R_below (by (with_reducible repeat (fail)); exact HO_375001.out) hb)
          have n1_ := Aside0.mk (Kd.R_elder' (by (with_reducible repeat (fail)); exact HO_381001.out) (Kd.R_base ho0) hb)
          have n2_ := Aside0.mk (Kd.R_below (by (with_reducible repeat (fail)); exact HO397.out) hb)
          have n3_ := Aside0.mk (Kd.R_lower (Kd.R_new' ho0 (Kd.R_lt (by (with_reducible repeat (fail)); exact HO_381001.out))) (below_size (by repeat (first | (with_reducible first | exact HB.out ) ))))
          have n4_ := Aside0.mk (blk_below (g := gb366) (o := .cells #[.int .i64 a0_0, .slice A0_1 l0_1.length c0_1] 24 (0, 0)) (by (with_reducible repeat (fail)); exact BK366.out) hb)
          have n5_ := Aside0.mk (blk_below (g := gb374) (o := .cells #[.int .i64 t369, .slice Ao21 t370.length co21] 24 (0, 0)) (by (with_reducible repeat (fail)); exact BK374.out) hb)
          have n6_ := Aside0.mk (blk_below (g := gb380) (o := .cells #[.int .i64 t375, .slice Ao27 t376.length co27] 32 (0, 0)) (by (with_reducible repeat (fail)); exact BK380.out) hb)
          have n7_ := Aside0.mk (blk_below (g := gb399) (o := .cells #[.int .i64 t394, .slice Ao102 t395.length co102] 24 (0, 0)) (by (with_reducible repeat (fail)); exact BK399.out) hb)
          have n8_ := Aside0.mk (below_step (by repeat (first | (with_reducible first | exact HB.out ) )) hb)
          clear HO_375001
          clear HO_381001
          clear HO397
          clear BK366
          clear BK374
          clear BK380
          clear BK399
          clear HB
          have HO_375001 := n0_
          have HO_381001 := n1_
          have HO397 := n2_
          have HO405 := n3_
          have BK366 := n4_
          have BK374 := n5_
          have BK380 := n6_
          have BK399 := n7_
          have HB := n8_
          clear n0_ n1_ n2_ n3_ n4_ n5_ n6_ n7_ n8_
          (try clear hb)
          (try clear hb2)
          (try clear hk)
          (try clear hi)
          (try clear ho0)
          refine hK.out _ _ ⟨(blk_cell BK366.out 0).trans rfl, (blk_cell BK366.out 1).trans rfl, (blk_cell BK399.out 0).trans rfl, (blk_cell BK399.out 1).trans rfl⟩ (fun hHeld => ?_)
          clear hK K
          refine norm_ (a' := ?_) ?_ ?_
          rotate_left
          ·show Act.put _ (some 78) _ = _
           simp only [Act.put, List.setIfInBounds_toArray, List.set_cons_zero, List.set_cons_succ, i64_w, i32_w]
           rfl
          refine one_ (i := 16) (N := some 80) #[true, true, true, true, true, true, true, true, true, true, true, true, true, true, true, true, true, false, false, false, false, false] rfl rfl (one_of HT_.out (by kernel_rfl)) (by decide) (fun K hK => ?_)
          refine goes_ Try.func11 (by kernel_rfl) rfl #[.agg #[.int .i64 a0_0, .slice A0_1 l0_1.length c0_1]] (by rfl) rfl rfl (by (try simp only [List.map_toArray, List.map_cons, List.map_nil]); first | rfl ) ?_
          with_reducible refine (caduceuslaw14_Ref.calls kj15 a0_0 _ _ l0_1 t406 t407 _ ?side1 ?side2 A90.out).mono ?_
          (case side1 => repeat (first | exact (Kd.C_below HR0_1.out HB.out) ))
          (case side2 => exact HC0_1.out)
          rintro e w108 ⟨v408, rfl, ho0, hb⟩
          refine ⟨_, rfl, ?_⟩
          have n0_ := Aside0.mk (Kd.R_below (by (with_reducible repeat (fail)); exact HO_375001.out) hb)
          have n1_ := Aside0.mk (Kd.R_elder' (by (with_reducible repeat (fail)); exact HO_381001.out) (Kd.R_base ho0) hb)
          have n2_ := Aside0.mk (Kd.R_below (by (with_reducible repeat (fail)); exact HO397.out) hb)
          have n3_ := Aside0.mk (Kd.R_elder' (by (with_reducible repeat (fail)); exact HO405.out) (Kd.R_base ho0) hb)
          have n4_ := Aside0.mk (Kd.R_lower (Kd.R_new' (Kd.R_new' ho0 (Kd.R_lt (by (with_reducible repeat (fail)); exact HO_381001.out))) (Kd.R_lt (by (with_reducible repeat (fail)); exact HO405.out))) (below_size (by repeat (first | (with_reducible first | exact HB.out ) ))))
          have n5_ := Aside0.mk (blk_below (g := gb366) (o := .cells #[.int .i64 a0_0, .slice A0_1 l0_1.length c0_1] 24 (0, 0)) (by (with_reducible repeat (fail)); exact BK366.out) hb)
          have n6_ := Aside0.mk (blk_below (g := gb374) (o := .cells #[.int .i64 t369, .slice Ao21 t370.length co21] 24 (0, 0)) (by (with_reducible repeat (fail)); exact BK374.out) hb)
          have n7_ := Aside0.mk (blk_below (g := gb380) (o := .cells #[.int .i64 t375, .slice Ao27 t376.length co27] 32 (0, 0)) (by (with_reducible repeat (fail)); exact BK380.out) hb)
          have n8_ := Aside0.mk (blk_below (g := gb399) (o := .cells #[.int .i64 t394, .slice Ao102 t395.length co102] 24 (0, 0)) (by (with_reducible repeat (fail)); exact BK399.out) hb)
          have n9_ := Aside0.mk (below_step (by repeat (first | (with_reducible first | exact HB.out ) )) hb)
          clear HO_375001
          clear HO_381001
          clear HO397
          clear HO405
          clear BK366
          clear BK374
          clear BK380
          clear BK399
          clear HB
          have HO_375001 := n0_
          have HO_381001 := n1_
          have HO397 := n2_
          have HO405 := n3_
          have HO409 := n4_
          have BK366 := n5_
          have BK374 := n6_
          have BK380 := n7_
          have BK399 := n8_
          have HB := n9_
          clear n0_ n1_ n2_ n3_ n4_ n5_ n6_ n7_ n8_ n9_
          (try clear hb)
          (try clear hb2)
          (try clear hk)
          (try clear hi)
          (try clear ho0)
          obtain ⟨Ao109, co109, eo109⟩ := Kd.R_slice HO405.out
          (first | subst eo109 )
          obtain ⟨Ao110, co110, eo110⟩ := Kd.R_slice HO409.out
          (first | subst eo110 )
          refine hK.out _ _ ⟨(blk_cell BK366.out 0).trans rfl, (blk_cell BK366.out 1).trans rfl, (blk_cell BK399.out 0).trans rfl, (blk_cell BK399.out 1).trans rfl⟩ (fun hHeld => ?_)
          clear hK K
          refine norm_ (a' := ?_) ?_ ?_
          rotate_left
          ·show Act.put _ (some 80) _ = _
           simp only [Act.put, List.setIfInBounds_toArray, List.set_cons_zero, List.set_cons_succ, i64_w, i32_w]
           rfl
          refine one_ (i := 17) (N := some 81) #[true, true, true, true, true, true, true, true, true, true, true, true, true, true, true, true, true, true, false, false, false, false] rfl rfl (one_of HT_.out (by kernel_rfl)) (by decide) (fun K hK => ?_)
          refine goes_ Try.func13 (by kernel_rfl) rfl #[.agg #[.int .i64 t402, .slice Ao109 t403.length co109], .agg #[.int .i64 t406, .slice Ao110 t407.length co110]] (by rfl) rfl rfl (by (try simp only [List.map_toArray, List.map_cons, List.map_nil]); first | rfl ) ?_
          with_reducible refine (caduceusref14_Same.calls kj15 t402 _ _ t403 t406 _ _ t407 t410 _ ?side1 ?side2 ?side3 ?side4 A91.out).mono ?_
          (case side1 => repeat (first | exact (Kd.R_reads' HO405.out).2.2 ))
          (case side2 => exact (Kd.R_reads' HO405.out).2.1)
          (case side3 => repeat (first | exact (Kd.R_reads' HO409.out).2.2 ))
          (case side4 => exact (Kd.R_reads' HO409.out).2.1)
          rintro e w111 ⟨rfl, hb⟩
          refine ⟨_, rfl, ?_⟩
          have n0_ := Aside0.mk (Kd.R_below (by (with_reducible repeat (fail)); exact HO_375001.out) hb)
          have n1_ := Aside0.mk (Kd.R_below (by (with_reducible repeat (fail)); exact HO_381001.out) hb)
          have n2_ := Aside0.mk (Kd.R_below (by (with_reducible repeat (fail)); exact HO397.out) hb)
          have n3_ := Aside0.mk (Kd.R_below (by (with_reducible repeat (fail)); exact HO405.out) hb)
          have n4_ := Aside0.mk (Kd.R_below (by (with_reducible repeat (fail)); exact HO409.out) hb)
          have n5_ := Aside0.mk (blk_below (g := gb366) (o := .cells #[.int .i64 a0_0, .slice A0_1 l0_1.length c0_1] 24 (0, 0)) (by (with_reducible repeat (fail)); exact BK366.out) hb)
          have n6_ := Aside0.mk (blk_below (g := gb374) (o := .cells #[.int .i64 t369, .slice Ao21 t370.length co21] 24 (0, 0)) (by (with_reducible repeat (fail)); exact BK374.out) hb)
          have n7_ := Aside0.mk (blk_below (g := gb380) (o := .cells #[.int .i64 t375, .slice Ao27 t376.length co27] 32 (0, 0)) (by (with_reducible repeat (fail)); exact BK380.out) hb)
          have n8_ := Aside0.mk (blk_below (g := gb399) (o := .cells #[.int .i64 t394, .slice Ao102 t395.length co102] 24 (0, 0)) (by (with_reducible repeat (fail)); exact BK399.out) hb)
          have n9_ := Aside0.mk (below_step (by repeat (first | (with_reducible first | exact HB.out ) )) hb)
          clear HO_375001
          clear HO_381001
          clear HO397
          clear HO405
          clear HO409
          clear BK366
          clear BK374
          clear BK380
          clear BK399
          clear HB
          have HO_375001 := n0_
          have HO_381001 := n1_
          have HO397 := n2_
          have HO405 := n3_
          have HO409 := n4_
          have BK366 := n5_
          have BK374 := n6_
          have BK380 := n7_
          have BK399 := n8_
          have HB := n9_
          clear n0_ n1_ n2_ n3_ n4_ n5_ n6_ n7_ n8_ n9_
          (try clear hb)
          (try clear hb2)
          (try clear hk)
          (try clear hi)
          refine hK.out _ _ ⟨(blk_cell BK366.out 0).trans rfl, (blk_cell BK366.out 1).trans rfl, (blk_cell BK399.out 0).trans rfl, (blk_cell BK399.out 1).trans rfl⟩ (fun hHeld => ?_)
          clear hK K
          refine norm_ (a' := ?_) ?_ ?_
          rotate_left
          ·show Act.put _ (some 81) _ = _
           simp only [Act.put, List.setIfInBounds_toArray, List.set_cons_zero, List.set_cons_succ, i64_w, i32_w]
           rfl
          refine pure_ (i := 18) (N := some 82) (v := ?_) (a' := ?_) #[true, true, true, true, true, true, true, true, true, true, true, true, true, true, true, true, true, true, true, false, false, false] rfl rfl (any_of HT_.out (by kernel_rfl)) (fun _ _ _ h => h) (Or.inl ⟨by rfl, ?_⟩) ?_ ?_
          rotate_left
          ·intro w'
           go_simp
           with_reducible rfl
          rotate_left
          ·simp only [Act.put, List.setIfInBounds_toArray, List.set_cons_zero, List.set_cons_succ, i64_w, i32_w]
           rfl
          refine pure_ (i := 19) (N := some 83) (v := ?_) (a' := ?_) #[true, true, true, true, true, true, true, true, true, true, true, true, true, true, true, true, true, true, true, true, false, false] rfl rfl (any_of HT_.out (by kernel_rfl)) (fun _ _ _ h => h) (Or.inl ⟨by rfl, ?_⟩) ?_ ?_
          rotate_left
          ·intro w'
           go_simp
           with_reducible rfl
          rotate_left
          ·simp only [Act.put, List.setIfInBounds_toArray, List.set_cons_zero, List.set_cons_succ, i64_w, i32_w]
           rfl
          refine pure_ (i := 20) (N := some 84) (v := ?_) (a' := ?_) #[true, true, true, true, true, true, true, true, true, true, true, true, true, true, true, true, true, true, true, true, true, false] rfl rfl (any_of HT_.out (by kernel_rfl)) (fun _ _ _ h => h) (Or.inl ⟨by rfl, ?_⟩) ?_ ?_
          rotate_left
          ·intro w'
           go_simp
           with_reducible rfl
          rotate_left
          ·simp only [Act.put, List.setIfInBounds_toArray, List.set_cons_zero, List.set_cons_succ, i64_w, i32_w]
           rfl
          refine pure_ (i := 21) (N := some 4) (v := ?_) (a' := ?_) #[true, true, true, true, true, true, true, true, true, true, true, true, true, true, true, true, true, true, true, true, true, true] rfl rfl (any_of HT_.out (by kernel_rfl)) (fun _ _ _ h => h) (Or.inl ⟨by rfl, ?_⟩) ?_ ?_
          rotate_left
          ·intro w'
           go_simp
           with_reducible rfl
          rotate_left
          ·simp only [Act.put, List.setIfInBounds_toArray, List.set_cons_zero, List.set_cons_succ, i64_w, i32_w]
           rfl
          refine done_ (done_of HT_.out (by kernel_rfl)) ?_
          try go_wp2
          go_ret
          exact ⟨by first | rfl , by repeat (first | (with_reducible first | exact HB.out ) )⟩
         ·rw [if_neg c88] at H
          cases H
        ·replace c87 := Bool.eq_false_iff.mpr c87
         subst c87
         have H1 : (if t398 = 3 then (some true) else none) = some r := by rw [if_neg (show ¬ (false = true) by decide)] at H; exact H
         clear H
         have H := H1
         clear H1
         by_cases c127 : t398 = 3
         ·rw [if_pos c127] at H
          have c127b0 : (t398 == 3) = true := beq_iff_eq.mpr c127
          have c127b1 : (t398 != 3) = false := bne_eq_false_iff_eq.mpr c127
          clear c127
          obtain rfl := Option.some.inj H
          have hnb128 := NB366_374.out
          have hnc128 := NB374_366.out
          have hnb129 := NB366_380.out
          have hnc129 := NB380_366.out
          have hcz130_0 : wc.cell? ⟨gb366, 0, none⟩ = some (.int .i64 a0_0) := (blk_cell BK366.out 0).trans rfl
          have hcz130_1 : wc.cell? ⟨gb366, 1, none⟩ = some (.slice A0_1 l0_1.length c0_1) := (blk_cell BK366.out 1).trans rfl
          have hfz130_0 := blk_frozen BK366.out 0
          have hfz130_1 := blk_frozen BK366.out 1
          try go_wp2_with (first | ((with_reducible refine gate_callee (f := 28) rfl ?_); refine goesL_ (some 60) rfl rfl Try.func28 (by kernel_rfl) rfl #[.agg #[.int .i64 a0_0, .slice A0_1 l0_1.length c0_1]] rfl (by (try simp only [List.map_toArray, List.map_cons, List.map_nil]); first | rfl ) ?_; (with_reducible refine (view_Text.calls kj15 a0_0 _ _ l0_1 t393 _ ?side1 ?side2 A82.out).mono ?_); (case side1 => repeat (first | exact (Kd.C_below HR0_1.out HB.out) )); (case side2 => exact HC0_1.out); rintro e w131 ⟨rfl, hb⟩; refine ⟨_, rfl, ?_⟩; have n0_ := Aside0.mk (Kd.R_below (by (with_reducible repeat (fail)); exact HO_375001.out) hb); have n1_ := Aside0.mk (Kd.R_below (by (with_reducible repeat (fail)); exact HO_381001.out) hb); have n2_ := Aside0.mk (blk_below (g := gb366) (o := .cells #[.int .i64 a0_0, .slice A0_1 l0_1.length c0_1] 24 (0, 0)) (by (with_reducible repeat (fail)); exact BK366.out) hb); have n3_ := Aside0.mk (blk_below (g := gb374) (o := .cells #[.int .i64 t369, .slice Ao21 t370.length co21] 24 (0, 0)) (by (with_reducible repeat (fail)); exact BK374.out) hb); have n4_ := Aside0.mk (blk_below (g := gb380) (o := .cells #[.int .i64 t375, .slice Ao27 t376.length co27] 32 (0, 0)) (by (with_reducible repeat (fail)); exact BK380.out) hb); have n5_ := Aside0.mk (below_step (by repeat (first | (with_reducible first | exact HB.out ) )) hb); clear HO_375001; clear HO_381001; clear BK366; clear BK374; clear BK380; clear HB; have HO_375001 := n0_; have HO_381001 := n1_; have BK366 := n2_; have BK374 := n3_; have BK380 := n4_; have HB := n5_; clear n0_ n1_ n2_ n3_ n4_ n5_; (try clear hb); (try clear hb2); (try clear hk); (try clear hi)) | ((with_reducible refine gate_callee (f := 26) rfl ?_); refine goesL_ (some 61) rfl rfl Try.func26 (by kernel_rfl) rfl #[.string t393] rfl (by (try simp only [List.map_toArray, List.map_cons, List.map_nil]); first | rfl ) ?_; (with_reducible refine (view_Read.calls kj15 t393 t394 t395 t398 _ A83.out).mono ?_); rintro e w132 ⟨v396, rfl, ho0, hb⟩; refine ⟨_, rfl, ?_⟩; have n0_ := Aside0.mk (Kd.R_elder' (by (with_reducible repeat (fail)); exact HO_375001.out) (Kd.R_base ho0) hb); have n1_ := Aside0.mk (Kd.R_below (by (with_reducible repeat (fail)); exact HO_381001.out) hb); have n2_ := Aside0.mk (Kd.R_lower (Kd.R_new' ho0 (Kd.R_lt (by (with_reducible repeat (fail)); exact HO_375001.out))) (below_size (by repeat (first | (with_reducible first | exact HB.out ) )))); have n3_ := Aside0.mk (blk_below (g := gb366) (o := .cells #[.int .i64 a0_0, .slice A0_1 l0_1.length c0_1] 24 (0, 0)) (by (with_reducible repeat (fail)); exact BK366.out) hb); have n4_ := Aside0.mk (blk_below (g := gb374) (o := .cells #[.int .i64 t369, .slice Ao21 t370.length co21] 24 (0, 0)) (by (with_reducible repeat (fail)); exact BK374.out) hb); have n5_ := Aside0.mk (blk_below (g := gb380) (o := .cells #[.int .i64 t375, .slice Ao27 t376.length co27] 32 (0, 0)) (by (with_reducible repeat (fail)); exact BK380.out) hb); have n6_ := Aside0.mk (below_step (by repeat (first | (with_reducible first | exact HB.out ) )) hb); clear HO_375001; clear HO_381001; clear BK366; clear BK374; clear BK380; clear HB; have HO_375001 := n0_; have HO_381001 := n1_; have HO397 := n2_; have BK366 := n3_; have BK374 := n4_; have BK380 := n5_; have HB := n6_; clear n0_ n1_ n2_ n3_ n4_ n5_ n6_; (try clear hb); (try clear hb2); (try clear hk); (try clear hi); (try clear ho0)) | ((with_reducible refine gate_dst (N := 9) rfl ?_); (try (refine gate_guard (by rfl) ?_; dsimp only)); refine box_event ?hg (N := 9) ?hd (cs := #[.int .i64 0, .slice none 0 0]) (t := 24) ?hr ?_; (case hd => rfl); (case hg => rfl); (case hr => first | (go_simp; done) ); intro gb399 hg w133 hbox hb; have n0_ := Aside0.mk (Kd.R_below (by (with_reducible repeat (fail)); exact HO_375001.out) hb); have n1_ := Aside0.mk (Kd.R_below (by (with_reducible repeat (fail)); exact HO_381001.out) hb); have n2_ := Aside0.mk (Kd.R_below (by (with_reducible repeat (fail)); exact HO397.out) hb); have n3_ := Aside0.mk (blk_below (g := gb366) (o := .cells #[.int .i64 a0_0, .slice A0_1 l0_1.length c0_1] 24 (0, 0)) (by (with_reducible repeat (fail)); exact BK366.out) hb); have n4_ := Aside0.mk (blk_below (g := gb374) (o := .cells #[.int .i64 t369, .slice Ao21 t370.length co21] 24 (0, 0)) (by (with_reducible repeat (fail)); exact BK374.out) hb); have n5_ := Aside0.mk (blk_below (g := gb380) (o := .cells #[.int .i64 t375, .slice Ao27 t376.length co27] 32 (0, 0)) (by (with_reducible repeat (fail)); exact BK380.out) hb); have n6_ := Aside0.mk (below_step (by repeat (first | (with_reducible first | exact HB.out ) )) hb); have n7_ := Aside0.mk (hbox); have n8_ := Aside0.mk ((by rw [hg]; exact (below_size (by repeat (first | (with_reducible first | exact HB.out ) ))) : w.heap.size ≤ gb399)); have n9_ := Aside0.mk ((by rw [hg]; exact (below_size (by repeat (first | (with_reducible first | exact HB.out ) ))) : w.heap.size ≤ gb399)); have n10_ := Aside0.mk ((by rw [hg]; exact Nat.ne_of_lt (blk_lt (g := gb366) (o := .cells #[.int .i64 a0_0, .slice A0_1 l0_1.length c0_1] 24 (0, 0)) (by (with_reducible repeat (fail)); exact BK366.out)) : gb366 ≠ gb399)); have n11_ := Aside0.mk ((by rw [hg]; exact Nat.ne_of_gt (blk_lt (g := gb366) (o := .cells #[.int .i64 a0_0, .slice A0_1 l0_1.length c0_1] 24 (0, 0)) (by (with_reducible repeat (fail)); exact BK366.out)) : gb399 ≠ gb366)); have n12_ := Aside0.mk ((by rw [hg]; exact Nat.ne_of_lt (blk_lt (g := gb374) (o := .cells #[.int .i64 t369, .slice Ao21 t370.length co21] 24 (0, 0)) (by (with_reducible repeat (fail)); exact BK374.out)) : gb374 ≠ gb399)); have n13_ := Aside0.mk ((by rw [hg]; exact Nat.ne_of_gt (blk_lt (g := gb374) (o := .cells #[.int .i64 t369, .slice Ao21 t370.length co21] 24 (0, 0)) (by (with_reducible repeat (fail)); exact BK374.out)) : gb399 ≠ gb374)); have n14_ := Aside0.mk ((by rw [hg]; exact Nat.ne_of_lt (blk_lt (g := gb380) (o := .cells #[.int .i64 t375, .slice Ao27 t376.length co27] 32 (0, 0)) (by (with_reducible repeat (fail)); exact BK380.out)) : gb380 ≠ gb399)); have n15_ := Aside0.mk ((by rw [hg]; exact Nat.ne_of_gt (blk_lt (g := gb380) (o := .cells #[.int .i64 t375, .slice Ao27 t376.length co27] 32 (0, 0)) (by (with_reducible repeat (fail)); exact BK380.out)) : gb399 ≠ gb380)); clear HO_375001; clear HO_381001; clear HO397; clear BK366; clear BK374; clear BK380; clear HB; have HO_375001 := n0_; have HO_381001 := n1_; have HO397 := n2_; have BK366 := n3_; have BK374 := n4_; have BK380 := n5_; have HB := n6_; have BK399 := n7_; have GW399 := n8_; have GE399 := n9_; have NB366_399 := n10_; have NB399_366 := n11_; have NB374_399 := n12_; have NB399_374 := n13_; have NB380_399 := n14_; have NB399_380 := n15_; clear n0_ n1_ n2_ n3_ n4_ n5_ n6_ n7_ n8_ n9_ n10_ n11_ n12_ n13_ n14_ n15_; clear hb hbox hg; have hnb134 := NB399_366.out; have hnc134 := NB366_399.out; have hnb135 := NB399_374.out; have hnc135 := NB374_399.out; have hnb136 := NB399_380.out; have hnc136 := NB380_399.out; have hcz137_0 : w133.cell? ⟨gb399, 0, none⟩ = some (.int .i64 0) := (blk_cell BK399.out 0).trans rfl; have hcz137_1 : w133.cell? ⟨gb399, 1, none⟩ = some (.slice none 0 0) := (blk_cell BK399.out 1).trans rfl; have hfz137_0 := blk_frozen BK399.out 0; have hfz137_1 := blk_frozen BK399.out 1; obtain ⟨Ao138, co138, eo138⟩ := Kd.R_slice HO397.out; subst eo138))
          have n0_ : Aside0 (Kd.R k53 53 ((w133.setCell ⟨gb399, 0, none⟩ (.int .i64 t394)).setCell ⟨gb399, 1, none⟩ (.slice Ao138 t395.length co138)) w.heap.size (fun k_ => some k_ ≠ (.slice Ao138 t395.length co138 : Value).ownBlock) (.slice Ao21 t370.length co21) t370) := ⟨by (with_reducible repeat (fail)); exact Kd.R_mono (Kd.R_far (p := ⟨gb399, 1, none⟩) (Kd.R_far (p := ⟨gb399, 0, none⟩) (Kd.R_types HO_375001.out BK399.out (by decide)) (fun _ hk => hk.2) (.int .i64 t394)) (fun _ hk => hk.2) (.slice Ao138 t395.length co138)) (fun _ hk => hk.1.2)⟩
          have n1_ : Aside0 (Kd.R k62 62 ((w133.setCell ⟨gb399, 0, none⟩ (.int .i64 t394)).setCell ⟨gb399, 1, none⟩ (.slice Ao138 t395.length co138)) w.heap.size (fun _ => True) (.slice Ao27 t376.length co27) t376) := ⟨by (with_reducible repeat (fail)); exact Kd.R_mono (Kd.R_far (p := ⟨gb399, 1, none⟩) (Kd.R_far (p := ⟨gb399, 0, none⟩) (Kd.R_types HO_381001.out BK399.out (by decide)) (fun _ hk => hk.2) (.int .i64 t394)) (fun _ hk => hk.2) (.slice Ao138 t395.length co138)) (fun _ hk => trivial)⟩
          have n2_ : Aside0 (Kd.R k53 53 ((w133.setCell ⟨gb399, 0, none⟩ (.int .i64 t394)).setCell ⟨gb399, 1, none⟩ (.slice Ao138 t395.length co138)) w.heap.size (fun k_ => some k_ ≠ (.slice Ao21 t370.length co21 : Value).ownBlock) (.slice Ao138 t395.length co138) t395) := ⟨by (with_reducible repeat (fail)); exact Kd.R_mono (Kd.R_far (p := ⟨gb399, 1, none⟩) (Kd.R_far (p := ⟨gb399, 0, none⟩) (Kd.R_types HO397.out BK399.out (by decide)) (fun _ hk => hk.2) (.int .i64 t394)) (fun _ hk => hk.2) (.slice Ao138 t395.length co138)) (fun _ hk => hk.1.2)⟩
          have n3_ : Aside0 (((w133.setCell ⟨gb399, 0, none⟩ (.int .i64 t394)).setCell ⟨gb399, 1, none⟩ (.slice Ao138 t395.length co138)).heap[gb366]? = some (.cells #[.int .i64 a0_0, .slice A0_1 l0_1.length c0_1] 24 (0, 0))) := ⟨by (with_reducible repeat (fail)); refine blk_far ?_ NB366_399.out _; (with_reducible repeat (fail)); refine blk_far ?_ NB366_399.out _; (with_reducible repeat (fail)); exact BK366.out⟩
          have n4_ : Aside0 (((w133.setCell ⟨gb399, 0, none⟩ (.int .i64 t394)).setCell ⟨gb399, 1, none⟩ (.slice Ao138 t395.length co138)).heap[gb374]? = some (.cells #[.int .i64 t369, .slice Ao21 t370.length co21] 24 (0, 0))) := ⟨by (with_reducible repeat (fail)); refine blk_far ?_ NB374_399.out _; (with_reducible repeat (fail)); refine blk_far ?_ NB374_399.out _; (with_reducible repeat (fail)); exact BK374.out⟩
          have n5_ : Aside0 (((w133.setCell ⟨gb399, 0, none⟩ (.int .i64 t394)).setCell ⟨gb399, 1, none⟩ (.slice Ao138 t395.length co138)).heap[gb380]? = some (.cells #[.int .i64 t375, .slice Ao27 t376.length co27] 32 (0, 0))) := ⟨by (with_reducible repeat (fail)); refine blk_far ?_ NB380_399.out _; (with_reducible repeat (fail)); refine blk_far ?_ NB380_399.out _; (with_reducible repeat (fail)); exact BK380.out⟩
          have n6_ : Aside0 (((w133.setCell ⟨gb399, 0, none⟩ (.int .i64 t394)).setCell ⟨gb399, 1, none⟩ (.slice Ao138 t395.length co138)).heap[gb399]? = some (.cells #[.int .i64 t394, .slice Ao138 t395.length co138] 24 (0, 0))) := ⟨by (with_reducible repeat (fail)); refine blk_put (cs := #[.int .i64 t394, .slice none 0 0]) ?_ 1 _ rfl; (with_reducible repeat (fail)); refine blk_put (cs := #[.int .i64 0, .slice none 0 0]) ?_ 0 _ rfl; (with_reducible repeat (fail)); exact BK399.out⟩
          have n7_ : Aside0 (Below w.heap.size w ((w133.setCell ⟨gb399, 0, none⟩ (.int .i64 t394)).setCell ⟨gb399, 1, none⟩ (.slice Ao138 t395.length co138))) := ⟨by repeat (first | (with_reducible first | exact HB.out | refine below_set ?_ GE399.out) )⟩
          (try clear HO_375001)
          (try clear HO_381001)
          (try clear HO397)
          (try clear BK366)
          (try clear BK374)
          (try clear BK380)
          (try clear BK399)
          (try clear HB)
          generalize ((w133.setCell ⟨gb399, 0, none⟩ (.int .i64 t394)).setCell ⟨gb399, 1, none⟩ (.slice Ao138 t395.length co138)) = w139 at n0_ n1_ n2_ n3_ n4_ n5_ n6_ n7_ ⊢
          have HO_375001 := n0_
          have HO_381001 := n1_
          have HO397 := n2_
          have BK366 := n3_
          have BK374 := n4_
          have BK380 := n5_
          have BK399 := n6_
          have HB := n7_
          clear n0_ n1_ n2_ n3_ n4_ n5_ n6_ n7_
          have n0_ := Aside0.mk (Kd.R_drew HO_375001.out)
          have n1_ := Aside0.mk (Kd.R_drew HO_381001.out)
          have n2_ := Aside0.mk (Kd.R_drew HO397.out)
          have n3_ := Aside0.mk (blk_drew BK366.out)
          have n4_ := Aside0.mk (blk_drew BK374.out)
          have n5_ := Aside0.mk (blk_drew BK380.out)
          have n6_ := Aside0.mk (blk_drew BK399.out)
          have n7_ := Aside0.mk (below_drew1 HB.out)
          clear HO_375001
          clear HO_381001
          clear HO397
          clear BK366
          clear BK374
          clear BK380
          clear BK399
          clear HB
          have HO_375001 := n0_
          have HO_381001 := n1_
          have HO397 := n2_
          have BK366 := n3_
          have BK374 := n4_
          have BK380 := n5_
          have BK399 := n6_
          have HB := n7_
          clear n0_ n1_ n2_ n3_ n4_ n5_ n6_ n7_
          refine start_ (n := 22) (S := fun w' => w'.cell? ⟨gb366, 0, none⟩ = some (.int .i64 a0_0) ∧ w'.cell? ⟨gb366, 1, none⟩ = some (.slice A0_1 l0_1.length c0_1)) (ds := []) #[false, false, false, false, false, false, false, false, false, false, false, false, false, false, false, false, false, false, false, false, false, false] (by kernel_rfl) rfl rfl ⟨(blk_cell BK366.out 0).trans rfl, (blk_cell BK366.out 1).trans rfl⟩ (fun hHeld => ?_); refine with_tabW caduceuslaw14_ViewReads.tab8 caduceuslaw14_ViewReads.bits8 (fun HT_ HW_ => ?_)
          generalize w139.drew = w140 at HO_375001 HO_381001 HO397 BK366 BK374 BK380 BK399 HB hHeld ⊢
          refine one_ (i := 0) (N := some 64) #[true, false, false, false, false, false, false, false, false, false, false, false, false, false, false, false, false, false, false, false, false, false] rfl rfl (one_of HT_.out (by kernel_rfl)) (by decide) (fun K hK => ?_)
          refine goes_ Try.func8 (by kernel_rfl) rfl #[] (by rfl) rfl rfl (by (try simp only [List.map_toArray, List.map_cons, List.map_nil]); first | done ) ?_
          with_reducible refine (caduceuslaw14_awake.calls kj15  true _ A84.out).mono ?_
          rintro e w141 ⟨rfl, hb⟩
          refine ⟨_, rfl, ?_⟩
          have n0_ := Aside0.mk (Kd.R_below (by (with_reducible repeat (fail)); exact HO_375001.out) hb)
          have n1_ := Aside0.mk (Kd.R_below (by (with_reducible repeat (fail)); exact HO_381001.out) hb)
          have n2_ := Aside0.mk (Kd.R_below (by (with_reducible repeat (fail)); exact HO397.out) hb)
          have n3_ := Aside0.mk (blk_below (g := gb366) (o := .cells #[.int .i64 a0_0, .slice A0_1 l0_1.length c0_1] 24 (0, 0)) (by (with_reducible repeat (fail)); exact BK366.out) hb)
          have n4_ := Aside0.mk (blk_below (g := gb374) (o := .cells #[.int .i64 t369, .slice Ao21 t370.length co21] 24 (0, 0)) (by (with_reducible repeat (fail)); exact BK374.out) hb)
          have n5_ := Aside0.mk (blk_below (g := gb380) (o := .cells #[.int .i64 t375, .slice Ao27 t376.length co27] 32 (0, 0)) (by (with_reducible repeat (fail)); exact BK380.out) hb)
          have n6_ := Aside0.mk (blk_below (g := gb399) (o := .cells #[.int .i64 t394, .slice Ao138 t395.length co138] 24 (0, 0)) (by (with_reducible repeat (fail)); exact BK399.out) hb)
          have n7_ := Aside0.mk (below_step (by repeat (first | (with_reducible first | exact HB.out ) )) hb)
          clear HO_375001
          clear HO_381001
          clear HO397
          clear BK366
          clear BK374
          clear BK380
          clear BK399
          clear HB
          have HO_375001 := n0_
          have HO_381001 := n1_
          have HO397 := n2_
          have BK366 := n3_
          have BK374 := n4_
          have BK380 := n5_
          have BK399 := n6_
          have HB := n7_
          clear n0_ n1_ n2_ n3_ n4_ n5_ n6_ n7_
          (try clear hb)
          (try clear hb2)
          (try clear hk)
          (try clear hi)
          refine hK.out _ _ ⟨(blk_cell BK366.out 0).trans rfl, (blk_cell BK366.out 1).trans rfl⟩ (fun hHeld => ?_)
          clear hK K
          refine norm_ (a' := ?_) ?_ ?_
          rotate_left
          ·show Act.put _ (some 64) _ = _
           simp only [Act.put, List.setIfInBounds_toArray, List.set_cons_zero, List.set_cons_succ, i64_w, i32_w]
           rfl
          refine pure_ (i := 1) (N := some 65) (v := ?_) (a' := ?_) #[true, true, false, false, false, false, false, false, false, false, false, false, false, false, false, false, false, false, false, false, false, false] rfl rfl (any_of HT_.out (by kernel_rfl)) (fun _ _ _ h => h) (Or.inl ⟨by rfl, ?_⟩) ?_ ?_
          rotate_left
          ·intro w'
           go_simp
           with_reducible rfl
          rotate_left
          ·simp only [Act.put, List.setIfInBounds_toArray, List.set_cons_zero, List.set_cons_succ, i64_w, i32_w]
           rfl
          refine take_ (i := 2) (N := some 66) (v := ?_) (a' := ?_) #[true, true, true, false, false, false, false, false, false, false, false, false, false, false, false, false, false, false, false, false, false, false] rfl rfl (take_ofW HT_.out HW_.out (by kernel_rfl)) (fun _ _ _ h => h) (Or.inl ⟨by rfl, ?_⟩) hHeld ?_ ?_
          rotate_left
          ·rintro w' ⟨s0, s1⟩
           go_simp
           with_reducible rfl
          rotate_left
          ·simp only [Act.put, List.setIfInBounds_toArray, List.set_cons_zero, List.set_cons_succ, i64_w, i32_w]
           rfl
          refine one_ (i := 3) (N := some 67) #[true, true, true, true, false, false, false, false, false, false, false, false, false, false, false, false, false, false, false, false, false, false] rfl rfl (one_of HT_.out (by kernel_rfl)) (by decide) (fun K hK => ?_)
          refine goes_ Try.func17 (by kernel_rfl) rfl #[.agg #[.int .i64 a0_0, .slice A0_1 l0_1.length c0_1]] (by rfl) rfl rfl (by (try simp only [List.map_toArray, List.map_cons, List.map_nil]); first | rfl ) ?_
          with_reducible refine (view_Check.calls kj15 a0_0 _ _ l0_1 false _ ?side1 ?side2 A86.out).mono ?_
          (case side1 => repeat (first | exact (Kd.C_below HR0_1.out HB.out) ))
          (case side2 => exact HC0_1.out)
          rintro e w142 ⟨rfl, hb⟩
          refine ⟨_, rfl, ?_⟩
          have n0_ := Aside0.mk (Kd.R_below (by (with_reducible repeat (fail)); exact HO_375001.out) hb)
          have n1_ := Aside0.mk (Kd.R_below (by (with_reducible repeat (fail)); exact HO_381001.out) hb)
          have n2_ := Aside0.mk (Kd.R_below (by (with_reducible repeat (fail)); exact HO397.out) hb)
          have n3_ := Aside0.mk (blk_below (g := gb366) (o := .cells #[.int .i64 a0_0, .slice A0_1 l0_1.length c0_1] 24 (0, 0)) (by (with_reducible repeat (fail)); exact BK366.out) hb)
          have n4_ := Aside0.mk (blk_below (g := gb374) (o := .cells #[.int .i64 t369, .slice Ao21 t370.length co21] 24 (0, 0)) (by (with_reducible repeat (fail)); exact BK374.out) hb)
          have n5_ := Aside0.mk (blk_below (g := gb380) (o := .cells #[.int .i64 t375, .slice Ao27 t376.length co27] 32 (0, 0)) (by (with_reducible repeat (fail)); exact BK380.out) hb)
          have n6_ := Aside0.mk (blk_below (g := gb399) (o := .cells #[.int .i64 t394, .slice Ao138 t395.length co138] 24 (0, 0)) (by (with_reducible repeat (fail)); exact BK399.out) hb)
          have n7_ := Aside0.mk (below_step (by repeat (first | (with_reducible first | exact HB.out ) )) hb)
          clear HO_375001
          clear HO_381001
          clear HO397
          clear BK366
          clear BK374
          clear BK380
          clear BK399
          clear HB
          have HO_375001 := n0_
          have HO_381001 := n1_
          have HO397 := n2_
          have BK366 := n3_
          have BK374 := n4_
          have BK380 := n5_
          have BK399 := n6_
          have HB := n7_
          clear n0_ n1_ n2_ n3_ n4_ n5_ n6_ n7_
          (try clear hb)
          (try clear hb2)
          (try clear hk)
          (try clear hi)
          refine hK.out _ _ ⟨(blk_cell BK366.out 0).trans rfl, (blk_cell BK366.out 1).trans rfl⟩ (fun hHeld => ?_)
          clear hK K
          refine norm_ (a' := ?_) ?_ ?_
          rotate_left
          ·show Act.put _ (some 67) _ = _
           simp only [Act.put, List.setIfInBounds_toArray, List.set_cons_zero, List.set_cons_succ, i64_w, i32_w]
           rfl
          refine pure_ (i := 4) (N := some 68) (v := ?_) (a' := ?_) #[true, true, true, true, true, false, false, false, false, false, false, false, false, false, false, false, false, false, false, false, false, false] rfl rfl (any_of HT_.out (by kernel_rfl)) (fun _ _ _ h => h) (Or.inl ⟨by rfl, ?_⟩) ?_ ?_
          rotate_left
          ·intro w'
           go_simp
           with_reducible rfl
          rotate_left
          ·simp only [Act.put, List.setIfInBounds_toArray, List.set_cons_zero, List.set_cons_succ, i64_w, i32_w]
           rfl
          refine pure_ (i := 5) (N := some 69) (v := ?_) (a' := ?_) #[true, true, true, true, true, true, false, false, false, false, false, false, false, false, false, false, false, false, false, false, false, false] rfl rfl (any_of HT_.out (by kernel_rfl)) (fun _ _ _ h => h) (Or.inl ⟨by rfl, ?_⟩) ?_ ?_
          rotate_left
          ·intro w'
           go_simp
           with_reducible rfl
          rotate_left
          ·simp only [Act.put, List.setIfInBounds_toArray, List.set_cons_zero, List.set_cons_succ, i64_w, i32_w]
           rfl
          refine pure_ (i := 6) (N := some 70) (v := ?_) (a' := ?_) #[true, true, true, true, true, true, true, false, false, false, false, false, false, false, false, false, false, false, false, false, false, false] rfl rfl (any_of HT_.out (by kernel_rfl)) (fun _ _ _ h => h) (Or.inl ⟨by rfl, ?_⟩) ?_ ?_
          rotate_left
          ·intro w'
           go_simp
           with_reducible rfl
          rotate_left
          ·simp only [Act.put, List.setIfInBounds_toArray, List.set_cons_zero, List.set_cons_succ, i64_w, i32_w]
           rfl
          refine pure_ (i := 7) (N := some 71) (v := ?_) (a' := ?_) #[true, true, true, true, true, true, true, true, false, false, false, false, false, false, false, false, false, false, false, false, false, false] rfl rfl (any_of HT_.out (by kernel_rfl)) (fun _ _ _ h => h) (Or.inl ⟨by rfl, ?_⟩) ?_ ?_
          rotate_left
          ·intro w'
           go_simp
           with_reducible rfl
          rotate_left
          ·simp only [Act.put, List.setIfInBounds_toArray, List.set_cons_zero, List.set_cons_succ, i64_w, i32_w]
           rfl
          refine pure_ (i := 8) (N := some 72) (v := ?_) (a' := ?_) #[true, true, true, true, true, true, true, true, true, false, false, false, false, false, false, false, false, false, false, false, false, false] rfl rfl (any_of HT_.out (by kernel_rfl)) (fun _ _ _ h => h) (Or.inl ⟨by rfl, ?_⟩) ?_ ?_
          rotate_left
          ·intro w'
           go_simp
           with_reducible rfl
          rotate_left
          ·simp only [Act.put, List.setIfInBounds_toArray, List.set_cons_zero, List.set_cons_succ, i64_w, i32_w]
           rfl
          refine pure_ (i := 9) (N := some 73) (v := ?_) (a' := ?_) #[true, true, true, true, true, true, true, true, true, true, false, false, false, false, false, false, false, false, false, false, false, false] rfl rfl (any_of HT_.out (by kernel_rfl)) (fun _ _ _ h => h) (Or.inl ⟨by rfl, ?_⟩) ?_ ?_
          rotate_left
          ·intro w'
           go_simp
           with_reducible rfl
          rotate_left
          ·simp only [Act.put, List.setIfInBounds_toArray, List.set_cons_zero, List.set_cons_succ, i64_w, i32_w]
           rfl
          refine pure_ (i := 10) (N := some 74) (v := undef) (a' := ?_) #[true, true, true, true, true, true, true, true, true, true, true, false, false, false, false, false, false, false, false, false, false, false] rfl rfl (any_of HT_.out (by kernel_rfl)) (fun _ _ _ h => h) (Or.inr ⟨by rfl, rfl⟩) ?_ ?_
          rotate_left
          ·simp only [Act.put, List.setIfInBounds_toArray, List.set_cons_zero, List.set_cons_succ, i64_w, i32_w]
           rfl
          refine pure_ (i := 11) (N := some 75) (v := undef) (a' := ?_) #[true, true, true, true, true, true, true, true, true, true, true, true, false, false, false, false, false, false, false, false, false, false] rfl rfl (any_of HT_.out (by kernel_rfl)) (fun _ _ _ h => h) (Or.inr ⟨by rfl, rfl⟩) ?_ ?_
          rotate_left
          ·simp only [Act.put, List.setIfInBounds_toArray, List.set_cons_zero, List.set_cons_succ, i64_w, i32_w]
           rfl
          refine pure_ (i := 12) (N := some 76) (v := undef) (a' := ?_) #[true, true, true, true, true, true, true, true, true, true, true, true, true, false, false, false, false, false, false, false, false, false] rfl rfl (any_of HT_.out (by kernel_rfl)) (fun _ _ _ h => h) (Or.inr ⟨by rfl, rfl⟩) ?_ ?_
          rotate_left
          ·simp only [Act.put, List.setIfInBounds_toArray, List.set_cons_zero, List.set_cons_succ, i64_w, i32_w]
           rfl
          refine pure_ (i := 13) (N := some 77) (v := undef) (a' := ?_) #[true, true, true, true, true, true, true, true, true, true, true, true, true, true, false, false, false, false, false, false, false, false] rfl rfl (any_of HT_.out (by kernel_rfl)) (fun _ _ _ h => h) (Or.inr ⟨by rfl, rfl⟩) ?_ ?_
          rotate_left
          ·simp only [Act.put, List.setIfInBounds_toArray, List.set_cons_zero, List.set_cons_succ, i64_w, i32_w]
           rfl
          refine pure_ (i := 14) (N := some 78) (v := undef) (a' := ?_) #[true, true, true, true, true, true, true, true, true, true, true, true, true, true, true, false, false, false, false, false, false, false] rfl rfl (any_of HT_.out (by kernel_rfl)) (fun _ _ _ h => h) (Or.inr ⟨by rfl, rfl⟩) ?_ ?_
          rotate_left
          ·simp only [Act.put, List.setIfInBounds_toArray, List.set_cons_zero, List.set_cons_succ, i64_w, i32_w]
           rfl
          refine pure_ (i := 15) (N := some 79) (v := undef) (a' := ?_) #[true, true, true, true, true, true, true, true, true, true, true, true, true, true, true, true, false, false, false, false, false, false] rfl rfl (any_of HT_.out (by kernel_rfl)) (fun _ _ _ h => h) (Or.inr ⟨by rfl, rfl⟩) ?_ ?_
          rotate_left
          ·simp only [Act.put, List.setIfInBounds_toArray, List.set_cons_zero, List.set_cons_succ, i64_w, i32_w]
           rfl
          refine pure_ (i := 16) (N := some 80) (v := undef) (a' := ?_) #[true, true, true, true, true, true, true, true, true, true, true, true, true, true, true, true, true, false, false, false, false, false] rfl rfl (any_of HT_.out (by kernel_rfl)) (fun _ _ _ h => h) (Or.inr ⟨by rfl, rfl⟩) ?_ ?_
          rotate_left
          ·simp only [Act.put, List.setIfInBounds_toArray, List.set_cons_zero, List.set_cons_succ, i64_w, i32_w]
           rfl
          refine pure_ (i := 17) (N := some 81) (v := undef) (a' := ?_) #[true, true, true, true, true, true, true, true, true, true, true, true, true, true, true, true, true, true, false, false, false, false] rfl rfl (any_of HT_.out (by kernel_rfl)) (fun _ _ _ h => h) (Or.inr ⟨by rfl, rfl⟩) ?_ ?_
          rotate_left
          ·simp only [Act.put, List.setIfInBounds_toArray, List.set_cons_zero, List.set_cons_succ, i64_w, i32_w]
           rfl
          refine pure_ (i := 18) (N := some 82) (v := undef) (a' := ?_) #[true, true, true, true, true, true, true, true, true, true, true, true, true, true, true, true, true, true, true, false, false, false] rfl rfl (any_of HT_.out (by kernel_rfl)) (fun _ _ _ h => h) (Or.inr ⟨by rfl, rfl⟩) ?_ ?_
          rotate_left
          ·simp only [Act.put, List.setIfInBounds_toArray, List.set_cons_zero, List.set_cons_succ, i64_w, i32_w]
           rfl
          refine pure_ (i := 19) (N := some 83) (v := ?_) (a' := ?_) #[true, true, true, true, true, true, true, true, true, true, true, true, true, true, true, true, true, true, true, true, false, false] rfl rfl (any_of HT_.out (by kernel_rfl)) (fun _ _ _ h => h) (Or.inl ⟨by rfl, ?_⟩) ?_ ?_
          rotate_left
          ·intro w'
           go_simp
           with_reducible rfl
          rotate_left
          ·simp only [Act.put, List.setIfInBounds_toArray, List.set_cons_zero, List.set_cons_succ, i64_w, i32_w]
           rfl
          refine pure_ (i := 20) (N := some 84) (v := ?_) (a' := ?_) #[true, true, true, true, true, true, true, true, true, true, true, true, true, true, true, true, true, true, true, true, true, false] rfl rfl (any_of HT_.out (by kernel_rfl)) (fun _ _ _ h => h) (Or.inl ⟨by rfl, ?_⟩) ?_ ?_
          rotate_left
          ·intro w'
           go_simp
           with_reducible rfl
          rotate_left
          ·simp only [Act.put, List.setIfInBounds_toArray, List.set_cons_zero, List.set_cons_succ, i64_w, i32_w]
           rfl
          refine pure_ (i := 21) (N := some 4) (v := ?_) (a' := ?_) #[true, true, true, true, true, true, true, true, true, true, true, true, true, true, true, true, true, true, true, true, true, true] rfl rfl (any_of HT_.out (by kernel_rfl)) (fun _ _ _ h => h) (Or.inl ⟨by rfl, ?_⟩) ?_ ?_
          rotate_left
          ·intro w'
           go_simp
           with_reducible rfl
          rotate_left
          ·simp only [Act.put, List.setIfInBounds_toArray, List.set_cons_zero, List.set_cons_succ, i64_w, i32_w]
           rfl
          refine done_ (done_of HT_.out (by kernel_rfl)) ?_
          try go_wp2
          go_ret
          exact ⟨by first | rfl , by repeat (first | (with_reducible first | exact HB.out ) )⟩
         ·rw [if_neg c127] at H
          cases H
       ·replace c85 := Bool.eq_false_iff.mpr c85
        subst c85
        have H1 : (none : Option _) = some r := by rw [if_neg (show ¬ (false = true) by decide)] at H; exact H
        cases H1
end Go.Proofs.Ytpdalofhekmbeaa.PViewReads
