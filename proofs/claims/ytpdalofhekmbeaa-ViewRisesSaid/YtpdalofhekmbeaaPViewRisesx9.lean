-- Written by a program of this session over the kit's printer (with contracts of the session's own).
import Derived.Test.YtpdalofhekmbeaaPViewRisesx0
import Derived.Test.YtpdalofhekmbeaaPViewRisesx1
import Derived.Test.YtpdalofhekmbeaaPViewRisesx2
import Derived.Test.YtpdalofhekmbeaaPViewRisesx3
import Derived.Test.YtpdalofhekmbeaaPViewRisesx7
import Derived.Test.YtpdalofhekmbeaaPViewRisesx8
namespace Go.Proofs.Ytpdalofhekmbeaa.PViewRises
open Go.RowKit Go.Proofs.YtpdalofhekmbeaaW.PrintWords Go.Proofs.YtpdalofhekmbeaaW.PrintLast Go.Proofs.YtpdalofhekmbeaaW.PrintMore
attribute [local go_sem] max2_int min2_int max_two min_two max_three min_three max_four min_four   -- for this text's walks alone
set_option linter.unusedVariables false
set_option linter.unusedSimpArgs false

attribute [local go_sem high] eqA53
/-! ### caduceuslaw14_ViewRises: function 5 -/
mutual
def caduceuslaw14_ViewRises.l0 : Nat → List (S51) → Int → Int → List (S53) → Option (Bool)
 | 0, _, _, _, _ => none
 | k + 1, x1, x7, x221000, x221001 => if x7 < (x1.length : Int) then (caduceuslaw14_ViewRises.j1 k x1 x7 (decide (x7 < 40)) x221000 x221001) else (caduceuslaw14_ViewRises.j1 k x1 x7 false x221000 x221001)
def caduceuslaw14_ViewRises.j1 : Nat → List (S51) → Int → Bool → Int → List (S53) → Option (Bool)
 | 0, _, _, _, _, _ => none
 | k + 1, x1, x7, x34, x221000, x221001 => if x34 = true then (if 0 ≤ x7 then (if x7 < (x1.length : Int) then ((view_Down.f k x221000 x221001 ((rd_T51 x1 x7).f0)).bind fun bt225 => (if (rd_T51 x1 x7).f1 = true then ((view_Up.f k x221000 x221001 ((rd_T51 x1 x7).f0)).bind fun bt233 => (caduceuslaw14_ViewRises.j2 k x1 x7 bt233.2.2 x221000 x221001 bt233.1 bt233.2.1)) else (caduceuslaw14_ViewRises.j2 k x1 x7 bt225.2.2 x221000 x221001 bt225.1 bt225.2.1))) else (none)) else (none)) else ((caduceuslaw14_awake.f k).bind fun t223 => (some t223))
def caduceuslaw14_ViewRises.j2 : Nat → List (S51) → Int → Int → Int → List (S53) → Int → List (S53) → Option (Bool)
 | 0, _, _, _, _, _, _, _ => none
 | k + 1, x1, x7, x9, x221000, x221001, x231000, x231001 => if x9 = 0 then ((view_Check.f k x231000 x231001).bind fun t238 => (if t238 = true then (if x231000 = (wrap64 (x221000 + 1)) then (caduceuslaw14_ViewRises.j3 k x1 x7 ((x231001.length : Int) != (x221001.length : Int)) x221000 x221001 x231000 x231001) else none) else none)) else (caduceuslaw14_ViewRises.l0 k x1 (wrap64 (x7 + 1)) x221000 x221001)
def caduceuslaw14_ViewRises.j3 : Nat → List (S51) → Int → Bool → Int → List (S53) → Int → List (S53) → Option (Bool)
 | 0, _, _, _, _, _, _, _ => none
 | k + 1, x1, x7, x83, x221000, x221001, x231000, x231001 => if x83 = true then none else (caduceuslaw14_ViewRises.l1 k x1 x7 0 x221000 x221001 x231000 x231001)
def caduceuslaw14_ViewRises.l1 : Nat → List (S51) → Int → Int → Int → List (S53) → Int → List (S53) → Option (Bool)
 | 0, _, _, _, _, _, _, _ => none
 | k + 1, x1, x7, x10, x221000, x221001, x231000, x231001 => if x10 < (x231001.length : Int) then (if 0 ≤ x10 then (if x10 < (x221001.length : Int) then (if ((rd_T53 x221001 x10).f0) = ((rd_T53 x231001 x10).f0) then (if 0 ≤ x7 then (if x7 < (x1.length : Int) then (if ((rd_T53 x221001 x10).f0) = ((rd_T51 x1 x7).f0) then (if (((rd_T53 x231001 x10).f2) != ((rd_T51 x1 x7).f1)) = true then none else (if (((rd_T53 x221001 x10).f2) == ((rd_T53 x231001 x10).f2)) = true then none else (if ((rd_T53 x231001 x10).f1) < ((rd_T53 x221001 x10).f1) then none else (if (rd_T51 x1 x7).f1 = true then (if ((rd_T53 x231001 x10).f1) = (wrap64 (((rd_T53 x221001 x10).f1) + 1)) then (caduceuslaw14_ViewRises.l1 k x1 x7 (wrap64 (x10 + 1)) x221000 x221001 x231000 x231001) else none) else (caduceuslaw14_ViewRises.l1 k x1 x7 (wrap64 (x10 + 1)) x221000 x221001 x231000 x231001))))) else (if (!(((rd_T53 x221001 x10).f0) == ((rd_T53 x231001 x10).f0)) || (!(((rd_T53 x221001 x10).f1) == ((rd_T53 x231001 x10).f1)) || (!(((rd_T53 x221001 x10).f2) == ((rd_T53 x231001 x10).f2))))) = true then none else (caduceuslaw14_ViewRises.l1 k x1 x7 (wrap64 (x10 + 1)) x221000 x221001 x231000 x231001))) else (none)) else (none)) else none) else (none)) else (none)) else ((view_Gone.f k x221000 x221001 x231000 x231001).bind fun t248 => (if 0 ≤ x7 then (if x7 < (x1.length : Int) then (if (rd_T51 x1 x7).f1 = true then (if (t248.length : Int) = 0 then (if ((rd_T51 x1 x7).f1 = true) then (caduceuslaw14_ViewRises.l0 k x1 (wrap64 (x7 + 1)) x231000 x231001) else (if (t248.length : Int) = 1 then (if 0 < (t248.length : Int) then (if (rd t248 0) = ((rd_T51 x1 x7).f0) then (caduceuslaw14_ViewRises.l0 k x1 (wrap64 (x7 + 1)) x231000 x231001) else none) else (none)) else none)) else none) else (if ((rd_T51 x1 x7).f1 = true) then (caduceuslaw14_ViewRises.l0 k x1 (wrap64 (x7 + 1)) x231000 x231001) else (if (t248.length : Int) = 1 then (if 0 < (t248.length : Int) then (if (rd t248 0) = ((rd_T51 x1 x7).f0) then (caduceuslaw14_ViewRises.l0 k x1 (wrap64 (x7 + 1)) x231000 x231001) else none) else (none)) else none))) else (none)) else (none)))
end
def caduceuslaw14_ViewRises.f (k : Nat) (l0 : List Int) (l1 : List (S51)) : Option (Bool) := (view_First.f k l0).bind fun bt215 => (if bt215.2.2 = 0 then (caduceuslaw14_ViewRises.l0 k l1 0 bt215.1 bt215.2.1) else ((caduceuslaw14_awake.f k).bind fun t221 => (if t221 = true then ((view_Check.f k bt215.1 bt215.2.1).bind fun t222 => (some (!t222))) else none)))
theorem caduceuslaw14_ViewRises.mono_l : ∀ k, (∀ y0 y1 y2 y3, LeO (caduceuslaw14_ViewRises.l0 k y0 y1 y2 y3) (caduceuslaw14_ViewRises.l0 (k + 1) y0 y1 y2 y3)) ∧ (∀ y0 y1 y2 y3 y4, LeO (caduceuslaw14_ViewRises.j1 k y0 y1 y2 y3 y4) (caduceuslaw14_ViewRises.j1 (k + 1) y0 y1 y2 y3 y4)) ∧ (∀ y0 y1 y2 y3 y4 y5 y6, LeO (caduceuslaw14_ViewRises.j2 k y0 y1 y2 y3 y4 y5 y6) (caduceuslaw14_ViewRises.j2 (k + 1) y0 y1 y2 y3 y4 y5 y6)) ∧ (∀ y0 y1 y2 y3 y4 y5 y6, LeO (caduceuslaw14_ViewRises.j3 k y0 y1 y2 y3 y4 y5 y6) (caduceuslaw14_ViewRises.j3 (k + 1) y0 y1 y2 y3 y4 y5 y6)) ∧ (∀ y0 y1 y2 y3 y4 y5 y6, LeO (caduceuslaw14_ViewRises.l1 k y0 y1 y2 y3 y4 y5 y6) (caduceuslaw14_ViewRises.l1 (k + 1) y0 y1 y2 y3 y4 y5 y6))
 | 0 => ⟨fun _ _ _ _ r h => by simp [caduceuslaw14_ViewRises.l0] at h, fun _ _ _ _ _ r h => by simp [caduceuslaw14_ViewRises.j1] at h, fun _ _ _ _ _ _ _ r h => by simp [caduceuslaw14_ViewRises.j2] at h, fun _ _ _ _ _ _ _ r h => by simp [caduceuslaw14_ViewRises.j3] at h, fun _ _ _ _ _ _ _ r h => by simp [caduceuslaw14_ViewRises.l1] at h⟩
 | k + 1 => by
  obtain ⟨ih0, ih1, ih2, ih3, ih4⟩ := caduceuslaw14_ViewRises.mono_l k
  refine ⟨?_, ?_, ?_, ?_, ?_⟩
  ·intro y0 y1 y2 y3
   unfold caduceuslaw14_ViewRises.l0
   repeat' first
   | (with_reducible exact ih0 _ _ _ _)
   | (with_reducible exact ih1 _ _ _ _ _)
   | (with_reducible exact ih2 _ _ _ _ _ _ _)
   | (with_reducible exact ih3 _ _ _ _ _ _ _)
   | (with_reducible exact ih4 _ _ _ _ _ _ _)
   | (with_reducible exact caduceuslaw14_awake.mono _)
   | (with_reducible exact view_Check.mono _ _ _)
   | (with_reducible exact view_Down.mono _ _ _ _)
   | (with_reducible exact view_First.mono _ _)
   | (with_reducible exact view_Gone.mono _ _ _ _ _)
   | (with_reducible exact view_Up.mono _ _ _ _)
   | (with_reducible exact LeO.refl _)
   | (with_reducible exact LeO.none _)
   | (with_reducible refine LeO.ite ?_ ?_)
   | (with_reducible refine LeO.bind ?_ (fun _ => ?_))
   | exact ih0 _ _ _ _
   | exact ih1 _ _ _ _ _
   | exact ih2 _ _ _ _ _ _ _
   | exact ih3 _ _ _ _ _ _ _
   | exact ih4 _ _ _ _ _ _ _
   | exact caduceuslaw14_awake.mono _
   | exact view_Check.mono _ _ _
   | exact view_Down.mono _ _ _ _
   | exact view_First.mono _ _
   | exact view_Gone.mono _ _ _ _ _
   | exact view_Up.mono _ _ _ _
   | exact LeO.none _
   | refine LeO.ite ?_ ?_
   | refine LeO.bind ?_ (fun _ => ?_)
  ·intro y0 y1 y2 y3 y4
   unfold caduceuslaw14_ViewRises.j1
   repeat' first
   | (with_reducible exact ih0 _ _ _ _)
   | (with_reducible exact ih1 _ _ _ _ _)
   | (with_reducible exact ih2 _ _ _ _ _ _ _)
   | (with_reducible exact ih3 _ _ _ _ _ _ _)
   | (with_reducible exact ih4 _ _ _ _ _ _ _)
   | (with_reducible exact caduceuslaw14_awake.mono _)
   | (with_reducible exact view_Check.mono _ _ _)
   | (with_reducible exact view_Down.mono _ _ _ _)
   | (with_reducible exact view_First.mono _ _)
   | (with_reducible exact view_Gone.mono _ _ _ _ _)
   | (with_reducible exact view_Up.mono _ _ _ _)
   | (with_reducible exact LeO.refl _)
   | (with_reducible exact LeO.none _)
   | (with_reducible refine LeO.ite ?_ ?_)
   | (with_reducible refine LeO.bind ?_ (fun _ => ?_))
   | exact ih0 _ _ _ _
   | exact ih1 _ _ _ _ _
   | exact ih2 _ _ _ _ _ _ _
   | exact ih3 _ _ _ _ _ _ _
   | exact ih4 _ _ _ _ _ _ _
   | exact caduceuslaw14_awake.mono _
   | exact view_Check.mono _ _ _
   | exact view_Down.mono _ _ _ _
   | exact view_First.mono _ _
   | exact view_Gone.mono _ _ _ _ _
   | exact view_Up.mono _ _ _ _
   | exact LeO.none _
   | refine LeO.ite ?_ ?_
   | refine LeO.bind ?_ (fun _ => ?_)
  ·intro y0 y1 y2 y3 y4 y5 y6
   unfold caduceuslaw14_ViewRises.j2
   repeat' first
   | (with_reducible exact ih0 _ _ _ _)
   | (with_reducible exact ih1 _ _ _ _ _)
   | (with_reducible exact ih2 _ _ _ _ _ _ _)
   | (with_reducible exact ih3 _ _ _ _ _ _ _)
   | (with_reducible exact ih4 _ _ _ _ _ _ _)
   | (with_reducible exact caduceuslaw14_awake.mono _)
   | (with_reducible exact view_Check.mono _ _ _)
   | (with_reducible exact view_Down.mono _ _ _ _)
   | (with_reducible exact view_First.mono _ _)
   | (with_reducible exact view_Gone.mono _ _ _ _ _)
   | (with_reducible exact view_Up.mono _ _ _ _)
   | (with_reducible exact LeO.refl _)
   | (with_reducible exact LeO.none _)
   | (with_reducible refine LeO.ite ?_ ?_)
   | (with_reducible refine LeO.bind ?_ (fun _ => ?_))
   | exact ih0 _ _ _ _
   | exact ih1 _ _ _ _ _
   | exact ih2 _ _ _ _ _ _ _
   | exact ih3 _ _ _ _ _ _ _
   | exact ih4 _ _ _ _ _ _ _
   | exact caduceuslaw14_awake.mono _
   | exact view_Check.mono _ _ _
   | exact view_Down.mono _ _ _ _
   | exact view_First.mono _ _
   | exact view_Gone.mono _ _ _ _ _
   | exact view_Up.mono _ _ _ _
   | exact LeO.none _
   | refine LeO.ite ?_ ?_
   | refine LeO.bind ?_ (fun _ => ?_)
  ·intro y0 y1 y2 y3 y4 y5 y6
   unfold caduceuslaw14_ViewRises.j3
   repeat' first
   | (with_reducible exact ih0 _ _ _ _)
   | (with_reducible exact ih1 _ _ _ _ _)
   | (with_reducible exact ih2 _ _ _ _ _ _ _)
   | (with_reducible exact ih3 _ _ _ _ _ _ _)
   | (with_reducible exact ih4 _ _ _ _ _ _ _)
   | (with_reducible exact caduceuslaw14_awake.mono _)
   | (with_reducible exact view_Check.mono _ _ _)
   | (with_reducible exact view_Down.mono _ _ _ _)
   | (with_reducible exact view_First.mono _ _)
   | (with_reducible exact view_Gone.mono _ _ _ _ _)
   | (with_reducible exact view_Up.mono _ _ _ _)
   | (with_reducible exact LeO.refl _)
   | (with_reducible exact LeO.none _)
   | (with_reducible refine LeO.ite ?_ ?_)
   | (with_reducible refine LeO.bind ?_ (fun _ => ?_))
   | exact ih0 _ _ _ _
   | exact ih1 _ _ _ _ _
   | exact ih2 _ _ _ _ _ _ _
   | exact ih3 _ _ _ _ _ _ _
   | exact ih4 _ _ _ _ _ _ _
   | exact caduceuslaw14_awake.mono _
   | exact view_Check.mono _ _ _
   | exact view_Down.mono _ _ _ _
   | exact view_First.mono _ _
   | exact view_Gone.mono _ _ _ _ _
   | exact view_Up.mono _ _ _ _
   | exact LeO.none _
   | refine LeO.ite ?_ ?_
   | refine LeO.bind ?_ (fun _ => ?_)
  ·intro y0 y1 y2 y3 y4 y5 y6
   unfold caduceuslaw14_ViewRises.l1
   repeat' first
   | (with_reducible exact ih0 _ _ _ _)
   | (with_reducible exact ih1 _ _ _ _ _)
   | (with_reducible exact ih2 _ _ _ _ _ _ _)
   | (with_reducible exact ih3 _ _ _ _ _ _ _)
   | (with_reducible exact ih4 _ _ _ _ _ _ _)
   | (with_reducible exact caduceuslaw14_awake.mono _)
   | (with_reducible exact view_Check.mono _ _ _)
   | (with_reducible exact view_Down.mono _ _ _ _)
   | (with_reducible exact view_First.mono _ _)
   | (with_reducible exact view_Gone.mono _ _ _ _ _)
   | (with_reducible exact view_Up.mono _ _ _ _)
   | (with_reducible exact LeO.refl _)
   | (with_reducible exact LeO.none _)
   | (with_reducible refine LeO.ite ?_ ?_)
   | (with_reducible refine LeO.bind ?_ (fun _ => ?_))
   | exact ih0 _ _ _ _
   | exact ih1 _ _ _ _ _
   | exact ih2 _ _ _ _ _ _ _
   | exact ih3 _ _ _ _ _ _ _
   | exact ih4 _ _ _ _ _ _ _
   | exact caduceuslaw14_awake.mono _
   | exact view_Check.mono _ _ _
   | exact view_Down.mono _ _ _ _
   | exact view_First.mono _ _
   | exact view_Gone.mono _ _ _ _ _
   | exact view_Up.mono _ _ _ _
   | exact LeO.none _
   | refine LeO.ite ?_ ?_
   | refine LeO.bind ?_ (fun _ => ?_)
theorem caduceuslaw14_ViewRises.mono : ∀ a0 a1 k, LeO (caduceuslaw14_ViewRises.f k a0 a1) (caduceuslaw14_ViewRises.f (k + 1) a0 a1) := by
 intro a0 a1 k
 obtain ⟨ih0, ih1, ih2, ih3, ih4⟩ := caduceuslaw14_ViewRises.mono_l k
 unfold caduceuslaw14_ViewRises.f
 repeat' first
   | (with_reducible exact ih0 _ _ _ _)
   | (with_reducible exact ih1 _ _ _ _ _)
   | (with_reducible exact ih2 _ _ _ _ _ _ _)
   | (with_reducible exact ih3 _ _ _ _ _ _ _)
   | (with_reducible exact ih4 _ _ _ _ _ _ _)
   | (with_reducible exact caduceuslaw14_awake.mono _)
   | (with_reducible exact view_Check.mono _ _ _)
   | (with_reducible exact view_Down.mono _ _ _ _)
   | (with_reducible exact view_First.mono _ _)
   | (with_reducible exact view_Gone.mono _ _ _ _ _)
   | (with_reducible exact view_Up.mono _ _ _ _)
   | (with_reducible exact LeO.refl _)
   | (with_reducible exact LeO.none _)
   | (with_reducible refine LeO.ite ?_ ?_)
   | (with_reducible refine LeO.bind ?_ (fun _ => ?_))
   | exact ih0 _ _ _ _
   | exact ih1 _ _ _ _ _
   | exact ih2 _ _ _ _ _ _ _
   | exact ih3 _ _ _ _ _ _ _
   | exact ih4 _ _ _ _ _ _ _
   | exact caduceuslaw14_awake.mono _
   | exact view_Check.mono _ _ _
   | exact view_Down.mono _ _ _ _
   | exact view_First.mono _ _
   | exact view_Gone.mono _ _ _ _ _
   | exact view_Up.mono _ _ _ _
   | exact LeO.none _
   | refine LeO.ite ?_ ?_
   | refine LeO.bind ?_ (fun _ => ?_)
def caduceuslaw14_ViewRises.T7 : Bool × List (List Nat × List Nat) := (true, [([], []), ([], []), ([], []), ([1, 2], [1, 2]), ([3], [3]), ([4], [4]), ([0, 5], [0, 5]), ([6], [6]), ([7], [7]), ([7], [7]), ([], []), ([10, 8, 6, 0, 1, 2, 3, 4, 5, 6, 7, 8, 10], [8, 10]), ([9, 11, 0, 1, 2, 3, 4, 5, 6, 7, 8, 9, 10, 11], [9])])
def caduceuslaw14_ViewRises.B7 : List Nat := [0, 0, 0, 6, 14, 30, 63, 127, 255, 255, 0, 1535, 4095]
theorem caduceuslaw14_ViewRises.tab7 : rtab .any (opsOf Try.f5 7) = caduceuslaw14_ViewRises.T7 := by kernel_rfl
theorem caduceuslaw14_ViewRises.bits7 : waitsOk caduceuslaw14_ViewRises.T7.2 caduceuslaw14_ViewRises.B7 = true := by kernel_rfl
def caduceuslaw14_ViewRises.T9 : Bool × List (List Nat × List Nat) := (true, [([], []), ([], []), ([], []), ([1, 2], [1, 2]), ([3], [3]), ([4], [4]), ([0, 5], [0, 5]), ([6], [6]), ([7], [7]), ([7], [7]), ([8, 6, 0, 1, 2, 3, 4, 5, 6, 7, 8], [8]), ([9, 10, 0, 1, 2, 3, 4, 5, 6, 7, 8, 9, 10], [9])])
def caduceuslaw14_ViewRises.B9 : List Nat := [0, 0, 0, 6, 14, 30, 63, 127, 255, 255, 511, 2047]
theorem caduceuslaw14_ViewRises.tab9 : rtab .any (opsOf Try.f5 9) = caduceuslaw14_ViewRises.T9 := by kernel_rfl
theorem caduceuslaw14_ViewRises.bits9 : waitsOk caduceuslaw14_ViewRises.T9.2 caduceuslaw14_ViewRises.B9 = true := by kernel_rfl
def caduceuslaw14_ViewRises.T16 : Bool × List (List Nat × List Nat) := (true, [([], []), ([0], [0]), ([], []), ([1, 2], [1, 2]), ([3], [3]), ([], []), ([5], [5]), ([], []), ([6, 7], [6, 7]), ([8], [8]), ([], []), ([], []), ([10, 4, 0, 1, 2, 3, 4, 10, 11], [4, 10]), ([11, 9, 12, 0, 1, 2, 3, 4, 5, 6, 7, 8, 9, 10, 11, 12], [9, 11])])
def caduceuslaw14_ViewRises.B16 : List Nat := [0, 1, 0, 7, 15, 0, 32, 0, 224, 480, 0, 0, 3103, 8191]
theorem caduceuslaw14_ViewRises.tab16 : rtab .any (opsOf Try.f5 16) = caduceuslaw14_ViewRises.T16 := by kernel_rfl
theorem caduceuslaw14_ViewRises.bits16 : waitsOk caduceuslaw14_ViewRises.T16.2 caduceuslaw14_ViewRises.B16 = true := by kernel_rfl
def caduceuslaw14_ViewRises.T17 : Bool × List (List Nat × List Nat) := (true, [([], []), ([0], [0]), ([], []), ([2], [2]), ([1, 3], [1, 3]), ([4], [4]), ([5], [5]), ([6, 5], [5, 6]), ([5], [5]), ([5], [5]), ([8, 9, 5], [5, 8, 9]), ([10, 5], [5, 10]), ([11, 5], [5, 11]), ([7, 12, 5], [5, 7, 12]), ([13, 5, 5], [5, 13]), ([14], [14]), ([14], [14]), ([15, 16, 14], [14, 15, 16]), ([14, 17, 5], [5, 14, 17]), ([5, 18], [5, 18]), ([19, 14], [19]), ([20], [20]), ([21, 20], [20, 21]), ([20], [20]), ([20], [20]), ([23, 24, 20], [20, 23, 24]), ([25, 20], [20, 25]), ([26, 20], [20, 26]), ([22, 27, 20], [20, 22, 27]), ([28, 20, 20], [20, 28]), ([29], [29]), ([30, 29], [29, 30]), ([29], [29]), ([29], [29]), ([32, 33, 29], [29, 32, 33]), ([34, 29], [29, 34]), ([35, 29], [29, 35]), ([31, 36, 29], [29, 31, 36]), ([37, 29, 29], [29, 37]), ([38], [38]), ([39, 38], [38, 39]), ([38], [38]), ([41, 38], [38, 41]), ([40, 42, 38], [38, 40, 42]), ([38, 43, 29], [29, 38, 43]), ([44, 38, 29], [29, 44]), ([45], [45]), ([46, 45], [45, 46]), ([45], [45]), ([48, 45], [45, 48]), ([47, 49, 45], [45, 47, 49]), ([45, 50, 29], [29, 45, 50]), ([51, 45, 29], [29, 51]), ([52], [52]), ([52], [52]), ([53, 54, 52], [52, 53, 54]), ([55, 52], [52, 55]), ([56, 52], [52, 56]), ([57, 52, 52], [52, 57]), ([58], [58]), ([59, 58], [58, 59]), ([58], [58]), ([61, 58], [58, 61]), ([62, 58], [58, 62]), ([60, 63, 58], [58, 60, 63]), ([58, 64, 52], [52, 58, 64]), ([52, 65, 29], [29, 52, 65]), ([29, 66, 20], [20, 29, 66]), ([20, 67], [20, 67])])
def caduceuslaw14_ViewRises.B17 : List Nat := [0, 1, 0, 4, 15, 31, 63, 127, 63, 63, 831, 1855, 3903, 8191, 16383, 32767, 32767, 131071, 262143, 524287, 1048575, 2097151, 4194303, 2097151, 2097151, 27262975, 60817407, 127926271, 268435455, 536870911, 1073741823, 2147483647, 1073741823, 1073741823, 13958643711, 31138512895, 65498251263, 137438953471, 274877906943, 549755813887, 1099511627775, 549755813887, 2748779069439, 8796093022207, 17592186044415, 35184372088831, 70368744177663, 140737488355327, 70368744177663, 351843720888319, 1125899906842623, 2251799813685247, 4503599627370495, 9007199254740991, 9007199254740991, 36028797018963967, 72057594037927935, 144115188075855871, 288230376151711743, 576460752303423487, 1152921504606846975, 576460752303423487, 2882303761517117439, 7493989779944505343, 18446744073709551615, 36893488147419103231, 73786976294838206463, 147573952589676412927, 295147905179352825855]
theorem caduceuslaw14_ViewRises.tab17 : rtab .any (opsOf Try.f5 17) = caduceuslaw14_ViewRises.T17 := by kernel_rfl
theorem caduceuslaw14_ViewRises.bits17 : waitsOk caduceuslaw14_ViewRises.T17.2 caduceuslaw14_ViewRises.B17 = true := by kernel_rfl
def caduceuslaw14_ViewRises.T20 : Bool × List (List Nat × List Nat) := (true, [([], []), ([], []), ([0, 1], [0, 1]), ([2], [2]), ([3], [3]), ([4], [4]), ([5], [5]), ([6, 5], [5, 6]), ([7, 5], [5, 7]), ([5, 8], [5, 8]), ([9, 5], [9]), ([10], [10]), ([10], [10]), ([11, 12, 10], [10, 11, 12]), ([13, 10], [10, 13]), ([14, 10], [10, 14]), ([15, 10], [10, 15]), ([16, 10, 10], [10, 16]), ([17], [17]), ([18, 17], [17, 18]), ([19, 17], [17, 19]), ([20, 17, 17], [17, 20]), ([21], [21]), ([22, 21], [21, 22]), ([23, 21], [21, 23]), ([21], [21]), ([21], [21]), ([25, 26, 21], [21, 25, 26]), ([27, 21], [21, 27]), ([28, 21], [21, 28]), ([24, 29, 21], [21, 24, 29]), ([21, 30, 17], [17, 21, 30]), ([17, 31, 10], [10, 17, 31]), ([10, 32], [10, 32])])
def caduceuslaw14_ViewRises.B20 : List Nat := [0, 0, 3, 7, 15, 31, 63, 127, 255, 511, 1023, 2047, 2047, 8191, 16383, 32767, 65535, 131071, 262143, 524287, 1048575, 2097151, 4194303, 8388607, 16777215, 4194303, 4194303, 104857599, 239075327, 507510783, 1073741823, 2147483647, 4294967295, 8589934591]
theorem caduceuslaw14_ViewRises.tab20 : rtab .any (opsOf Try.f5 20) = caduceuslaw14_ViewRises.T20 := by kernel_rfl
theorem caduceuslaw14_ViewRises.bits20 : waitsOk caduceuslaw14_ViewRises.T20.2 caduceuslaw14_ViewRises.B20 = true := by kernel_rfl
set_option maxHeartbeats 8000000 in
set_option maxRecDepth 100000 in
theorem caduceuslaw14_ViewRises.calls (k : Nat) (A0 : Option Addr) (c0 : Nat) (l0 : List Int) (A1 : Option Addr) (c1 : Nat) (l1 : List (S51)) (r : Bool) (w : World) (hr0 : Kd.C (Kd.int .i64) w A0 l0.length l0) (hc0 : l0.length ≤ c0) (hr1 : Kd.C k51 w A1 l1.length l1) (hc1 : l1.length ≤ c1) (h : caduceuslaw14_ViewRises.f k l0 l1 = some r) :
  Calls Try.prog 5 #[.slice A0 l0.length c0, .slice A1 l1.length c1] w fun e w' => e = .returned (.bool r) ∧ Below w.heap.size w w' := by
 have hu24 := Try.underlying24
 have hu53 := Try.underlying53
 have HR0 := Aside0.mk hr0
 have HC0 := Aside0.mk hc0
 clear hr0 hc0
 have HR1 := Aside0.mk hr1
 have HC1 := Aside0.mk hc1
 clear hr1 hc1
 have HB := Aside0.mk (Below.refl w.heap.size w)
 have H : ((view_First.f k l0).bind fun bt215 => (if bt215.2.2 = 0 then (caduceuslaw14_ViewRises.l0 k l1 0 bt215.1 bt215.2.1) else ((caduceuslaw14_awake.f k).bind fun t221 => (if t221 = true then ((view_Check.f k bt215.1 bt215.2.1).bind fun t222 => (some (!t222))) else none)))) = some r := h
 clear h
 replace H := Option.bind_eq_some_iff.mp H
 obtain ⟨⟨t215, t216, t219⟩, A30, H⟩ := H
 replace H : (if t219 = 0 then (caduceuslaw14_ViewRises.l0 k l1 0 t215 t216) else ((caduceuslaw14_awake.f k).bind fun t221 => (if t221 = true then ((view_Check.f k t215 t216).bind fun t222 => (some (!t222))) else none))) = some r := H
 have A3 := Aside0.mk A30
 clear A30
 by_cases c4 : t219 = 0
 ·rw [if_pos c4] at H
  have c4b0 : (t219 == 0) = true := beq_iff_eq.mpr c4
  have c4b1 : (t219 != 0) = false := bne_eq_false_iff_eq.mpr c4
  clear c4
  have H' := Aside0.mk H
  clear H
  go_enter Try.func5, Try.ntmps5
  go_wp2_with (first | ((with_reducible refine gate_callee (f := 14) rfl ?_); refine goesL_ (some 16) rfl rfl Try.func14 (by kernel_rfl) rfl #[.slice A0 l0.length c0] rfl (by (try simp only [List.map_toArray, List.map_cons, List.map_nil]); first | done | rfl | (simp only [List.length_drop, List.length_take]; rfl)) ?_; (with_reducible refine (view_First.calls k _ _ l0 t215 t216 t219 _ ?side1 ?side2 A3.out).mono ?_); (case side1 => repeat (first | exact HR0.out | (with_reducible refine Kd.C_alloc ?_ _) | (with_reducible refine Kd.C_drewN ?_ _) | (with_reducible refine Kd.C_drew ?_))); (case side2 => exact HC0.out); rintro e w5 ⟨v217, rfl, ho0, hb⟩; refine ⟨_, rfl, ?_⟩; have n0_ := Aside0.mk (Kd.R_lower ho0 (below_size (by repeat (first | (with_reducible first | exact HB.out | apply below_alloc | apply pw_below_drewN | apply below_drew1) | exact HB.out)))); have n1_ := Aside0.mk (below_step (by repeat (first | (with_reducible first | exact HB.out | apply below_alloc | apply pw_below_drewN | apply below_drew1) | exact HB.out)) hb); clear HB; have HO218 := n0_; have HB := n1_; clear n0_ n1_; (try clear hb); (try clear hb2); (try clear hk); (try clear hi); (try clear ho0)) | ((with_reducible refine gate_dst (N := 5) rfl ?_); (try (refine gate_guard (by rfl) ?_; dsimp only)); refine box_event ?hg (N := 5) ?hd (cs := #[.int .i64 0, .slice none 0 0]) (t := 24) ?hr ?_; (case hd => rfl); (case hg => rfl); (case hr => first | (go_simp; done) | (go_simp; rfl)); intro gb220 hg w6 hbox hb; have n0_ := Aside0.mk (Kd.R_below (by (with_reducible repeat (first | apply Kd.R_alloc | apply Kd.R_drewN | apply Kd.R_drew)); exact HO218.out) hb); have n1_ := Aside0.mk (below_step (by repeat (first | (with_reducible first | exact HB.out | apply below_alloc | apply pw_below_drewN | apply below_drew1) | exact HB.out)) hb); have n2_ := Aside0.mk (hbox); have n3_ := Aside0.mk ((by rw [hg]; exact (below_size (by repeat (first | (with_reducible first | exact HB.out | apply below_alloc | apply pw_below_drewN | apply below_drew1) | exact HB.out))) : w.heap.size ≤ gb220)); have n4_ := Aside0.mk ((by rw [hg]; exact (below_size (by repeat (first | (with_reducible first | exact HB.out | apply below_alloc | apply pw_below_drewN | apply below_drew1) | exact HB.out))) : w.heap.size ≤ gb220)); clear HO218; clear HB; have HO218 := n0_; have HB := n1_; have BK220 := n2_; have GW220 := n3_; have GE220 := n4_; clear n0_ n1_ n2_ n3_ n4_; clear hb hbox hg; have hcz7_0 : w6.cell? ⟨gb220, 0, none⟩ = some (.int .i64 0) := (blk_cell BK220.out 0).trans rfl; have hcz7_1 : w6.cell? ⟨gb220, 1, none⟩ = some (.slice none 0 0) := (blk_cell BK220.out 1).trans rfl; have hfz7_0 := blk_frozen BK220.out 0; have hfz7_1 := blk_frozen BK220.out 1; obtain ⟨Ao8, co8, eo8⟩ := Kd.R_slice HO218.out; subst eo8))
  go_loopg [7] k (fun kq v7 w' => ∃ (x7_1 : Int) (x221000_1 : Int) (x221001_1 : List (S53)) (u221001 : Value), v7 = .int .i64 x7_1 ∧ Aside0 (caduceuslaw14_ViewRises.l0 kq l1 x7_1 x221000_1 x221001_1 = some r) ∧ Aside0 (kq ≤ k) ∧ Aside0 (Kd.R k53 53 w' w.heap.size (fun _ => True) u221001 x221001_1) ∧ Aside0 (w'.heap[gb220]? = some (.cells #[.int .i64 x221000_1, u221001] 24 (0, 0))) ∧ Aside0 (Below w.heap.size w w'))
  case atStart => exact ⟨(0), (t215), (t216), (.slice Ao8 t216.length co8), (by first | rfl | (simp; done) | (simp [*]; done)), H', ⟨Nat.le_refl _⟩, ⟨by (with_reducible repeat (first | apply Kd.R_alloc | apply Kd.R_drewN | apply Kd.R_drew)); exact Kd.R_mono (Kd.R_far (p := ⟨gb220, 1, none⟩) (Kd.R_far (p := ⟨gb220, 0, none⟩) (Kd.R_types HO218.out BK220.out (by decide)) (fun _ hk => hk.2) (.int .i64 t215)) (fun _ hk => hk.2) (.slice Ao8 t216.length co8)) (fun _ hk => trivial)⟩, ⟨by (with_reducible repeat (first | refine blk_drewN ?_ _ | refine blk_drew ?_ | refine blk_alloc ?_ _)); refine blk_put (cs := #[.int .i64 t215, .slice none 0 0]) ?_ 1 _ rfl; (with_reducible repeat (first | refine blk_drewN ?_ _ | refine blk_drew ?_ | refine blk_alloc ?_ _)); refine blk_put (cs := #[.int .i64 0, .slice none 0 0]) ?_ 0 _ rfl; (with_reducible repeat (first | refine blk_drewN ?_ _ | refine blk_drew ?_ | refine blk_alloc ?_ _)); exact BK220.out⟩, ⟨by repeat (first | (with_reducible first | exact HB.out | apply below_alloc | apply pw_below_drewN | apply below_drew1 | refine below_set ?_ GE220.out) | exact HB.out)⟩⟩
  case round =>
   clear H'
   try clear c1
   try clear p2
   try clear c4
   try clear c4b0
   try clear c4b1
   try clear c5
   try clear hcz7_0
   try clear hcz7_1
   try clear hfz7_0
   try clear hfz7_1
   obtain ⟨x7_1, x221000_1, x221001_1, u221001, rfl, HA, HK1, HO_221001, BK220, HB⟩ := hrel
   cases gk with
   | zero => exact absurd HA.out (by simp [caduceuslaw14_ViewRises.l0])
   | succ k1 =>
    have H := HA.out
    clear HA
    simp only [caduceuslaw14_ViewRises.l0] at H
    have HC9 := Aside0.mk H
    clear H
    go_upto_region 5 with (fail)
    go_cut [34] (fun v34 wc => ∃ (kq : Nat) (x34_8 : Bool), v34 = .bool x34_8 ∧ Aside0 (caduceuslaw14_ViewRises.j1 kq l1 x7_1 x34_8 x221000_1 x221001_1 = some r) ∧ Aside0 (kq ≤ k1) ∧ Aside0 (Kd.R k53 53 wc w.heap.size (fun _ => True) u221001 x221001_1) ∧ Aside0 (wc.heap[gb220]? = some (.cells #[.int .i64 x221000_1, u221001] 24 (0, 0))) ∧ Aside0 (Below w.heap.size w wc))
    case first =>
     have H := HC9.out
     clear HC9
     by_cases c10 : x7_1 < (l1.length : Int)
     ·rw [if_pos c10] at H
      have c10b0 : decide (x7_1 < (l1.length : Int)) = true := decide_eq_true c10
      clear c10
      (first | rw [c10b0] | (simp only [i64_w, i32_w]; rw [c10b0]) | skip)
      have H' := Aside0.mk H
      clear H
      go_wp2
      go_meet
      case rel => exact ⟨_, (decide (x7_1 < 40)), (by first | rfl | (simp; done) | (simp [*]; done)), H', ⟨by have := HK1.out; first | omega | exact Nat.le_refl _⟩, ⟨by (with_reducible repeat (first | apply Kd.R_alloc | apply Kd.R_drewN | apply Kd.R_drew)); exact HO_221001.out⟩, ⟨by (with_reducible repeat (first | refine blk_drewN ?_ _ | refine blk_drew ?_ | refine blk_alloc ?_ _)); exact BK220.out⟩, ⟨by repeat (first | (with_reducible first | exact HB.out | apply below_alloc | apply pw_below_drewN | apply below_drew1 | refine below_set ?_ GE220.out) | exact HB.out)⟩⟩
     ·rw [if_neg c10] at H
      have c10b0 : decide (x7_1 < (l1.length : Int)) = false := decide_eq_false c10
      clear c10
      (first | rw [c10b0] | (simp only [i64_w, i32_w]; rw [c10b0]) | skip)
      have H' := Aside0.mk H
      clear H
      go_wp2
      go_meet
      case rel => exact ⟨_, (false), (by first | rfl | (simp; done) | (simp [*]; done)), H', ⟨by have := HK1.out; first | omega | exact Nat.le_refl _⟩, ⟨by (with_reducible repeat (first | apply Kd.R_alloc | apply Kd.R_drewN | apply Kd.R_drew)); exact HO_221001.out⟩, ⟨by (with_reducible repeat (first | refine blk_drewN ?_ _ | refine blk_drew ?_ | refine blk_alloc ?_ _)); exact BK220.out⟩, ⟨by repeat (first | (with_reducible first | exact HB.out | apply below_alloc | apply pw_below_drewN | apply below_drew1 | refine below_set ?_ GE220.out) | exact HB.out)⟩⟩
    case rest =>
     clear HC9
     try clear c1
     try clear p2
     try clear c4
     try clear c4b0
     try clear c4b1
     try clear c5
     try clear c10
     try clear c10b0
     try clear hcz7_0
     try clear hcz7_1
     try clear hfz7_0
     try clear hfz7_1
     try clear p2
     obtain ⟨kq, x34_8, rfl, HA, HJ8, HO_221001, BK220, HB⟩ := hcut
     cases kq with
     | zero => exact absurd HA.out (by simp [caduceuslaw14_ViewRises.j1])
     | succ kj8 =>
      have H := HA.out
      clear HA
      simp only [caduceuslaw14_ViewRises.j1] at H
      by_cases c11 : x34_8 = true
      ·subst c11
       have H1 : (if 0 ≤ x7_1 then (if x7_1 < (l1.length : Int) then ((view_Down.f kj8 x221000_1 x221001_1 ((rd_T51 l1 x7_1).f0)).bind fun bt225 => (if (rd_T51 l1 x7_1).f1 = true then ((view_Up.f kj8 x221000_1 x221001_1 ((rd_T51 l1 x7_1).f0)).bind fun bt233 => (caduceuslaw14_ViewRises.j2 kj8 l1 x7_1 bt233.2.2 x221000_1 x221001_1 bt233.1 bt233.2.1)) else (caduceuslaw14_ViewRises.j2 kj8 l1 x7_1 bt225.2.2 x221000_1 x221001_1 bt225.1 bt225.2.1))) else (none)) else (none)) = some r := by rw [if_pos rfl] at H; exact H
       clear H
       have H := H1
       clear H1
       by_cases c12 : 0 ≤ x7_1
       ·rw [if_pos c12] at H
        have c12b0 : decide (0 ≤ x7_1) = true := decide_eq_true c12
        clear c12
        by_cases c13 : x7_1 < (l1.length : Int)
        ·rw [if_pos c13] at H
         have c13b0 : decide (x7_1 < (l1.length : Int)) = true := decide_eq_true c13
         clear c13
         replace H := Option.bind_eq_some_iff.mp H
         obtain ⟨⟨t225, t226, t229⟩, A140, H⟩ := H
         replace H : (if (rd_T51 l1 x7_1).f1 = true then ((view_Up.f kj8 x221000_1 x221001_1 ((rd_T51 l1 x7_1).f0)).bind fun bt233 => (caduceuslaw14_ViewRises.j2 kj8 l1 x7_1 bt233.2.2 x221000_1 x221001_1 bt233.1 bt233.2.1)) else (caduceuslaw14_ViewRises.j2 kj8 l1 x7_1 t229 x221000_1 x221001_1 t225 t226)) = some r := H
         have A14 := Aside0.mk A140
         clear A140
         have HC15 := Aside0.mk H
         clear H
         obtain ⟨Ao16, co16, eo16⟩ := Kd.R_slice HO_221001.out
         subst eo16
         try go_wp2
         have n0_ := Aside0.mk (Kd.R_drew HO_221001.out)
         have n1_ := Aside0.mk (blk_drew BK220.out)
         have n2_ := Aside0.mk (below_drew1 HB.out)
         clear HO_221001
         clear BK220
         clear HB
         have HO_221001 := n0_
         have BK220 := n1_
         have HB := n2_
         clear n0_ n1_ n2_
         have p224 : 0 ≤ (x7_1 : Int) := of_decide_eq_true (by first | (with_reducible assumption) | assumption)
         have q224 : x7_1 < (l1.length : Int) := of_decide_eq_true (by first | (with_reducible assumption) | assumption)
         obtain ⟨ad224, e224, hx224_0, hx224_1⟩ := at_T51 HR1.out x7_1 p224 q224
         have hw224_1 := hx224_1
         have hw224_0 := hx224_0
         cases e224
         replace hx224_0 := (HB.out.cell (World.block_lt_of_cell? w _ hx224_0)).trans hx224_0
         replace hx224_1 := (HB.out.cell (World.block_lt_of_cell? w _ hx224_1)).trans hx224_1
         replace p224 := eq_true p224
         replace q224 := eq_true q224
         refine start_ (n := 13) (S := fun w' => w'.cell? ⟨gb220, 0, none⟩ = some (.int .i64 x221000_1) ∧ w'.cell? ⟨gb220, 1, none⟩ = some (.slice Ao16 x221001_1.length co16) ∧ w'.cell? (ad224.add ((x7_1).toNat * 2)) = some (.int .i64 ((rd_T51 l1 x7_1).f0)) ∧ w'.cell? ⟨(ad224.add ((x7_1).toNat * 2)).block, (ad224.add ((x7_1).toNat * 2)).off + 1, none⟩ = some (.bool ((rd_T51 l1 x7_1).f1))) (ds := []) #[false, false, false, false, false, false, false, false, false, false, false, false, false] (by kernel_rfl) rfl rfl ⟨(blk_cell BK220.out 0).trans rfl, (blk_cell BK220.out 1).trans rfl, ((HB.out.cell (World.block_lt_of_cell? w _ hw224_0)).trans hw224_0), ((HB.out.cell (World.block_lt_of_cell? w _ hw224_1)).trans hw224_1)⟩ (fun hHeld => ?_); refine with_tabW caduceuslaw14_ViewRises.tab7 caduceuslaw14_ViewRises.bits7 (fun HT_ HW_ => ?_)
         generalize wc.drew = w17 at HO_221001 BK220 HB hx224_0 hx224_1 hHeld ⊢
         refine pure_ (i := 1) (N := some 39) (v := ?_) (a' := ?_) #[false, true, false, false, false, false, false, false, false, false, false, false, false] rfl rfl (any_of HT_.out (by kernel_rfl)) (fun _ _ _ h => h) (Or.inl ⟨by rfl, ?_⟩) ?_ ?_; rotate_left; (intro w'; go_simp; with_reducible rfl); rotate_left; (simp only [Act.put, List.setIfInBounds_toArray, List.set_cons_zero, List.set_cons_succ, i64_w, i32_w]; rfl)
         refine pure_ (i := 2) (N := some 40) (v := ?_) (a' := ?_) #[false, true, true, false, false, false, false, false, false, false, false, false, false] rfl rfl (any_of HT_.out (by kernel_rfl)) (fun _ _ _ h => h) (Or.inl ⟨by rfl, ?_⟩) ?_ ?_; rotate_left; (intro w'; go_simp; with_reducible rfl); rotate_left; (simp only [Act.put, List.setIfInBounds_toArray, List.set_cons_zero, List.set_cons_succ, i64_w, i32_w]; rfl)
         refine pure_ (i := 3) (N := some 41) (v := ?_) (a' := ?_) #[false, true, true, true, false, false, false, false, false, false, false, false, false] rfl rfl (any_of HT_.out (by kernel_rfl)) (fun _ _ _ h => h) (Or.inl ⟨by rfl, ?_⟩) ?_ ?_; rotate_left; (intro w'; go_simp; with_reducible rfl); rotate_left; (simp only [Act.put, List.setIfInBounds_toArray, List.set_cons_zero, List.set_cons_succ, i64_w, i32_w]; rfl)
         refine pure_ (i := 4) (N := some 42) (v := ?_) (a' := ?_) #[false, true, true, true, true, false, false, false, false, false, false, false, false] rfl rfl (any_of HT_.out (by kernel_rfl)) (fun _ _ _ h => h) (Or.inl ⟨by rfl, ?_⟩) ?_ ?_; rotate_left; (intro w'; go_simp; with_reducible rfl); rotate_left; (simp only [Act.put, List.setIfInBounds_toArray, List.set_cons_zero, List.set_cons_succ, i64_w, i32_w]; rfl)
         refine take_ (i := 0) (N := some 38) (v := ?_) (a' := ?_) #[true, true, true, true, true, false, false, false, false, false, false, false, false] rfl rfl (take_ofW HT_.out HW_.out (by kernel_rfl)) (fun _ _ _ h => h) (Or.inl ⟨by rfl, ?_⟩) hHeld ?_ ?_
         rotate_left
         ·rintro w' ⟨s0, s1, s2, s3⟩
          go_simp
          with_reducible rfl
         rotate_left
         ·simp only [Act.put, List.setIfInBounds_toArray, List.set_cons_zero, List.set_cons_succ, i64_w, i32_w]
          rfl
         refine take_ (i := 5) (N := some 43) (v := ?_) (a' := ?_) #[true, true, true, true, true, true, false, false, false, false, false, false, false] rfl rfl (take_ofW HT_.out HW_.out (by kernel_rfl)) (fun _ _ _ h => h) (Or.inl ⟨by rfl, ?_⟩) hHeld ?_ ?_
         rotate_left
         ·rintro w' ⟨s0, s1, s2, s3⟩
          go_simp
          with_reducible rfl
         rotate_left
         ·simp only [Act.put, List.setIfInBounds_toArray, List.set_cons_zero, List.set_cons_succ, i64_w, i32_w]
          rfl
         refine join_ (σ := Value × Nat) 2 #[true, true, true, true, true, true, true, true, true, true, true, false, false] (fun s_ => [(44, .tuple #[.agg #[.int .i64 t225, s_.1], .int .i64 t229]), (8, .pointer (some ⟨s_.2, 0, none⟩)), (37, .tuple #[.agg #[.int .i64 t225, s_.1], .int .i64 t229]), (45, .agg #[.int .i64 t225, s_.1]), (46, .int .i64 t229)]) (fun s_ w' => (w'.cell? ⟨gb220, 0, none⟩ = some (.int .i64 x221000_1) ∧ w'.cell? ⟨gb220, 1, none⟩ = some (.slice Ao16 x221001_1.length co16) ∧ w'.cell? (ad224.add ((x7_1).toNat * 2)) = some (.int .i64 ((rd_T51 l1 x7_1).f0)) ∧ w'.cell? ⟨(ad224.add ((x7_1).toNat * 2)).block, (ad224.add ((x7_1).toNat * 2)).off + 1, none⟩ = some (.bool ((rd_T51 l1 x7_1).f1))) ∧ (Kd.R k53 53 w' w.heap.size (fun k_ => some k_ ≠ (.slice Ao16 x221001_1.length co16 : Value).ownBlock) s_.1 t226) ∧ (Kd.R k53 53 w' w.heap.size (fun k_ => some k_ ≠ (s_.1 : Value).ownBlock) (.slice Ao16 x221001_1.length co16) x221001_1) ∧ (w'.heap[gb220]? = some (.cells #[.int .i64 x221000_1, .slice Ao16 x221001_1.length co16] 24 (0, 0))) ∧ (w'.heap[s_.2]? = some (.cells #[.int .i64 0, .slice none 0 0] 24 (0, 0))) ∧ (w.heap.size ≤ s_.2) ∧ (w.heap.size ≤ s_.2) ∧ (gb220 ≠ s_.2) ∧ (s_.2 ≠ gb220) ∧ (Below w.heap.size w w')) ?_ ?_
         rotate_left
         ·as_aux_lemma =>
           intro hCont
           refine two_ (i := 6) (j := 10) (Ni := some 44) (Nj := some 8) #[true, true, true, true, true, true, true, false, false, false, false, false, false] #[true, true, true, true, true, true, false, false, false, false, true, false, false] rfl rfl rfl rfl (two_of HT_.out (by kernel_rfl)) (by decide) (by decide) (fun K hK => ?_) (fun K hK => ?_)
           ·skip
            refine goes_ Try.func9 (by kernel_rfl) rfl #[.agg #[.int .i64 x221000_1, .slice Ao16 x221001_1.length co16], .int .i64 ((rd_T51 l1 x7_1).f0)] (by rfl) rfl rfl (by (try simp only [List.map_toArray, List.map_cons, List.map_nil]); first | done | rfl | (simp only [List.length_drop, List.length_take]; rfl)) ?_
            with_reducible refine (view_Down.calls kj8 x221000_1 _ _ x221001_1 ((rd_T51 l1 x7_1).f0) t225 t226 t229 _ ?side1 ?side2 A14.out).mono ?_
            (case side1 => repeat (first | exact (Kd.R_reads' HO_221001.out).2.2 | (with_reducible refine Kd.C_alloc ?_ _) | (with_reducible refine Kd.C_drewN ?_ _) | (with_reducible refine Kd.C_drew ?_)))
            (case side2 => exact (Kd.R_reads' HO_221001.out).2.1)
            rintro e w18 ⟨v227, rfl, ho0, hb⟩
            refine ⟨_, rfl, ?_⟩
            have n0_ := Aside0.mk (Kd.R_elder' (by (with_reducible repeat (first | apply Kd.R_alloc | apply Kd.R_drewN | apply Kd.R_drew)); exact HO_221001.out) (Kd.R_base ho0) hb)
            have n1_ := Aside0.mk (Kd.R_lower (Kd.R_new' ho0 (Kd.R_lt (by (with_reducible repeat (first | apply Kd.R_alloc | apply Kd.R_drewN | apply Kd.R_drew)); exact HO_221001.out))) (below_size (by repeat (first | (with_reducible first | exact HB.out | apply below_alloc | apply pw_below_drewN | apply below_drew1 | refine below_set ?_ GE220.out) | exact HB.out))))
            have n2_ := Aside0.mk (blk_below (g := gb220) (o := .cells #[.int .i64 x221000_1, .slice Ao16 x221001_1.length co16] 24 (0, 0)) (by (with_reducible repeat (first | refine blk_drewN ?_ _ | refine blk_drew ?_ | refine blk_alloc ?_ _)); exact BK220.out) hb)
            have n3_ := Aside0.mk (below_step (by repeat (first | (with_reducible first | exact HB.out | apply below_alloc | apply pw_below_drewN | apply below_drew1 | refine below_set ?_ GE220.out) | exact HB.out)) hb)
            clear HO_221001
            clear BK220
            clear HB
            have HO_221001 := n0_
            have HO228 := n1_
            have BK220 := n2_
            have HB := n3_
            clear n0_ n1_ n2_ n3_
            (try clear hb)
            (try clear hb2)
            (try clear hk)
            (try clear hi)
            (try clear ho0)
            refine hK.out _ _ ⟨(blk_cell BK220.out 0).trans rfl, (blk_cell BK220.out 1).trans rfl, ((HB.out.cell (World.block_lt_of_cell? w _ hw224_0)).trans hw224_0), ((HB.out.cell (World.block_lt_of_cell? w _ hw224_1)).trans hw224_1)⟩ (fun hHeld => ?_)
            clear hK K
            refine norm_ (a' := ?_) ?_ ?_
            rotate_left
            ·show Act.put _ (some 44) _ = _
             simp only [Act.put, List.setIfInBounds_toArray, List.set_cons_zero, List.set_cons_succ, i64_w, i32_w]
             rfl
            refine pure_ (i := 7) (N := some 37) (v := ?_) (a' := ?_) #[true, true, true, true, true, true, true, true, false, false, false, false, false] rfl rfl (any_of HT_.out (by kernel_rfl)) (fun _ _ _ h => h) (Or.inl ⟨by rfl, ?_⟩) ?_ ?_; rotate_left; (intro w'; go_simp; with_reducible rfl); rotate_left; (simp only [Act.put, List.setIfInBounds_toArray, List.set_cons_zero, List.set_cons_succ, i64_w, i32_w]; rfl)
            refine pure_ (i := 8) (N := some 45) (v := ?_) (a' := ?_) #[true, true, true, true, true, true, true, true, true, false, false, false, false] rfl rfl (any_of HT_.out (by kernel_rfl)) (fun _ _ _ h => h) (Or.inl ⟨by rfl, ?_⟩) ?_ ?_; rotate_left; (intro w'; go_simp; with_reducible rfl); rotate_left; (simp only [Act.put, List.setIfInBounds_toArray, List.set_cons_zero, List.set_cons_succ, i64_w, i32_w]; rfl)
            refine pure_ (i := 9) (N := some 46) (v := ?_) (a' := ?_) #[true, true, true, true, true, true, true, true, true, true, false, false, false] rfl rfl (any_of HT_.out (by kernel_rfl)) (fun _ _ _ h => h) (Or.inl ⟨by rfl, ?_⟩) ?_ ?_; rotate_left; (intro w'; go_simp; with_reducible rfl); rotate_left; (simp only [Act.put, List.setIfInBounds_toArray, List.set_cons_zero, List.set_cons_succ, i64_w, i32_w]; rfl)
            refine one_ (i := 10) (N := some 8) #[true, true, true, true, true, true, true, true, true, true, true, false, false] rfl rfl (one_of HT_.out (by kernel_rfl)) (by decide) (fun K hK => ?_)
            refine box_step ?hg (N := 8) ?hd (cs := #[.int .i64 0, .slice none 0 0]) (t := 24) ?hr ?_; (case hd => rfl); (case hg => rfl); (case hr => first | (go_simp; done) | (go_simp; rfl))
            intro gb230 hg w19 hbox hb
            have n0_ := Aside0.mk (Kd.R_below (by (with_reducible repeat (first | apply Kd.R_alloc | apply Kd.R_drewN | apply Kd.R_drew)); exact HO_221001.out) hb)
            have n1_ := Aside0.mk (Kd.R_below (by (with_reducible repeat (first | apply Kd.R_alloc | apply Kd.R_drewN | apply Kd.R_drew)); exact HO228.out) hb)
            have n2_ := Aside0.mk (blk_below (g := gb220) (o := .cells #[.int .i64 x221000_1, .slice Ao16 x221001_1.length co16] 24 (0, 0)) (by (with_reducible repeat (first | refine blk_drewN ?_ _ | refine blk_drew ?_ | refine blk_alloc ?_ _)); exact BK220.out) hb)
            have n3_ := Aside0.mk (below_step (by repeat (first | (with_reducible first | exact HB.out | apply below_alloc | apply pw_below_drewN | apply below_drew1 | refine below_set ?_ GE220.out) | exact HB.out)) hb)
            have n4_ := Aside0.mk (hbox)
            have n5_ := Aside0.mk ((by rw [hg]; exact (below_size (by repeat (first | (with_reducible first | exact HB.out | apply below_alloc | apply pw_below_drewN | apply below_drew1 | refine below_set ?_ GE220.out) | exact HB.out))) : w.heap.size ≤ gb230))
            have n6_ := Aside0.mk ((by rw [hg]; exact (below_size (by repeat (first | (with_reducible first | exact HB.out | apply below_alloc | apply pw_below_drewN | apply below_drew1 | refine below_set ?_ GE220.out) | exact HB.out))) : w.heap.size ≤ gb230))
            have n7_ := Aside0.mk ((by rw [hg]; exact Nat.ne_of_lt (blk_lt (g := gb220) (o := .cells #[.int .i64 x221000_1, .slice Ao16 x221001_1.length co16] 24 (0, 0)) (by (with_reducible repeat (first | refine blk_drewN ?_ _ | refine blk_drew ?_ | refine blk_alloc ?_ _)); exact BK220.out)) : gb220 ≠ gb230))
            have n8_ := Aside0.mk ((by rw [hg]; exact Nat.ne_of_gt (blk_lt (g := gb220) (o := .cells #[.int .i64 x221000_1, .slice Ao16 x221001_1.length co16] 24 (0, 0)) (by (with_reducible repeat (first | refine blk_drewN ?_ _ | refine blk_drew ?_ | refine blk_alloc ?_ _)); exact BK220.out)) : gb230 ≠ gb220))
            clear HO_221001
            clear HO228
            clear BK220
            clear HB
            have HO_221001 := n0_
            have HO228 := n1_
            have BK220 := n2_
            have HB := n3_
            have BK230 := n4_
            have GW230 := n5_
            have GE230 := n6_
            have NB220_230 := n7_
            have NB230_220 := n8_
            clear n0_ n1_ n2_ n3_ n4_ n5_ n6_ n7_ n8_
            clear hb hbox hg
            refine hK.out _ _ ⟨(blk_cell BK220.out 0).trans rfl, (blk_cell BK220.out 1).trans rfl, ((HB.out.cell (World.block_lt_of_cell? w _ hw224_0)).trans hw224_0), ((HB.out.cell (World.block_lt_of_cell? w _ hw224_1)).trans hw224_1)⟩ (fun hHeld => ?_)
            clear hK K
            refine norm_ (a' := ?_) ?_ ?_
            rotate_left
            ·show Act.put _ (some 8) _ = _
             simp only [Act.put, List.setIfInBounds_toArray, List.set_cons_zero, List.set_cons_succ, i64_w, i32_w]
             rfl
            exact norm_ (by simp only [putAll, Act.put, List.setIfInBounds_toArray, List.set_cons_zero, List.set_cons_succ]) (hCont (v227, gb230) _ ⟨hHeld, (by (with_reducible repeat (first | apply Kd.R_alloc | apply Kd.R_drewN | apply Kd.R_drew)); exact Kd.R_mono HO228.out (fun _ hk => hk.2)), (by (with_reducible repeat (first | apply Kd.R_alloc | apply Kd.R_drewN | apply Kd.R_drew)); exact Kd.R_mono HO_221001.out (fun _ hk => hk.2)), (by (with_reducible repeat (first | refine blk_drewN ?_ _ | refine blk_drew ?_ | refine blk_alloc ?_ _)); exact BK220.out), (by (with_reducible repeat (first | refine blk_drewN ?_ _ | refine blk_drew ?_ | refine blk_alloc ?_ _)); exact BK230.out), GW230.out, GE230.out, NB220_230.out, NB230_220.out, (by repeat (first | (with_reducible first | exact HB.out | apply below_alloc | apply pw_below_drewN | apply below_drew1 | refine below_set ?_ GE220.out | refine below_set ?_ GE230.out) | exact HB.out))⟩)
           ·skip
            refine box_step ?hg (N := 8) ?hd (cs := #[.int .i64 0, .slice none 0 0]) (t := 24) ?hr ?_; (case hd => rfl); (case hg => rfl); (case hr => first | (go_simp; done) | (go_simp; rfl))
            intro gb230 hg w18 hbox hb
            have n0_ := Aside0.mk (Kd.R_below (by (with_reducible repeat (first | apply Kd.R_alloc | apply Kd.R_drewN | apply Kd.R_drew)); exact HO_221001.out) hb)
            have n1_ := Aside0.mk (blk_below (g := gb220) (o := .cells #[.int .i64 x221000_1, .slice Ao16 x221001_1.length co16] 24 (0, 0)) (by (with_reducible repeat (first | refine blk_drewN ?_ _ | refine blk_drew ?_ | refine blk_alloc ?_ _)); exact BK220.out) hb)
            have n2_ := Aside0.mk (below_step (by repeat (first | (with_reducible first | exact HB.out | apply below_alloc | apply pw_below_drewN | apply below_drew1 | refine below_set ?_ GE220.out) | exact HB.out)) hb)
            have n3_ := Aside0.mk (hbox)
            have n4_ := Aside0.mk ((by rw [hg]; exact (below_size (by repeat (first | (with_reducible first | exact HB.out | apply below_alloc | apply pw_below_drewN | apply below_drew1 | refine below_set ?_ GE220.out) | exact HB.out))) : w.heap.size ≤ gb230))
            have n5_ := Aside0.mk ((by rw [hg]; exact (below_size (by repeat (first | (with_reducible first | exact HB.out | apply below_alloc | apply pw_below_drewN | apply below_drew1 | refine below_set ?_ GE220.out) | exact HB.out))) : w.heap.size ≤ gb230))
            have n6_ := Aside0.mk ((by rw [hg]; exact Nat.ne_of_lt (blk_lt (g := gb220) (o := .cells #[.int .i64 x221000_1, .slice Ao16 x221001_1.length co16] 24 (0, 0)) (by (with_reducible repeat (first | refine blk_drewN ?_ _ | refine blk_drew ?_ | refine blk_alloc ?_ _)); exact BK220.out)) : gb220 ≠ gb230))
            have n7_ := Aside0.mk ((by rw [hg]; exact Nat.ne_of_gt (blk_lt (g := gb220) (o := .cells #[.int .i64 x221000_1, .slice Ao16 x221001_1.length co16] 24 (0, 0)) (by (with_reducible repeat (first | refine blk_drewN ?_ _ | refine blk_drew ?_ | refine blk_alloc ?_ _)); exact BK220.out)) : gb230 ≠ gb220))
            clear HO_221001
            clear BK220
            clear HB
            have HO_221001 := n0_
            have BK220 := n1_
            have HB := n2_
            have BK230 := n3_
            have GW230 := n4_
            have GE230 := n5_
            have NB220_230 := n6_
            have NB230_220 := n7_
            clear n0_ n1_ n2_ n3_ n4_ n5_ n6_ n7_
            clear hb hbox hg
            refine hK.out _ _ ⟨(blk_cell BK220.out 0).trans rfl, (blk_cell BK220.out 1).trans rfl, ((HB.out.cell (World.block_lt_of_cell? w _ hw224_0)).trans hw224_0), ((HB.out.cell (World.block_lt_of_cell? w _ hw224_1)).trans hw224_1)⟩ (fun hHeld => ?_)
            clear hK K
            refine norm_ (a' := ?_) ?_ ?_
            rotate_left
            ·show Act.put _ (some 8) _ = _
             simp only [Act.put, List.setIfInBounds_toArray, List.set_cons_zero, List.set_cons_succ, i64_w, i32_w]
             rfl
            refine one_ (i := 6) (N := some 44) #[true, true, true, true, true, true, true, false, false, false, true, false, false] rfl rfl (one_of HT_.out (by kernel_rfl)) (by decide) (fun K hK => ?_)
            refine goes_ Try.func9 (by kernel_rfl) rfl #[.agg #[.int .i64 x221000_1, .slice Ao16 x221001_1.length co16], .int .i64 ((rd_T51 l1 x7_1).f0)] (by rfl) rfl rfl (by (try simp only [List.map_toArray, List.map_cons, List.map_nil]); first | done | rfl | (simp only [List.length_drop, List.length_take]; rfl)) ?_
            with_reducible refine (view_Down.calls kj8 x221000_1 _ _ x221001_1 ((rd_T51 l1 x7_1).f0) t225 t226 t229 _ ?side1 ?side2 A14.out).mono ?_
            (case side1 => repeat (first | exact (Kd.R_reads' HO_221001.out).2.2 | (with_reducible refine Kd.C_alloc ?_ _) | (with_reducible refine Kd.C_drewN ?_ _) | (with_reducible refine Kd.C_drew ?_)))
            (case side2 => exact (Kd.R_reads' HO_221001.out).2.1)
            rintro e w19 ⟨v227, rfl, ho0, hb⟩
            refine ⟨_, rfl, ?_⟩
            have n0_ := Aside0.mk (Kd.R_elder' (by (with_reducible repeat (first | apply Kd.R_alloc | apply Kd.R_drewN | apply Kd.R_drew)); exact HO_221001.out) (Kd.R_base ho0) hb)
            have n1_ := Aside0.mk (Kd.R_lower (Kd.R_new' ho0 (Kd.R_lt (by (with_reducible repeat (first | apply Kd.R_alloc | apply Kd.R_drewN | apply Kd.R_drew)); exact HO_221001.out))) (below_size (by repeat (first | (with_reducible first | exact HB.out | apply below_alloc | apply pw_below_drewN | apply below_drew1 | refine below_set ?_ GE220.out | refine below_set ?_ GE230.out) | exact HB.out))))
            have n2_ := Aside0.mk (blk_below (g := gb220) (o := .cells #[.int .i64 x221000_1, .slice Ao16 x221001_1.length co16] 24 (0, 0)) (by (with_reducible repeat (first | refine blk_drewN ?_ _ | refine blk_drew ?_ | refine blk_alloc ?_ _)); exact BK220.out) hb)
            have n3_ := Aside0.mk (blk_below (g := gb230) (o := .cells #[.int .i64 0, .slice none 0 0] 24 (0, 0)) (by (with_reducible repeat (first | refine blk_drewN ?_ _ | refine blk_drew ?_ | refine blk_alloc ?_ _)); exact BK230.out) hb)
            have n4_ := Aside0.mk (below_step (by repeat (first | (with_reducible first | exact HB.out | apply below_alloc | apply pw_below_drewN | apply below_drew1 | refine below_set ?_ GE220.out | refine below_set ?_ GE230.out) | exact HB.out)) hb)
            clear HO_221001
            clear BK220
            clear BK230
            clear HB
            have HO_221001 := n0_
            have HO228 := n1_
            have BK220 := n2_
            have BK230 := n3_
            have HB := n4_
            clear n0_ n1_ n2_ n3_ n4_
            (try clear hb)
            (try clear hb2)
            (try clear hk)
            (try clear hi)
            (try clear ho0)
            refine hK.out _ _ ⟨(blk_cell BK220.out 0).trans rfl, (blk_cell BK220.out 1).trans rfl, ((HB.out.cell (World.block_lt_of_cell? w _ hw224_0)).trans hw224_0), ((HB.out.cell (World.block_lt_of_cell? w _ hw224_1)).trans hw224_1)⟩ (fun hHeld => ?_)
            clear hK K
            refine norm_ (a' := ?_) ?_ ?_
            rotate_left
            ·show Act.put _ (some 44) _ = _
             simp only [Act.put, List.setIfInBounds_toArray, List.set_cons_zero, List.set_cons_succ, i64_w, i32_w]
             rfl
            refine pure_ (i := 7) (N := some 37) (v := ?_) (a' := ?_) #[true, true, true, true, true, true, true, true, false, false, true, false, false] rfl rfl (any_of HT_.out (by kernel_rfl)) (fun _ _ _ h => h) (Or.inl ⟨by rfl, ?_⟩) ?_ ?_; rotate_left; (intro w'; go_simp; with_reducible rfl); rotate_left; (simp only [Act.put, List.setIfInBounds_toArray, List.set_cons_zero, List.set_cons_succ, i64_w, i32_w]; rfl)
            refine pure_ (i := 8) (N := some 45) (v := ?_) (a' := ?_) #[true, true, true, true, true, true, true, true, true, false, true, false, false] rfl rfl (any_of HT_.out (by kernel_rfl)) (fun _ _ _ h => h) (Or.inl ⟨by rfl, ?_⟩) ?_ ?_; rotate_left; (intro w'; go_simp; with_reducible rfl); rotate_left; (simp only [Act.put, List.setIfInBounds_toArray, List.set_cons_zero, List.set_cons_succ, i64_w, i32_w]; rfl)
            refine pure_ (i := 9) (N := some 46) (v := ?_) (a' := ?_) #[true, true, true, true, true, true, true, true, true, true, true, false, false] rfl rfl (any_of HT_.out (by kernel_rfl)) (fun _ _ _ h => h) (Or.inl ⟨by rfl, ?_⟩) ?_ ?_; rotate_left; (intro w'; go_simp; with_reducible rfl); rotate_left; (simp only [Act.put, List.setIfInBounds_toArray, List.set_cons_zero, List.set_cons_succ, i64_w, i32_w]; rfl)
            exact norm_ (by simp only [putAll, Act.put, List.setIfInBounds_toArray, List.set_cons_zero, List.set_cons_succ]) (hCont (v227, gb230) _ ⟨hHeld, (by (with_reducible repeat (first | apply Kd.R_alloc | apply Kd.R_drewN | apply Kd.R_drew)); exact Kd.R_mono HO228.out (fun _ hk => hk.2)), (by (with_reducible repeat (first | apply Kd.R_alloc | apply Kd.R_drewN | apply Kd.R_drew)); exact Kd.R_mono HO_221001.out (fun _ hk => hk.2)), (by (with_reducible repeat (first | refine blk_drewN ?_ _ | refine blk_drew ?_ | refine blk_alloc ?_ _)); exact BK220.out), (by (with_reducible repeat (first | refine blk_drewN ?_ _ | refine blk_drew ?_ | refine blk_alloc ?_ _)); exact BK230.out), GW230.out, GE230.out, NB220_230.out, NB230_220.out, (by repeat (first | (with_reducible first | exact HB.out | apply below_alloc | apply pw_below_drewN | apply below_drew1 | refine below_set ?_ GE220.out | refine below_set ?_ GE230.out) | exact HB.out))⟩)
         rintro ⟨v227, gb230⟩ w20 ⟨hS_, h0_, h1_, h2_, h3_, h4_, h5_, h6_, h7_, h8_⟩
         have n0_ : Aside0 (Kd.R k53 53 w20 w.heap.size (fun k_ => some k_ ≠ (.slice Ao16 x221001_1.length co16 : Value).ownBlock) v227 t226) := ⟨h0_⟩
         have n1_ : Aside0 (Kd.R k53 53 w20 w.heap.size (fun k_ => some k_ ≠ (v227 : Value).ownBlock) (.slice Ao16 x221001_1.length co16) x221001_1) := ⟨h1_⟩
         have n2_ : Aside0 (w20.heap[gb220]? = some (.cells #[.int .i64 x221000_1, .slice Ao16 x221001_1.length co16] 24 (0, 0))) := ⟨h2_⟩
         have n3_ : Aside0 (w20.heap[gb230]? = some (.cells #[.int .i64 0, .slice none 0 0] 24 (0, 0))) := ⟨h3_⟩
         have n4_ : Aside0 (w.heap.size ≤ gb230) := ⟨h4_⟩
         have n5_ : Aside0 (w.heap.size ≤ gb230) := ⟨h5_⟩
         have n6_ : Aside0 (gb220 ≠ gb230) := ⟨h6_⟩
         have n7_ : Aside0 (gb230 ≠ gb220) := ⟨h7_⟩
         have n8_ : Aside0 (Below w.heap.size w w20) := ⟨h8_⟩
         clear HO_221001
         clear BK220
         clear HB
         clear h0_ h1_ h2_ h3_ h4_ h5_ h6_ h7_ h8_
         have HO228 := n0_
         have HO_221001 := n1_
         have BK220 := n2_
         have BK230 := n3_
         have GW230 := n4_
         have GE230 := n5_
         have NB220_230 := n6_
         have NB230_220 := n7_
         have HB := n8_
         clear n0_ n1_ n2_ n3_ n4_ n5_ n6_ n7_ n8_
         have hHeld : w20.cell? ⟨gb220, 0, none⟩ = some (.int .i64 x221000_1) ∧ w20.cell? ⟨gb220, 1, none⟩ = some (.slice Ao16 x221001_1.length co16) ∧ w20.cell? (ad224.add ((x7_1).toNat * 2)) = some (.int .i64 ((rd_T51 l1 x7_1).f0)) ∧ w20.cell? ⟨(ad224.add ((x7_1).toNat * 2)).block, (ad224.add ((x7_1).toNat * 2)).off + 1, none⟩ = some (.bool ((rd_T51 l1 x7_1).f1)) := hS_
         obtain ⟨Ao22, co22, eo22⟩ := Kd.R_slice HO228.out
         (first | subst eo22 | (injection eo22 with f1_ f2_ f3_; have f4_ := f1_.symm; have f5_ := f3_.symm; clear f1_ f2_ f3_; subst f4_; subst f5_))
         refine norm_ (a' := ?_) ?_ ?_
         rotate_left
         ·simp only [putAll, Act.put, List.setIfInBounds_toArray, List.set_cons_zero, List.set_cons_succ]
          rfl
         refine one_ (i := 11) (N := none) #[true, true, true, true, true, true, true, true, true, true, true, true, false] rfl rfl (one_of HT_.out (by kernel_rfl)) (by decide) (fun K hK => ?_)
         have hs21 : w20.cell? ⟨gb230, 0, none⟩ = some (.int .i64 0) := (blk_cell BK230.out 0).trans rfl
         have hfs21 := blk_frozen BK230.out 0
         have hns21_0 := NB220_230.out
         have hms21_0 := NB230_220.out
         have hs23 : w20.cell? ⟨gb230, 1, none⟩ = some (.slice none 0 0) := (blk_cell BK230.out 1).trans rfl
         have hfs23 := blk_frozen BK230.out 1
         have hns23_0 := NB220_230.out
         have hms23_0 := NB230_220.out
         refine skip_ (w1 := ?_) (by rfl) rfl ?_ ?_
         rotate_left
         ·go_simp
          rfl
         refine hK.out _ _ ⟨((cell_far (p := ⟨gb230, _, none⟩) NB220_230.out _).trans (((cell_far (p := ⟨gb230, _, none⟩) NB220_230.out _).trans (hHeld.1)))), ((cell_far (p := ⟨gb230, _, none⟩) NB220_230.out _).trans (((cell_far (p := ⟨gb230, _, none⟩) NB220_230.out _).trans (hHeld.2.1)))), ((cell_far (p := ⟨gb230, _, none⟩) (by first | exact Nat.ne_of_lt (Nat.lt_of_lt_of_le (by have := World.block_lt_of_cell? _ _ hw224_0; first | rwa [add_block] at this | exact this) GW230.out) | (rw [add_block]; exact Nat.ne_of_lt (Nat.lt_of_lt_of_le (by have := World.block_lt_of_cell? _ _ hw224_0; first | rwa [add_block] at this | exact this) GW230.out)) | (show (Addr.add _ _).block ≠ _; rw [add_block]; exact Nat.ne_of_lt (Nat.lt_of_lt_of_le (by have := World.block_lt_of_cell? _ _ hw224_0; first | rwa [add_block] at this | exact this) GW230.out)) | (dsimp only; exact Nat.ne_of_lt (Nat.lt_of_lt_of_le (by have := World.block_lt_of_cell? _ _ hw224_0; first | rwa [add_block] at this | exact this) GW230.out))) _).trans (((cell_far (p := ⟨gb230, _, none⟩) (by first | exact Nat.ne_of_lt (Nat.lt_of_lt_of_le (by have := World.block_lt_of_cell? _ _ hw224_0; first | rwa [add_block] at this | exact this) GW230.out) | (rw [add_block]; exact Nat.ne_of_lt (Nat.lt_of_lt_of_le (by have := World.block_lt_of_cell? _ _ hw224_0; first | rwa [add_block] at this | exact this) GW230.out)) | (show (Addr.add _ _).block ≠ _; rw [add_block]; exact Nat.ne_of_lt (Nat.lt_of_lt_of_le (by have := World.block_lt_of_cell? _ _ hw224_0; first | rwa [add_block] at this | exact this) GW230.out)) | (dsimp only; exact Nat.ne_of_lt (Nat.lt_of_lt_of_le (by have := World.block_lt_of_cell? _ _ hw224_0; first | rwa [add_block] at this | exact this) GW230.out))) _).trans (hHeld.2.2.1)))), ((cell_far (p := ⟨gb230, _, none⟩) (by first | exact Nat.ne_of_lt (Nat.lt_of_lt_of_le (by have := World.block_lt_of_cell? _ _ hw224_1; first | rwa [add_block] at this | exact this) GW230.out) | (rw [add_block]; exact Nat.ne_of_lt (Nat.lt_of_lt_of_le (by have := World.block_lt_of_cell? _ _ hw224_1; first | rwa [add_block] at this | exact this) GW230.out)) | (show (Addr.add _ _).block ≠ _; rw [add_block]; exact Nat.ne_of_lt (Nat.lt_of_lt_of_le (by have := World.block_lt_of_cell? _ _ hw224_1; first | rwa [add_block] at this | exact this) GW230.out)) | (dsimp only; exact Nat.ne_of_lt (Nat.lt_of_lt_of_le (by have := World.block_lt_of_cell? _ _ hw224_1; first | rwa [add_block] at this | exact this) GW230.out))) _).trans (((cell_far (p := ⟨gb230, _, none⟩) (by first | exact Nat.ne_of_lt (Nat.lt_of_lt_of_le (by have := World.block_lt_of_cell? _ _ hw224_1; first | rwa [add_block] at this | exact this) GW230.out) | (rw [add_block]; exact Nat.ne_of_lt (Nat.lt_of_lt_of_le (by have := World.block_lt_of_cell? _ _ hw224_1; first | rwa [add_block] at this | exact this) GW230.out)) | (show (Addr.add _ _).block ≠ _; rw [add_block]; exact Nat.ne_of_lt (Nat.lt_of_lt_of_le (by have := World.block_lt_of_cell? _ _ hw224_1; first | rwa [add_block] at this | exact this) GW230.out)) | (dsimp only; exact Nat.ne_of_lt (Nat.lt_of_lt_of_le (by have := World.block_lt_of_cell? _ _ hw224_1; first | rwa [add_block] at this | exact this) GW230.out))) _).trans (hHeld.2.2.2))))⟩ (fun hHeld => ?_)
         clear hK K
         refine pure_ (i := 12) (N := some 9) (v := ?_) (a' := ?_) #[true, true, true, true, true, true, true, true, true, true, true, true, true] rfl rfl (any_of HT_.out (by kernel_rfl)) (fun _ _ _ h => h) (Or.inl ⟨by rfl, ?_⟩) ?_ ?_; rotate_left; (intro w'; go_simp; with_reducible rfl); rotate_left; (simp only [Act.put, List.setIfInBounds_toArray, List.set_cons_zero, List.set_cons_succ, i64_w, i32_w]; rfl)
         refine done_ (done_of HT_.out (by kernel_rfl)) ?_
         have p231 : 0 ≤ (x7_1 : Int) := of_decide_eq_true (by first | (with_reducible assumption) | assumption)
         have q231 : x7_1 < (l1.length : Int) := of_decide_eq_true (by first | (with_reducible assumption) | assumption)
         obtain ⟨ad231, e231, hx231_0, hx231_1⟩ := at_T51 HR1.out x7_1 p231 q231
         obtain rfl : ad224 = ad231 := (by injection e231)
         have hn231_0 : ad224.block ≠ gb230 := Nat.ne_of_lt (Nat.lt_of_lt_of_le (by have := World.block_lt_of_cell? _ _ hx231_0; first | rwa [add_block] at this | exact this) GW230.out)
         have hn231_1 : ad224.block ≠ gb230 := Nat.ne_of_lt (Nat.lt_of_lt_of_le (by have := World.block_lt_of_cell? _ _ hx231_0; first | rwa [add_block] at this | exact this) GW230.out)
         replace hx231_0 := (HB.out.cell (World.block_lt_of_cell? w _ hx231_0)).trans hx231_0
         replace hx231_1 := (HB.out.cell (World.block_lt_of_cell? w _ hx231_1)).trans hx231_1
         replace hx231_0 := (cell_far (p := ⟨gb230, 0, none⟩) (by first | (rw [add_block]; exact hn231_0) | (show (Addr.add _ _).block ≠ _; rw [add_block]; exact hn231_0) | exact hn231_0) (.int .i64 t225)).trans hx231_0
         replace hx231_1 := (cell_far (p := ⟨gb230, 0, none⟩) (by first | (rw [add_block]; exact hn231_0) | (show (Addr.add _ _).block ≠ _; rw [add_block]; exact hn231_0) | exact hn231_0) (.int .i64 t225)).trans hx231_1
         replace hx231_0 := (cell_far (p := ⟨gb230, 1, none⟩) (by first | (rw [add_block]; exact hn231_1) | (show (Addr.add _ _).block ≠ _; rw [add_block]; exact hn231_1) | exact hn231_1) (.slice Ao22 t226.length co22)).trans hx231_0
         replace hx231_1 := (cell_far (p := ⟨gb230, 1, none⟩) (by first | (rw [add_block]; exact hn231_1) | (show (Addr.add _ _).block ≠ _; rw [add_block]; exact hn231_1) | exact hn231_1) (.slice Ao22 t226.length co22)).trans hx231_1
         clear hn231_0
         clear hn231_1
         replace p231 := eq_true p231
         replace q231 := eq_true q231
         go_upto_if 51 with (fail)
         go_cut [9] (fun v9 wc => ∃ (kq : Nat) (x9_14 : Int) (x231000_14 : Int) (x231001_14 : List (S53)) (u231001 : Value), v9 = .int .i64 x9_14 ∧ Aside0 (caduceuslaw14_ViewRises.j2 kq l1 x7_1 x9_14 x221000_1 x221001_1 x231000_14 x231001_14 = some r) ∧ Aside0 (kq ≤ kj8) ∧ Aside0 (Kd.R k53 53 wc w.heap.size (fun k_ => some k_ ≠ (u231001 : Value).ownBlock) (.slice Ao16 x221001_1.length co16) x221001_1) ∧ Aside0 (Kd.R k53 53 wc w.heap.size (fun k_ => some k_ ≠ ((.slice Ao16 x221001_1.length co16) : Value).ownBlock) u231001 x231001_14) ∧ Aside0 (wc.heap[gb220]? = some (.cells #[.int .i64 x221000_1, (.slice Ao16 x221001_1.length co16)] 24 (0, 0))) ∧ Aside0 (wc.heap[gb230]? = some (.cells #[.int .i64 x231000_14, u231001] 24 (0, 0))) ∧ Aside0 (Below w.heap.size w wc))
         case first =>
          as_aux_lemma =>
           have H := HC15.out
           clear HC15
           obtain ⟨bq24, hbq24⟩ : ∃ b_ : Bool, b_ = ((rd_T51 l1 x7_1).f1) := ⟨_, rfl⟩
           replace H : (if bq24 = true then ((view_Up.f kj8 x221000_1 x221001_1 ((rd_T51 l1 x7_1).f0)).bind fun bt233 => (caduceuslaw14_ViewRises.j2 kj8 l1 x7_1 bt233.2.2 x221000_1 x221001_1 bt233.1 bt233.2.1)) else (caduceuslaw14_ViewRises.j2 kj8 l1 x7_1 t229 x221000_1 x221001_1 t225 t226)) = some r := by rw [← hbq24] at H; exact H
           have Nbq24 := Aside0.mk hbq24
           clear hbq24
           (try rw [← Nbq24.out])
           by_cases c25 : bq24 = true
           ·as_aux_lemma =>
             subst c25
             have H1 : ((view_Up.f kj8 x221000_1 x221001_1 ((rd_T51 l1 x7_1).f0)).bind fun bt233 => (caduceuslaw14_ViewRises.j2 kj8 l1 x7_1 bt233.2.2 x221000_1 x221001_1 bt233.1 bt233.2.1)) = some r := by rw [if_pos rfl] at H; exact H
             clear H
             have H := H1
             clear H1
             replace H := Option.bind_eq_some_iff.mp H
             obtain ⟨⟨t233, t234, t237⟩, A260, H⟩ := H
             replace H : (caduceuslaw14_ViewRises.j2 kj8 l1 x7_1 t237 x221000_1 x221001_1 t233 t234) = some r := H
             have A26 := Aside0.mk A260
             clear A260
             have H' := Aside0.mk H
             clear H
             try go_wp2
             have n0_ : Aside0 (Kd.R k53 53 ((w20.setCell ⟨gb230, 0, none⟩ (.int .i64 t225)).setCell ⟨gb230, 1, none⟩ (.slice Ao22 t226.length co22)) w.heap.size (fun k_ => some k_ ≠ (.slice Ao22 t226.length co22 : Value).ownBlock) (.slice Ao16 x221001_1.length co16) x221001_1) := ⟨by (with_reducible repeat (first | apply Kd.R_alloc | apply Kd.R_drewN | apply Kd.R_drew)); exact Kd.R_mono (Kd.R_far (p := ⟨gb230, 1, none⟩) (Kd.R_far (p := ⟨gb230, 0, none⟩) (Kd.R_types HO_221001.out BK230.out (by decide)) (fun _ hk => hk.2) (.int .i64 t225)) (fun _ hk => hk.2) (.slice Ao22 t226.length co22)) (fun _ hk => hk.1)⟩
             have n1_ : Aside0 (Kd.R k53 53 ((w20.setCell ⟨gb230, 0, none⟩ (.int .i64 t225)).setCell ⟨gb230, 1, none⟩ (.slice Ao22 t226.length co22)) w.heap.size (fun k_ => some k_ ≠ (.slice Ao16 x221001_1.length co16 : Value).ownBlock) (.slice Ao22 t226.length co22) t226) := ⟨by (with_reducible repeat (first | apply Kd.R_alloc | apply Kd.R_drewN | apply Kd.R_drew)); exact Kd.R_mono (Kd.R_far (p := ⟨gb230, 1, none⟩) (Kd.R_far (p := ⟨gb230, 0, none⟩) (Kd.R_types HO228.out BK230.out (by decide)) (fun _ hk => hk.2) (.int .i64 t225)) (fun _ hk => hk.2) (.slice Ao22 t226.length co22)) (fun _ hk => hk.1)⟩
             have n2_ : Aside0 (((w20.setCell ⟨gb230, 0, none⟩ (.int .i64 t225)).setCell ⟨gb230, 1, none⟩ (.slice Ao22 t226.length co22)).heap[gb220]? = some (.cells #[.int .i64 x221000_1, .slice Ao16 x221001_1.length co16] 24 (0, 0))) := ⟨by (with_reducible repeat (first | refine blk_drewN ?_ _ | refine blk_drew ?_ | refine blk_alloc ?_ _)); refine blk_far ?_ NB220_230.out _; (with_reducible repeat (first | refine blk_drewN ?_ _ | refine blk_drew ?_ | refine blk_alloc ?_ _)); refine blk_far ?_ NB220_230.out _; (with_reducible repeat (first | refine blk_drewN ?_ _ | refine blk_drew ?_ | refine blk_alloc ?_ _)); exact BK220.out⟩
             have n3_ : Aside0 (((w20.setCell ⟨gb230, 0, none⟩ (.int .i64 t225)).setCell ⟨gb230, 1, none⟩ (.slice Ao22 t226.length co22)).heap[gb230]? = some (.cells #[.int .i64 t225, .slice Ao22 t226.length co22] 24 (0, 0))) := ⟨by (with_reducible repeat (first | refine blk_drewN ?_ _ | refine blk_drew ?_ | refine blk_alloc ?_ _)); refine blk_put (cs := #[.int .i64 t225, .slice none 0 0]) ?_ 1 _ rfl; (with_reducible repeat (first | refine blk_drewN ?_ _ | refine blk_drew ?_ | refine blk_alloc ?_ _)); refine blk_put (cs := #[.int .i64 0, .slice none 0 0]) ?_ 0 _ rfl; (with_reducible repeat (first | refine blk_drewN ?_ _ | refine blk_drew ?_ | refine blk_alloc ?_ _)); exact BK230.out⟩
             have n4_ : Aside0 (Below w.heap.size w ((w20.setCell ⟨gb230, 0, none⟩ (.int .i64 t225)).setCell ⟨gb230, 1, none⟩ (.slice Ao22 t226.length co22))) := ⟨by repeat (first | (with_reducible first | exact HB.out | apply below_alloc | apply pw_below_drewN | apply below_drew1 | refine below_set ?_ GE220.out | refine below_set ?_ GE230.out) | exact HB.out)⟩
             (try clear HO_221001)
             (try clear HO228)
             (try clear BK220)
             (try clear BK230)
             (try clear HB)
             generalize ((w20.setCell ⟨gb230, 0, none⟩ (.int .i64 t225)).setCell ⟨gb230, 1, none⟩ (.slice Ao22 t226.length co22)) = w27 at n0_ n1_ n2_ n3_ n4_ ⊢
             have HO_221001 := n0_
             have HO228 := n1_
             have BK220 := n2_
             have BK230 := n3_
             have HB := n4_
             clear n0_ n1_ n2_ n3_ n4_
             have n0_ := Aside0.mk (Kd.R_drew HO_221001.out)
             have n1_ := Aside0.mk (Kd.R_drew HO228.out)
             have n2_ := Aside0.mk (blk_drew BK220.out)
             have n3_ := Aside0.mk (blk_drew BK230.out)
             have n4_ := Aside0.mk (below_drew1 HB.out)
             clear HO_221001
             clear HO228
             clear BK220
             clear BK230
             clear HB
             have HO_221001 := n0_
             have HO228 := n1_
             have BK220 := n2_
             have BK230 := n3_
             have HB := n4_
             clear n0_ n1_ n2_ n3_ n4_
             have p232 : 0 ≤ (x7_1 : Int) := of_decide_eq_true (by first | (with_reducible assumption) | assumption)
             have q232 : x7_1 < (l1.length : Int) := of_decide_eq_true (by first | (with_reducible assumption) | assumption)
             obtain ⟨ad232, e232, hx232_0, hx232_1⟩ := at_T51 HR1.out x7_1 p232 q232
             have hw232_1 := hx232_1
             have hw232_0 := hx232_0
             (try rw [← Nbq24.out] at hx232_1)
             (try rw [← Nbq24.out] at hw232_1)
             obtain rfl : ad224 = ad232 := (by injection e232)
             replace hx232_0 := (HB.out.cell (World.block_lt_of_cell? w _ hx232_0)).trans hx232_0
             replace hx232_1 := (HB.out.cell (World.block_lt_of_cell? w _ hx232_1)).trans hx232_1
             replace p232 := eq_true p232
             replace q232 := eq_true q232
             refine start_ (n := 12) (S := fun w' => w'.cell? ⟨gb220, 0, none⟩ = some (.int .i64 x221000_1) ∧ w'.cell? ⟨gb220, 1, none⟩ = some (.slice Ao16 x221001_1.length co16) ∧ w'.cell? (ad224.add ((x7_1).toNat * 2)) = some (.int .i64 ((rd_T51 l1 x7_1).f0)) ∧ w'.cell? ⟨(ad224.add ((x7_1).toNat * 2)).block, (ad224.add ((x7_1).toNat * 2)).off + 1, none⟩ = some (.bool (true))) (ds := []) #[false, false, false, false, false, false, false, false, false, false, false, false] (by kernel_rfl) rfl rfl ⟨(blk_cell BK220.out 0).trans rfl, (blk_cell BK220.out 1).trans rfl, ((HB.out.cell (World.block_lt_of_cell? w _ hw232_0)).trans hw232_0), ((HB.out.cell (World.block_lt_of_cell? w _ hw232_1)).trans hw232_1)⟩ (fun hHeld => ?_); refine with_tabW caduceuslaw14_ViewRises.tab9 caduceuslaw14_ViewRises.bits9 (fun HT_ HW_ => ?_)
             generalize w27.drew = w28 at HO_221001 HO228 BK220 BK230 HB hx232_0 hx232_1 hHeld ⊢
             refine pure_ (i := 1) (N := some 54) (v := ?_) (a' := ?_) #[false, true, false, false, false, false, false, false, false, false, false, false] rfl rfl (any_of HT_.out (by kernel_rfl)) (fun _ _ _ h => h) (Or.inl ⟨by rfl, ?_⟩) ?_ ?_; rotate_left; (intro w'; go_simp; with_reducible rfl); rotate_left; (simp only [Act.put, List.setIfInBounds_toArray, List.set_cons_zero, List.set_cons_succ, i64_w, i32_w]; rfl)
             refine pure_ (i := 2) (N := some 55) (v := ?_) (a' := ?_) #[false, true, true, false, false, false, false, false, false, false, false, false] rfl rfl (any_of HT_.out (by kernel_rfl)) (fun _ _ _ h => h) (Or.inl ⟨by rfl, ?_⟩) ?_ ?_; rotate_left; (intro w'; go_simp; with_reducible rfl); rotate_left; (simp only [Act.put, List.setIfInBounds_toArray, List.set_cons_zero, List.set_cons_succ, i64_w, i32_w]; rfl)
             refine pure_ (i := 3) (N := some 56) (v := ?_) (a' := ?_) #[false, true, true, true, false, false, false, false, false, false, false, false] rfl rfl (any_of HT_.out (by kernel_rfl)) (fun _ _ _ h => h) (Or.inl ⟨by rfl, ?_⟩) ?_ ?_; rotate_left; (intro w'; go_simp; with_reducible rfl); rotate_left; (simp only [Act.put, List.setIfInBounds_toArray, List.set_cons_zero, List.set_cons_succ, i64_w, i32_w]; rfl)
             refine pure_ (i := 4) (N := some 57) (v := ?_) (a' := ?_) #[false, true, true, true, true, false, false, false, false, false, false, false] rfl rfl (any_of HT_.out (by kernel_rfl)) (fun _ _ _ h => h) (Or.inl ⟨by rfl, ?_⟩) ?_ ?_; rotate_left; (intro w'; go_simp; with_reducible rfl); rotate_left; (simp only [Act.put, List.setIfInBounds_toArray, List.set_cons_zero, List.set_cons_succ, i64_w, i32_w]; rfl)
             refine take_ (i := 0) (N := some 53) (v := ?_) (a' := ?_) #[true, true, true, true, true, false, false, false, false, false, false, false] rfl rfl (take_ofW HT_.out HW_.out (by kernel_rfl)) (fun _ _ _ h => h) (Or.inl ⟨by rfl, ?_⟩) hHeld ?_ ?_
             rotate_left
             ·rintro w' ⟨s0, s1, s2, s3⟩
              go_simp
              with_reducible rfl
             rotate_left
             ·simp only [Act.put, List.setIfInBounds_toArray, List.set_cons_zero, List.set_cons_succ, i64_w, i32_w]
              rfl
             refine take_ (i := 5) (N := some 58) (v := ?_) (a' := ?_) #[true, true, true, true, true, true, false, false, false, false, false, false] rfl rfl (take_ofW HT_.out HW_.out (by kernel_rfl)) (fun _ _ _ h => h) (Or.inl ⟨by rfl, ?_⟩) hHeld ?_ ?_
             rotate_left
             ·rintro w' ⟨s0, s1, s2, s3⟩
              go_simp
              with_reducible rfl
             rotate_left
             ·simp only [Act.put, List.setIfInBounds_toArray, List.set_cons_zero, List.set_cons_succ, i64_w, i32_w]
              rfl
             refine one_ (i := 6) (N := some 59) #[true, true, true, true, true, true, true, false, false, false, false, false] rfl rfl (one_of HT_.out (by kernel_rfl)) (by decide) (fun K hK => ?_)
             refine goes_ Try.func12 (by kernel_rfl) rfl #[.agg #[.int .i64 x221000_1, .slice Ao16 x221001_1.length co16], .int .i64 ((rd_T51 l1 x7_1).f0)] (by rfl) rfl rfl (by (try simp only [List.map_toArray, List.map_cons, List.map_nil]); first | done | rfl | (simp only [List.length_drop, List.length_take]; rfl)) ?_
             with_reducible refine (view_Up.calls kj8 x221000_1 _ _ x221001_1 ((rd_T51 l1 x7_1).f0) t233 t234 t237 _ ?side1 ?side2 A26.out).mono ?_
             (case side1 => repeat (first | exact (Kd.R_reads' HO_221001.out).2.2 | (with_reducible refine Kd.C_alloc ?_ _) | (with_reducible refine Kd.C_drewN ?_ _) | (with_reducible refine Kd.C_drew ?_)))
             (case side2 => exact (Kd.R_reads' HO_221001.out).2.1)
             rintro e w29 ⟨v235, rfl, ho0, hb⟩
             refine ⟨_, rfl, ?_⟩
             have n0_ := Aside0.mk (Kd.R_elder' (by (with_reducible repeat (first | apply Kd.R_alloc | apply Kd.R_drewN | apply Kd.R_drew)); exact HO_221001.out) (Kd.R_base ho0) hb)
             have n1_ := Aside0.mk (Kd.R_elder' (by (with_reducible repeat (first | apply Kd.R_alloc | apply Kd.R_drewN | apply Kd.R_drew)); exact HO228.out) (Kd.R_base ho0) hb)
             have n2_ := Aside0.mk (Kd.R_lower (Kd.R_new' (Kd.R_new' ho0 (Kd.R_lt (by (with_reducible repeat (first | apply Kd.R_alloc | apply Kd.R_drewN | apply Kd.R_drew)); exact HO_221001.out))) (Kd.R_lt (by (with_reducible repeat (first | apply Kd.R_alloc | apply Kd.R_drewN | apply Kd.R_drew)); exact HO228.out))) (below_size (by repeat (first | (with_reducible first | exact HB.out | apply below_alloc | apply pw_below_drewN | apply below_drew1 | refine below_set ?_ GE220.out | refine below_set ?_ GE230.out) | exact HB.out))))
             have n3_ := Aside0.mk (blk_below (g := gb220) (o := .cells #[.int .i64 x221000_1, .slice Ao16 x221001_1.length co16] 24 (0, 0)) (by (with_reducible repeat (first | refine blk_drewN ?_ _ | refine blk_drew ?_ | refine blk_alloc ?_ _)); exact BK220.out) hb)
             have n4_ := Aside0.mk (blk_below (g := gb230) (o := .cells #[.int .i64 t225, .slice Ao22 t226.length co22] 24 (0, 0)) (by (with_reducible repeat (first | refine blk_drewN ?_ _ | refine blk_drew ?_ | refine blk_alloc ?_ _)); exact BK230.out) hb)
             have n5_ := Aside0.mk (below_step (by repeat (first | (with_reducible first | exact HB.out | apply below_alloc | apply pw_below_drewN | apply below_drew1 | refine below_set ?_ GE220.out | refine below_set ?_ GE230.out) | exact HB.out)) hb)
             clear HO_221001
             clear HO228
             clear BK220
             clear BK230
             clear HB
             have HO_221001 := n0_
             have HO228 := n1_
             have HO236 := n2_
             have BK220 := n3_
             have BK230 := n4_
             have HB := n5_
             clear n0_ n1_ n2_ n3_ n4_ n5_
             (try clear hb)
             (try clear hb2)
             (try clear hk)
             (try clear hi)
             (try clear ho0)
             obtain ⟨Ao31, co31, eo31⟩ := Kd.R_slice HO236.out
             (first | subst eo31 | (injection eo31 with f1_ f2_ f3_; have f4_ := f1_.symm; have f5_ := f3_.symm; clear f1_ f2_ f3_; subst f4_; subst f5_))
             refine hK.out _ _ ⟨(blk_cell BK220.out 0).trans rfl, (blk_cell BK220.out 1).trans rfl, ((HB.out.cell (World.block_lt_of_cell? w _ hw232_0)).trans hw232_0), ((HB.out.cell (World.block_lt_of_cell? w _ hw232_1)).trans hw232_1)⟩ (fun hHeld => ?_)
             clear hK K
             refine norm_ (a' := ?_) ?_ ?_
             rotate_left
             ·show Act.put _ (some 59) _ = _
              simp only [Act.put, List.setIfInBounds_toArray, List.set_cons_zero, List.set_cons_succ, i64_w, i32_w]
              rfl
             refine pure_ (i := 7) (N := some 52) (v := ?_) (a' := ?_) #[true, true, true, true, true, true, true, true, false, false, false, false] rfl rfl (any_of HT_.out (by kernel_rfl)) (fun _ _ _ h => h) (Or.inl ⟨by rfl, ?_⟩) ?_ ?_; rotate_left; (intro w'; go_simp; with_reducible rfl); rotate_left; (simp only [Act.put, List.setIfInBounds_toArray, List.set_cons_zero, List.set_cons_succ, i64_w, i32_w]; rfl)
             refine pure_ (i := 8) (N := some 60) (v := ?_) (a' := ?_) #[true, true, true, true, true, true, true, true, true, false, false, false] rfl rfl (any_of HT_.out (by kernel_rfl)) (fun _ _ _ h => h) (Or.inl ⟨by rfl, ?_⟩) ?_ ?_; rotate_left; (intro w'; go_simp; with_reducible rfl); rotate_left; (simp only [Act.put, List.setIfInBounds_toArray, List.set_cons_zero, List.set_cons_succ, i64_w, i32_w]; rfl)
             refine pure_ (i := 9) (N := some 61) (v := ?_) (a' := ?_) #[true, true, true, true, true, true, true, true, true, true, false, false] rfl rfl (any_of HT_.out (by kernel_rfl)) (fun _ _ _ h => h) (Or.inl ⟨by rfl, ?_⟩) ?_ ?_; rotate_left; (intro w'; go_simp; with_reducible rfl); rotate_left; (simp only [Act.put, List.setIfInBounds_toArray, List.set_cons_zero, List.set_cons_succ, i64_w, i32_w]; rfl)
             refine one_ (i := 10) (N := none) #[true, true, true, true, true, true, true, true, true, true, true, false] rfl rfl (one_of HT_.out (by kernel_rfl)) (by decide) (fun K hK => ?_)
             have hs30 : w29.cell? ⟨gb230, 0, none⟩ = some (.int .i64 t225) := (blk_cell BK230.out 0).trans rfl
             have hfs30 := blk_frozen BK230.out 0
             have hns30_0 := NB220_230.out
             have hms30_0 := NB230_220.out
             have hs32 : w29.cell? ⟨gb230, 1, none⟩ = some (.slice Ao22 t226.length co22) := (blk_cell BK230.out 1).trans rfl
             have hfs32 := blk_frozen BK230.out 1
             have hns32_0 := NB220_230.out
             have hms32_0 := NB230_220.out
             refine skip_ (w1 := ?_) (by rfl) rfl ?_ ?_
             rotate_left
             ·go_simp
              rfl
             refine hK.out _ _ ⟨((cell_far (p := ⟨gb230, _, none⟩) NB220_230.out _).trans (((cell_far (p := ⟨gb230, _, none⟩) NB220_230.out _).trans (hHeld.1)))), ((cell_far (p := ⟨gb230, _, none⟩) NB220_230.out _).trans (((cell_far (p := ⟨gb230, _, none⟩) NB220_230.out _).trans (hHeld.2.1)))), ((cell_far (p := ⟨gb230, _, none⟩) (by first | exact Nat.ne_of_lt (Nat.lt_of_lt_of_le (by have := World.block_lt_of_cell? _ _ hw232_0; first | rwa [add_block] at this | exact this) GW230.out) | (rw [add_block]; exact Nat.ne_of_lt (Nat.lt_of_lt_of_le (by have := World.block_lt_of_cell? _ _ hw232_0; first | rwa [add_block] at this | exact this) GW230.out)) | (show (Addr.add _ _).block ≠ _; rw [add_block]; exact Nat.ne_of_lt (Nat.lt_of_lt_of_le (by have := World.block_lt_of_cell? _ _ hw232_0; first | rwa [add_block] at this | exact this) GW230.out)) | (dsimp only; exact Nat.ne_of_lt (Nat.lt_of_lt_of_le (by have := World.block_lt_of_cell? _ _ hw232_0; first | rwa [add_block] at this | exact this) GW230.out))) _).trans (((cell_far (p := ⟨gb230, _, none⟩) (by first | exact Nat.ne_of_lt (Nat.lt_of_lt_of_le (by have := World.block_lt_of_cell? _ _ hw232_0; first | rwa [add_block] at this | exact this) GW230.out) | (rw [add_block]; exact Nat.ne_of_lt (Nat.lt_of_lt_of_le (by have := World.block_lt_of_cell? _ _ hw232_0; first | rwa [add_block] at this | exact this) GW230.out)) | (show (Addr.add _ _).block ≠ _; rw [add_block]; exact Nat.ne_of_lt (Nat.lt_of_lt_of_le (by have := World.block_lt_of_cell? _ _ hw232_0; first | rwa [add_block] at this | exact this) GW230.out)) | (dsimp only; exact Nat.ne_of_lt (Nat.lt_of_lt_of_le (by have := World.block_lt_of_cell? _ _ hw232_0; first | rwa [add_block] at this | exact this) GW230.out))) _).trans (hHeld.2.2.1)))), ((cell_far (p := ⟨gb230, _, none⟩) (by first | exact Nat.ne_of_lt (Nat.lt_of_lt_of_le (by have := World.block_lt_of_cell? _ _ hw232_1; first | rwa [add_block] at this | exact this) GW230.out) | (rw [add_block]; exact Nat.ne_of_lt (Nat.lt_of_lt_of_le (by have := World.block_lt_of_cell? _ _ hw232_1; first | rwa [add_block] at this | exact this) GW230.out)) | (show (Addr.add _ _).block ≠ _; rw [add_block]; exact Nat.ne_of_lt (Nat.lt_of_lt_of_le (by have := World.block_lt_of_cell? _ _ hw232_1; first | rwa [add_block] at this | exact this) GW230.out)) | (dsimp only; exact Nat.ne_of_lt (Nat.lt_of_lt_of_le (by have := World.block_lt_of_cell? _ _ hw232_1; first | rwa [add_block] at this | exact this) GW230.out))) _).trans (((cell_far (p := ⟨gb230, _, none⟩) (by first | exact Nat.ne_of_lt (Nat.lt_of_lt_of_le (by have := World.block_lt_of_cell? _ _ hw232_1; first | rwa [add_block] at this | exact this) GW230.out) | (rw [add_block]; exact Nat.ne_of_lt (Nat.lt_of_lt_of_le (by have := World.block_lt_of_cell? _ _ hw232_1; first | rwa [add_block] at this | exact this) GW230.out)) | (show (Addr.add _ _).block ≠ _; rw [add_block]; exact Nat.ne_of_lt (Nat.lt_of_lt_of_le (by have := World.block_lt_of_cell? _ _ hw232_1; first | rwa [add_block] at this | exact this) GW230.out)) | (dsimp only; exact Nat.ne_of_lt (Nat.lt_of_lt_of_le (by have := World.block_lt_of_cell? _ _ hw232_1; first | rwa [add_block] at this | exact this) GW230.out))) _).trans (hHeld.2.2.2))))⟩ (fun hHeld => ?_)
             clear hK K
             refine pure_ (i := 11) (N := some 9) (v := ?_) (a' := ?_) #[true, true, true, true, true, true, true, true, true, true, true, true] rfl rfl (any_of HT_.out (by kernel_rfl)) (fun _ _ _ h => h) (Or.inl ⟨by rfl, ?_⟩) ?_ ?_; rotate_left; (intro w'; go_simp; with_reducible rfl); rotate_left; (simp only [Act.put, List.setIfInBounds_toArray, List.set_cons_zero, List.set_cons_succ, i64_w, i32_w]; rfl)
             refine done_ (done_of HT_.out (by kernel_rfl)) ?_
             try go_wp2
             go_meet
             case rel => exact ⟨_, (t237), (t233), (t234), (.slice Ao31 t234.length co31), (by first | rfl | (simp; done) | (simp [*]; done)), H', ⟨by have := HK1.out; have := HJ8.out; first | omega | exact Nat.le_refl _⟩, ⟨by (with_reducible repeat (first | apply Kd.R_alloc | apply Kd.R_drewN | apply Kd.R_drew)); exact Kd.R_mono (Kd.R_far (p := ⟨gb230, 1, none⟩) (Kd.R_far (p := ⟨gb230, 0, none⟩) (Kd.R_types HO_221001.out BK230.out (by decide)) (fun _ hk => hk.2) (.int .i64 t233)) (fun _ hk => hk.2) (.slice Ao31 t234.length co31)) (fun _ hk => hk.1.2)⟩, ⟨by (with_reducible repeat (first | apply Kd.R_alloc | apply Kd.R_drewN | apply Kd.R_drew)); exact Kd.R_mono (Kd.R_far (p := ⟨gb230, 1, none⟩) (Kd.R_far (p := ⟨gb230, 0, none⟩) (Kd.R_types HO236.out BK230.out (by decide)) (fun _ hk => hk.2) (.int .i64 t233)) (fun _ hk => hk.2) (.slice Ao31 t234.length co31)) (fun _ hk => hk.1.1.2)⟩, ⟨by (with_reducible repeat (first | refine blk_drewN ?_ _ | refine blk_drew ?_ | refine blk_alloc ?_ _)); refine blk_far ?_ NB220_230.out _; (with_reducible repeat (first | refine blk_drewN ?_ _ | refine blk_drew ?_ | refine blk_alloc ?_ _)); refine blk_far ?_ NB220_230.out _; (with_reducible repeat (first | refine blk_drewN ?_ _ | refine blk_drew ?_ | refine blk_alloc ?_ _)); exact BK220.out⟩, ⟨by (with_reducible repeat (first | refine blk_drewN ?_ _ | refine blk_drew ?_ | refine blk_alloc ?_ _)); refine blk_put (cs := #[.int .i64 t233, .slice Ao22 t226.length co22]) ?_ 1 _ rfl; (with_reducible repeat (first | refine blk_drewN ?_ _ | refine blk_drew ?_ | refine blk_alloc ?_ _)); refine blk_put (cs := #[.int .i64 t225, .slice Ao22 t226.length co22]) ?_ 0 _ rfl; (with_reducible repeat (first | refine blk_drewN ?_ _ | refine blk_drew ?_ | refine blk_alloc ?_ _)); exact BK230.out⟩, ⟨by repeat (first | (with_reducible first | exact HB.out | apply below_alloc | apply pw_below_drewN | apply below_drew1 | refine below_set ?_ GE220.out | refine below_set ?_ GE230.out) | exact HB.out)⟩⟩
           ·replace c25 := Bool.eq_false_iff.mpr c25
            subst c25
            have H1 : (caduceuslaw14_ViewRises.j2 kj8 l1 x7_1 t229 x221000_1 x221001_1 t225 t226) = some r := by rw [if_neg (show ¬ (false = true) by decide)] at H; exact H
            clear H
            have H := H1
            clear H1
            have H' := Aside0.mk H
            clear H
            go_wp2
            go_meet
            case rel => exact ⟨_, (t229), (t225), (t226), (.slice Ao22 t226.length co22), (by first | rfl | (simp; done) | (simp [*]; done)), H', ⟨by have := HK1.out; have := HJ8.out; first | omega | exact Nat.le_refl _⟩, ⟨by (with_reducible repeat (first | apply Kd.R_alloc | apply Kd.R_drewN | apply Kd.R_drew)); exact Kd.R_mono (Kd.R_far (p := ⟨gb230, 1, none⟩) (Kd.R_far (p := ⟨gb230, 0, none⟩) (Kd.R_types HO_221001.out BK230.out (by decide)) (fun _ hk => hk.2) (.int .i64 t225)) (fun _ hk => hk.2) (.slice Ao22 t226.length co22)) (fun _ hk => hk.1)⟩, ⟨by (with_reducible repeat (first | apply Kd.R_alloc | apply Kd.R_drewN | apply Kd.R_drew)); exact Kd.R_mono (Kd.R_far (p := ⟨gb230, 1, none⟩) (Kd.R_far (p := ⟨gb230, 0, none⟩) (Kd.R_types HO228.out BK230.out (by decide)) (fun _ hk => hk.2) (.int .i64 t225)) (fun _ hk => hk.2) (.slice Ao22 t226.length co22)) (fun _ hk => hk.1)⟩, ⟨by (with_reducible repeat (first | refine blk_drewN ?_ _ | refine blk_drew ?_ | refine blk_alloc ?_ _)); refine blk_far ?_ NB220_230.out _; (with_reducible repeat (first | refine blk_drewN ?_ _ | refine blk_drew ?_ | refine blk_alloc ?_ _)); refine blk_far ?_ NB220_230.out _; (with_reducible repeat (first | refine blk_drewN ?_ _ | refine blk_drew ?_ | refine blk_alloc ?_ _)); exact BK220.out⟩, ⟨by (with_reducible repeat (first | refine blk_drewN ?_ _ | refine blk_drew ?_ | refine blk_alloc ?_ _)); refine blk_put (cs := #[.int .i64 t225, .slice none 0 0]) ?_ 1 _ rfl; (with_reducible repeat (first | refine blk_drewN ?_ _ | refine blk_drew ?_ | refine blk_alloc ?_ _)); refine blk_put (cs := #[.int .i64 0, .slice none 0 0]) ?_ 0 _ rfl; (with_reducible repeat (first | refine blk_drewN ?_ _ | refine blk_drew ?_ | refine blk_alloc ?_ _)); exact BK230.out⟩, ⟨by repeat (first | (with_reducible first | exact HB.out | apply below_alloc | apply pw_below_drewN | apply below_drew1 | refine below_set ?_ GE220.out | refine below_set ?_ GE230.out) | exact HB.out)⟩⟩
         case rest =>
          clear HC15
          try clear c1
          try clear c2
          try clear p2
          try clear q2
          try clear hx2
          try clear c4
          try clear c4b0
          try clear c4b1
          try clear c5
          try clear c9
          try clear c10
          try clear c10b0
          try clear c11
          try clear c12
          try clear c12b0
          try clear c13
          try clear c13b0
          try clear p22
          try clear q22
          try clear hx22
          try clear p23
          try clear q23
          try clear hx23
          try clear q24
          try clear c25
          try clear hcz7_0
          try clear hcz7_1
          try clear hfz7_0
          try clear hfz7_1
          try clear hx224_0
          try clear hx224_1
          try clear hx231_0
          try clear hx231_1
          try clear hx232_0
          try clear hx232_1
          try clear p2
          try clear p224
          try clear p231
          try clear p232
          try clear q224
          try clear q231
          try clear q232
          obtain ⟨kq, x9_14, x231000_14, x231001_14, u231001, rfl, HA, HJ14, HO_221001, HO_231001, BK220, BK230, HB⟩ := hcut
          cases kq with
          | zero => exact absurd HA.out (by simp [caduceuslaw14_ViewRises.j2])
          | succ kj14 =>
           have H := HA.out
           clear HA
           simp only [caduceuslaw14_ViewRises.j2] at H
           by_cases c33 : x9_14 = 0
           ·rw [if_pos c33] at H
            have c33b0 : (x9_14 == 0) = true := beq_iff_eq.mpr c33
            have c33b1 : (x9_14 != 0) = false := bne_eq_false_iff_eq.mpr c33
            clear c33
            have HC34 := Aside0.mk H
            clear H
            go_upto_region 11 with (fail)
            go_cut [83] (fun v83 wc => ∃ (kq : Nat) (x83_33 : Bool), v83 = .bool x83_33 ∧ Aside0 (caduceuslaw14_ViewRises.j3 kq l1 x7_1 x83_33 x221000_1 x221001_1 x231000_14 x231001_14 = some r) ∧ Aside0 (kq ≤ kj14) ∧ Aside0 (Kd.R k53 53 wc w.heap.size (fun k_ => some k_ ≠ (u231001 : Value).ownBlock) (.slice Ao16 x221001_1.length co16) x221001_1) ∧ Aside0 (Kd.R k53 53 wc w.heap.size (fun k_ => some k_ ≠ ((.slice Ao16 x221001_1.length co16) : Value).ownBlock) u231001 x231001_14) ∧ Aside0 (wc.heap[gb220]? = some (.cells #[.int .i64 x221000_1, (.slice Ao16 x221001_1.length co16)] 24 (0, 0))) ∧ Aside0 (wc.heap[gb230]? = some (.cells #[.int .i64 x231000_14, u231001] 24 (0, 0))) ∧ Aside0 (Below w.heap.size w wc))
            case first =>
             have H := HC34.out
             clear HC34
             replace H := Option.bind_eq_some_iff.mp H
             obtain ⟨t238, A350, H⟩ := H
             replace H : (if t238 = true then (if x231000_14 = (wrap64 (x221000_1 + 1)) then (caduceuslaw14_ViewRises.j3 kj14 l1 x7_1 ((x231001_14.length : Int) != (x221001_1.length : Int)) x221000_1 x221001_1 x231000_14 x231001_14) else none) else none) = some r := H
             have A35 := Aside0.mk A350
             clear A350
             by_cases c36 : t238 = true
             ·subst c36
              have H1 : (if x231000_14 = (wrap64 (x221000_1 + 1)) then (caduceuslaw14_ViewRises.j3 kj14 l1 x7_1 ((x231001_14.length : Int) != (x221001_1.length : Int)) x221000_1 x221001_1 x231000_14 x231001_14) else none) = some r := by rw [if_pos rfl] at H; exact H
              clear H
              have H := H1
              clear H1
              by_cases c37 : x231000_14 = (wrap64 (x221000_1 + 1))
              ·rw [if_pos c37] at H
               have c37b0 : (x231000_14 == (wrap64 (x221000_1 + 1))) = true := beq_iff_eq.mpr c37
               have c37b1 : (x231000_14 != (wrap64 (x221000_1 + 1))) = false := bne_eq_false_iff_eq.mpr c37
               clear c37
               (first | rw [c37b0] | (simp only [i64_w, i32_w]; rw [c37b0]) | skip)
               have H' := Aside0.mk H
               clear H
               have hnb38 := NB230_220.out
               have hnc38 := NB220_230.out
               have hcz39_0 : wc.cell? ⟨gb230, 0, none⟩ = some (.int .i64 x231000_14) := (blk_cell BK230.out 0).trans rfl
               have hcz39_1 : wc.cell? ⟨gb230, 1, none⟩ = some (u231001) := (blk_cell BK230.out 1).trans rfl
               have hfz39_0 := blk_frozen BK230.out 0
               have hfz39_1 := blk_frozen BK230.out 1
               obtain ⟨Ao40, co40, eo40⟩ := Kd.R_slice HO_231001.out
               subst eo40
               go_wp2_with (first | ((with_reducible refine gate_callee (f := 17) rfl ?_); refine goesL_ (some 65) rfl rfl Try.func17 (by kernel_rfl) rfl #[.agg #[.int .i64 x231000_14, .slice Ao40 x231001_14.length co40]] rfl (by (try simp only [List.map_toArray, List.map_cons, List.map_nil]); first | done | rfl | (simp only [List.length_drop, List.length_take]; rfl)) ?_; (with_reducible refine (view_Check.calls kj14 x231000_14 _ _ x231001_14 true _ ?side1 ?side2 A35.out).mono ?_); (case side1 => repeat (first | exact (Kd.R_reads' HO_231001.out).2.2 | (with_reducible refine Kd.C_alloc ?_ _) | (with_reducible refine Kd.C_drewN ?_ _) | (with_reducible refine Kd.C_drew ?_))); (case side2 => exact (Kd.R_reads' HO_231001.out).2.1); rintro e w41 ⟨rfl, hb⟩; refine ⟨_, rfl, ?_⟩; have n0_ := Aside0.mk (Kd.R_below (by (with_reducible repeat (first | apply Kd.R_alloc | apply Kd.R_drewN | apply Kd.R_drew)); exact HO_221001.out) hb); have n1_ := Aside0.mk (Kd.R_below (by (with_reducible repeat (first | apply Kd.R_alloc | apply Kd.R_drewN | apply Kd.R_drew)); exact HO_231001.out) hb); have n2_ := Aside0.mk (blk_below (g := gb220) (o := .cells #[.int .i64 x221000_1, .slice Ao16 x221001_1.length co16] 24 (0, 0)) (by (with_reducible repeat (first | refine blk_drewN ?_ _ | refine blk_drew ?_ | refine blk_alloc ?_ _)); exact BK220.out) hb); have n3_ := Aside0.mk (blk_below (g := gb230) (o := .cells #[.int .i64 x231000_14, .slice Ao40 x231001_14.length co40] 24 (0, 0)) (by (with_reducible repeat (first | refine blk_drewN ?_ _ | refine blk_drew ?_ | refine blk_alloc ?_ _)); exact BK230.out) hb); have n4_ := Aside0.mk (below_step (by repeat (first | (with_reducible first | exact HB.out | apply below_alloc | apply pw_below_drewN | apply below_drew1 | refine below_set ?_ GE220.out | refine below_set ?_ GE230.out) | exact HB.out)) hb); clear HO_221001; clear HO_231001; clear BK220; clear BK230; clear HB; have HO_221001 := n0_; have HO_231001 := n1_; have BK220 := n2_; have BK230 := n3_; have HB := n4_; clear n0_ n1_ n2_ n3_ n4_; (try clear hb); (try clear hb2); (try clear hk); (try clear hi); have hcz42_0 : w41.cell? ⟨gb230, 0, none⟩ = some (.int .i64 x231000_14) := (blk_cell BK230.out 0).trans rfl; have hcz42_1 : w41.cell? ⟨gb230, 1, none⟩ = some (.slice Ao40 x231001_14.length co40) := (blk_cell BK230.out 1).trans rfl; have hfz42_0 := blk_frozen BK230.out 0; have hfz42_1 := blk_frozen BK230.out 1; have hcz43_0 : w41.cell? ⟨gb220, 0, none⟩ = some (.int .i64 x221000_1) := (blk_cell BK220.out 0).trans rfl; have hcz43_1 : w41.cell? ⟨gb220, 1, none⟩ = some (.slice Ao16 x221001_1.length co16) := (blk_cell BK220.out 1).trans rfl; have hfz43_0 := blk_frozen BK220.out 0; have hfz43_1 := blk_frozen BK220.out 1))
               go_meet
               case rel => exact ⟨_, (((x231001_14.length : Int) != (x221001_1.length : Int))), (by first | rfl | (simp; done) | (simp [*]; done)), H', ⟨by have := HK1.out; have := HJ8.out; have := HJ14.out; first | omega | exact Nat.le_refl _⟩, ⟨by (with_reducible repeat (first | apply Kd.R_alloc | apply Kd.R_drewN | apply Kd.R_drew)); exact HO_221001.out⟩, ⟨by (with_reducible repeat (first | apply Kd.R_alloc | apply Kd.R_drewN | apply Kd.R_drew)); exact HO_231001.out⟩, ⟨by (with_reducible repeat (first | refine blk_drewN ?_ _ | refine blk_drew ?_ | refine blk_alloc ?_ _)); exact BK220.out⟩, ⟨by (with_reducible repeat (first | refine blk_drewN ?_ _ | refine blk_drew ?_ | refine blk_alloc ?_ _)); exact BK230.out⟩, ⟨by repeat (first | (with_reducible first | exact HB.out | apply below_alloc | apply pw_below_drewN | apply below_drew1 | refine below_set ?_ GE220.out | refine below_set ?_ GE230.out) | exact HB.out)⟩⟩
              ·rw [if_neg c37] at H
               cases H
             ·replace c36 := Bool.eq_false_iff.mpr c36
              subst c36
              have H1 : (none : Option _) = some r := by rw [if_neg (show ¬ (false = true) by decide)] at H; exact H
              cases H1
            case rest =>
             clear HC34
             try clear c1
             try clear c2
             try clear p2
             try clear q2
             try clear hx2
             try clear c3
             try clear c4
             try clear c4b0
             try clear c4b1
             try clear c5
             try clear p6
             try clear c9
             try clear c10
             try clear c10b0
             try clear c11
             try clear c12
             try clear c12b0
             try clear c13
             try clear c13b0
             try clear c17
             try clear p22
             try clear q22
             try clear hx22
             try clear p23
             try clear q23
             try clear hx23
             try clear q24
             try clear c25
             try clear c33
             try clear c33b0
             try clear c33b1
             try clear c36
             try clear c37
             try clear c37b0
             try clear c37b1
             try clear c38
             try clear c44
             try clear c50
             try clear hcz39_0
             try clear hcz39_1
             try clear hcz42_0
             try clear hcz42_1
             try clear hcz43_0
             try clear hcz43_1
             try clear hcz45_0
             try clear hcz45_1
             try clear hcz48_0
             try clear hcz48_1
             try clear hcz49_0
             try clear hcz49_1
             try clear hcz51_0
             try clear hcz51_1
             try clear hcz7_0
             try clear hcz7_1
             try clear hfz39_0
             try clear hfz39_1
             try clear hfz42_0
             try clear hfz42_1
             try clear hfz43_0
             try clear hfz43_1
             try clear hfz45_0
             try clear hfz45_1
             try clear hfz48_0
             try clear hfz48_1
             try clear hfz49_0
             try clear hfz49_1
             try clear hfz51_0
             try clear hfz51_1
             try clear hfz7_0
             try clear hfz7_1
             try clear hx224_0
             try clear hx224_1
             try clear hx231_0
             try clear hx231_1
             try clear hx232_0
             try clear hx232_1
             try clear p2
             try clear p22
             try clear p224
             try clear p23
             try clear p231
             try clear p232
             try clear q2
             try clear q22
             try clear q224
             try clear q23
             try clear q231
             try clear q232
             try clear q24
             obtain ⟨kq, x83_33, rfl, HA, HJ33, HO_221001, HO_231001, BK220, BK230, HB⟩ := hcut
             cases kq with
             | zero => exact absurd HA.out (by simp [caduceuslaw14_ViewRises.j3])
             | succ kj33 =>
              have H := HA.out
              clear HA
              simp only [caduceuslaw14_ViewRises.j3] at H
              by_cases c54 : x83_33 = true
              ·subst c54
               have H1 : (none : Option _) = some r := by rw [if_pos rfl] at H; exact H
               cases H1
              ·replace c54 := Bool.eq_false_iff.mpr c54
               subst c54
               have H1 : (caduceuslaw14_ViewRises.l1 kj33 l1 x7_1 0 x221000_1 x221001_1 x231000_14 x231001_14) = some r := by rw [if_neg (show ¬ (false = true) by decide)] at H; exact H
               clear H
               have H := H1
               clear H1
               have H' := Aside0.mk H
               clear H
               go_wp2
               go_loopg [10] kj33 (fun kq v10 w' => ∃ (x10_5 : Int), v10 = .int .i64 x10_5 ∧ Aside0 (caduceuslaw14_ViewRises.l1 kq l1 x7_1 x10_5 x221000_1 x221001_1 x231000_14 x231001_14 = some r) ∧ Aside0 (kq ≤ kj33) ∧ Aside0 (Kd.R k53 53 w' w.heap.size (fun k_ => some k_ ≠ (u231001 : Value).ownBlock) (.slice Ao16 x221001_1.length co16) x221001_1) ∧ Aside0 (Kd.R k53 53 w' w.heap.size (fun k_ => some k_ ≠ ((.slice Ao16 x221001_1.length co16) : Value).ownBlock) u231001 x231001_14) ∧ Aside0 (w'.heap[gb220]? = some (.cells #[.int .i64 x221000_1, (.slice Ao16 x221001_1.length co16)] 24 (0, 0))) ∧ Aside0 (w'.heap[gb230]? = some (.cells #[.int .i64 x231000_14, u231001] 24 (0, 0))) ∧ Aside0 (Below w.heap.size w w'))
               case atStart => exact ⟨(0), (by first | rfl | (simp; done) | (simp [*]; done)), H', ⟨Nat.le_refl _⟩, ⟨by (with_reducible repeat (first | apply Kd.R_alloc | apply Kd.R_drewN | apply Kd.R_drew)); exact HO_221001.out⟩, ⟨by (with_reducible repeat (first | apply Kd.R_alloc | apply Kd.R_drewN | apply Kd.R_drew)); exact HO_231001.out⟩, ⟨by (with_reducible repeat (first | refine blk_drewN ?_ _ | refine blk_drew ?_ | refine blk_alloc ?_ _)); exact BK220.out⟩, ⟨by (with_reducible repeat (first | refine blk_drewN ?_ _ | refine blk_drew ?_ | refine blk_alloc ?_ _)); exact BK230.out⟩, ⟨by repeat (first | (with_reducible first | exact HB.out | apply below_alloc | apply pw_below_drewN | apply below_drew1 | refine below_set ?_ GE220.out | refine below_set ?_ GE230.out) | exact HB.out)⟩⟩
               case round =>
                clear H'
                try clear c1
                try clear c2
                try clear p2
                try clear q2
                try clear hx2
                try clear c3
                try clear c4
                try clear c4b0
                try clear c4b1
                try clear c5
                try clear p6
                try clear c9
                try clear c10
                try clear c10b0
                try clear c11
                try clear c12
                try clear c12b0
                try clear c13
                try clear c13b0
                try clear c17
                try clear p22
                try clear q22
                try clear hx22
                try clear p23
                try clear q23
                try clear hx23
                try clear q24
                try clear c25
                try clear c33
                try clear c33b0
                try clear c33b1
                try clear c36
                try clear c37
                try clear c37b0
                try clear c37b1
                try clear c38
                try clear c44
                try clear c50
                try clear c54
                try clear hcz39_0
                try clear hcz39_1
                try clear hcz42_0
                try clear hcz42_1
                try clear hcz43_0
                try clear hcz43_1
                try clear hcz45_0
                try clear hcz45_1
                try clear hcz48_0
                try clear hcz48_1
                try clear hcz49_0
                try clear hcz49_1
                try clear hcz51_0
                try clear hcz51_1
                try clear hcz7_0
                try clear hcz7_1
                try clear hfz39_0
                try clear hfz39_1
                try clear hfz42_0
                try clear hfz42_1
                try clear hfz43_0
                try clear hfz43_1
                try clear hfz45_0
                try clear hfz45_1
                try clear hfz48_0
                try clear hfz48_1
                try clear hfz49_0
                try clear hfz49_1
                try clear hfz51_0
                try clear hfz51_1
                try clear hfz7_0
                try clear hfz7_1
                try clear hx224_0
                try clear hx224_1
                try clear hx231_0
                try clear hx231_1
                try clear hx232_0
                try clear hx232_1
                try clear p2
                try clear p22
                try clear p224
                try clear p23
                try clear p231
                try clear p232
                try clear p6
                try clear q2
                try clear q22
                try clear q224
                try clear q23
                try clear q231
                try clear q232
                try clear q24
                obtain ⟨x10_5, rfl, HA, HK5, HO_221001, HO_231001, BK220, BK230, HB⟩ := hrel
                cases gk with
                | zero => exact absurd HA.out (by simp [caduceuslaw14_ViewRises.l1])
                | succ k5 =>
                 have H := HA.out
                 clear HA
                 simp only [caduceuslaw14_ViewRises.l1] at H
                 by_cases c55 : x10_5 < (x231001_14.length : Int)
                 ·rw [if_pos c55] at H
                  have c55b0 : decide (x10_5 < (x231001_14.length : Int)) = true := decide_eq_true c55
                  clear c55
                  by_cases c56 : 0 ≤ x10_5
                  ·rw [if_pos c56] at H
                   have c56b0 : decide (0 ≤ x10_5) = true := decide_eq_true c56
                   clear c56
                   by_cases c57 : x10_5 < (x221001_1.length : Int)
                   ·rw [if_pos c57] at H
                    have c57b0 : decide (x10_5 < (x221001_1.length : Int)) = true := decide_eq_true c57
                    clear c57
                    have H' := Aside0.mk H
                    clear H
                    have hnb174 := NB230_220.out
                    have hnc174 := NB220_230.out
                    have hcz175_0 : wr.cell? ⟨gb230, 0, none⟩ = some (.int .i64 x231000_14) := (blk_cell BK230.out 0).trans rfl
                    have hcz175_1 : wr.cell? ⟨gb230, 1, none⟩ = some (u231001) := (blk_cell BK230.out 1).trans rfl
                    have hfz175_0 := blk_frozen BK230.out 0
                    have hfz175_1 := blk_frozen BK230.out 1
                    obtain ⟨Ao176, co176, eo176⟩ := Kd.R_slice HO_231001.out
                    subst eo176
                    try go_wp2
                    have n0_ := Aside0.mk (Kd.R_drew HO_221001.out)
                    have n1_ := Aside0.mk (Kd.R_drew HO_231001.out)
                    have n2_ := Aside0.mk (blk_drew BK220.out)
                    have n3_ := Aside0.mk (blk_drew BK230.out)
                    have n4_ := Aside0.mk (below_drew1 HB.out)
                    clear HO_221001
                    clear HO_231001
                    clear BK220
                    clear BK230
                    clear HB
                    have HO_221001 := n0_
                    have HO_231001 := n1_
                    have BK220 := n2_
                    have BK230 := n3_
                    have HB := n4_
                    clear n0_ n1_ n2_ n3_ n4_
                    have p239 : 0 ≤ (x10_5 : Int) := of_decide_eq_true (by first | (with_reducible assumption) | assumption)
                    have q239 : x10_5 < (x221001_1.length : Int) := of_decide_eq_true (by first | (with_reducible assumption) | assumption)
                    obtain ⟨ad239, e239, hx239_0, hx239_1, hx239_2⟩ := at_T53 (Kd.R_reads' HO_221001.out).2.2 x10_5 p239 q239
                    cases e239
                    replace p239 := eq_true p239
                    replace q239 := eq_true q239
                    have p240 : 0 ≤ (x10_5 : Int) := of_decide_eq_true (by first | (with_reducible assumption) | assumption)
                    have q240 : x10_5 < (x231001_14.length : Int) := of_decide_eq_true (by first | (with_reducible assumption) | assumption)
                    obtain ⟨ad240, e240, hx240_0, hx240_1, hx240_2⟩ := at_T53 (Kd.R_reads' HO_231001.out).2.2 x10_5 p240 q240
                    cases e240
                    replace p240 := eq_true p240
                    replace q240 := eq_true q240
                    refine start_ (n := 14) (S := fun w' => w'.cell? ⟨gb220, 0, none⟩ = some (.int .i64 x221000_1) ∧ w'.cell? ⟨gb220, 1, none⟩ = some (.slice (some ad239) x221001_1.length co16) ∧ w'.cell? ⟨gb230, 0, none⟩ = some (.int .i64 x231000_14) ∧ w'.cell? ⟨gb230, 1, none⟩ = some (.slice (some ad240) x231001_14.length co176) ∧ w'.cell? (ad239.add ((x10_5).toNat * 3)) = some (.int .i64 ((rd_T53 x221001_1 x10_5).f0)) ∧ w'.cell? ⟨(ad239.add ((x10_5).toNat * 3)).block, (ad239.add ((x10_5).toNat * 3)).off + 1, none⟩ = some (.int .i64 ((rd_T53 x221001_1 x10_5).f1)) ∧ w'.cell? ⟨(ad239.add ((x10_5).toNat * 3)).block, (ad239.add ((x10_5).toNat * 3)).off + 2, none⟩ = some (.bool ((rd_T53 x221001_1 x10_5).f2)) ∧ w'.cell? (ad240.add ((x10_5).toNat * 3)) = some (.int .i64 ((rd_T53 x231001_14 x10_5).f0)) ∧ w'.cell? ⟨(ad240.add ((x10_5).toNat * 3)).block, (ad240.add ((x10_5).toNat * 3)).off + 1, none⟩ = some (.int .i64 ((rd_T53 x231001_14 x10_5).f1)) ∧ w'.cell? ⟨(ad240.add ((x10_5).toNat * 3)).block, (ad240.add ((x10_5).toNat * 3)).off + 2, none⟩ = some (.bool ((rd_T53 x231001_14 x10_5).f2))) (ds := []) #[false, false, false, false, false, false, false, false, false, false, false, false, false, false] (by kernel_rfl) rfl rfl ⟨(blk_cell BK220.out 0).trans rfl, (blk_cell BK220.out 1).trans rfl, (blk_cell BK230.out 0).trans rfl, (blk_cell BK230.out 1).trans rfl, hx239_0, hx239_1, hx239_2, hx240_0, hx240_1, hx240_2⟩ (fun hHeld => ?_); refine with_tabW caduceuslaw14_ViewRises.tab16 caduceuslaw14_ViewRises.bits16 (fun HT_ HW_ => ?_)
                    generalize wr.drew = w177 at HO_221001 HO_231001 BK220 BK230 HB hx239_0 hx239_1 hx239_2 hx240_0 hx240_1 hx240_2 hHeld ⊢
                    refine pure_ (i := 0) (N := some 91) (v := ?_) (a' := ?_) #[true, false, false, false, false, false, false, false, false, false, false, false, false, false] rfl rfl (any_of HT_.out (by kernel_rfl)) (fun _ _ _ h => h) (Or.inl ⟨by rfl, ?_⟩) ?_ ?_; rotate_left; (intro w'; go_simp; with_reducible rfl); rotate_left; (simp only [Act.put, List.setIfInBounds_toArray, List.set_cons_zero, List.set_cons_succ, i64_w, i32_w]; rfl)
                    refine pure_ (i := 2) (N := some 93) (v := ?_) (a' := ?_) #[true, false, true, false, false, false, false, false, false, false, false, false, false, false] rfl rfl (any_of HT_.out (by kernel_rfl)) (fun _ _ _ h => h) (Or.inl ⟨by rfl, ?_⟩) ?_ ?_; rotate_left; (intro w'; go_simp; with_reducible rfl); rotate_left; (simp only [Act.put, List.setIfInBounds_toArray, List.set_cons_zero, List.set_cons_succ, i64_w, i32_w]; rfl)
                    refine pure_ (i := 5) (N := some 96) (v := ?_) (a' := ?_) #[true, false, true, false, false, true, false, false, false, false, false, false, false, false] rfl rfl (any_of HT_.out (by kernel_rfl)) (fun _ _ _ h => h) (Or.inl ⟨by rfl, ?_⟩) ?_ ?_; rotate_left; (intro w'; go_simp; with_reducible rfl); rotate_left; (simp only [Act.put, List.setIfInBounds_toArray, List.set_cons_zero, List.set_cons_succ, i64_w, i32_w]; rfl)
                    refine pure_ (i := 7) (N := some 98) (v := ?_) (a' := ?_) #[true, false, true, false, false, true, false, true, false, false, false, false, false, false] rfl rfl (any_of HT_.out (by kernel_rfl)) (fun _ _ _ h => h) (Or.inl ⟨by rfl, ?_⟩) ?_ ?_; rotate_left; (intro w'; go_simp; with_reducible rfl); rotate_left; (simp only [Act.put, List.setIfInBounds_toArray, List.set_cons_zero, List.set_cons_succ, i64_w, i32_w]; rfl)
                    refine take_ (i := 1) (N := some 92) (v := ?_) (a' := ?_) #[true, true, true, false, false, true, false, true, false, false, false, false, false, false] rfl rfl (take_ofW HT_.out HW_.out (by kernel_rfl)) (fun _ _ _ h => h) (Or.inl ⟨by rfl, ?_⟩) hHeld ?_ ?_
                    rotate_left
                    ·rintro w' ⟨s0, s1, s2, s3, s4, s5, s6, s7, s8, s9⟩
                     go_simp
                     with_reducible rfl
                    rotate_left
                    ·simp only [Act.put, List.setIfInBounds_toArray, List.set_cons_zero, List.set_cons_succ, i64_w, i32_w]
                     rfl
                    refine pure_ (i := 3) (N := some 94) (v := ?_) (a' := ?_) #[true, true, true, true, false, true, false, true, false, false, false, false, false, false] rfl rfl (any_of HT_.out (by kernel_rfl)) (fun _ _ _ h => h) (Or.inl ⟨by rfl, ?_⟩) ?_ ?_; rotate_left; (intro w'; go_simp; with_reducible rfl); rotate_left; (simp only [Act.put, List.setIfInBounds_toArray, List.set_cons_zero, List.set_cons_succ, i64_w, i32_w]; rfl)
                    refine take_ (i := 4) (N := some 95) (v := ?_) (a' := ?_) #[true, true, true, true, true, true, false, true, false, false, false, false, false, false] rfl rfl (take_ofW HT_.out HW_.out (by kernel_rfl)) (fun _ _ _ h => h) (Or.inl ⟨by rfl, ?_⟩) hHeld ?_ ?_
                    rotate_left
                    ·rintro w' ⟨s0, s1, s2, s3, s4, s5, s6, s7, s8, s9⟩
                     go_simp
                     with_reducible rfl
                    rotate_left
                    ·simp only [Act.put, List.setIfInBounds_toArray, List.set_cons_zero, List.set_cons_succ, i64_w, i32_w]
                     rfl
                    refine take_ (i := 6) (N := some 97) (v := ?_) (a' := ?_) #[true, true, true, true, true, true, true, true, false, false, false, false, false, false] rfl rfl (take_ofW HT_.out HW_.out (by kernel_rfl)) (fun _ _ _ h => h) (Or.inl ⟨by rfl, ?_⟩) hHeld ?_ ?_
                    rotate_left
                    ·rintro w' ⟨s0, s1, s2, s3, s4, s5, s6, s7, s8, s9⟩
                     go_simp
                     with_reducible rfl
                    rotate_left
                    ·simp only [Act.put, List.setIfInBounds_toArray, List.set_cons_zero, List.set_cons_succ, i64_w, i32_w]
                     rfl
                    refine pure_ (i := 8) (N := some 99) (v := ?_) (a' := ?_) #[true, true, true, true, true, true, true, true, true, false, false, false, false, false] rfl rfl (any_of HT_.out (by kernel_rfl)) (fun _ _ _ h => h) (Or.inl ⟨by rfl, ?_⟩) ?_ ?_; rotate_left; (intro w'; go_simp; with_reducible rfl); rotate_left; (simp only [Act.put, List.setIfInBounds_toArray, List.set_cons_zero, List.set_cons_succ, i64_w, i32_w]; rfl)
                    refine take_ (i := 9) (N := some 100) (v := ?_) (a' := ?_) #[true, true, true, true, true, true, true, true, true, true, false, false, false, false] rfl rfl (take_ofW HT_.out HW_.out (by kernel_rfl)) (fun _ _ _ h => h) (Or.inl ⟨by rfl, ?_⟩) hHeld ?_ ?_
                    rotate_left
                    ·rintro w' ⟨s0, s1, s2, s3, s4, s5, s6, s7, s8, s9⟩
                     go_simp
                     with_reducible rfl
                    rotate_left
                    ·simp only [Act.put, List.setIfInBounds_toArray, List.set_cons_zero, List.set_cons_succ, i64_w, i32_w]
                     rfl
                    refine join_ (σ := Nat × Nat) 2 #[true, true, true, true, true, true, true, true, true, true, true, true, false, false] (fun s_ => [(11, .pointer (some ⟨s_.1, 0, none⟩)), (12, .pointer (some ⟨s_.2, 0, none⟩))]) (fun s_ w' => (w'.cell? ⟨gb220, 0, none⟩ = some (.int .i64 x221000_1) ∧ w'.cell? ⟨gb220, 1, none⟩ = some (.slice (some ad239) x221001_1.length co16) ∧ w'.cell? ⟨gb230, 0, none⟩ = some (.int .i64 x231000_14) ∧ w'.cell? ⟨gb230, 1, none⟩ = some (.slice (some ad240) x231001_14.length co176) ∧ w'.cell? (ad239.add ((x10_5).toNat * 3)) = some (.int .i64 ((rd_T53 x221001_1 x10_5).f0)) ∧ w'.cell? ⟨(ad239.add ((x10_5).toNat * 3)).block, (ad239.add ((x10_5).toNat * 3)).off + 1, none⟩ = some (.int .i64 ((rd_T53 x221001_1 x10_5).f1)) ∧ w'.cell? ⟨(ad239.add ((x10_5).toNat * 3)).block, (ad239.add ((x10_5).toNat * 3)).off + 2, none⟩ = some (.bool ((rd_T53 x221001_1 x10_5).f2)) ∧ w'.cell? (ad240.add ((x10_5).toNat * 3)) = some (.int .i64 ((rd_T53 x231001_14 x10_5).f0)) ∧ w'.cell? ⟨(ad240.add ((x10_5).toNat * 3)).block, (ad240.add ((x10_5).toNat * 3)).off + 1, none⟩ = some (.int .i64 ((rd_T53 x231001_14 x10_5).f1)) ∧ w'.cell? ⟨(ad240.add ((x10_5).toNat * 3)).block, (ad240.add ((x10_5).toNat * 3)).off + 2, none⟩ = some (.bool ((rd_T53 x231001_14 x10_5).f2))) ∧ (Kd.R k53 53 w' w.heap.size (fun k_ => some k_ ≠ (.slice (some ad240) x231001_14.length co176 : Value).ownBlock ∧ k_ ≠ s_.1 ∧ k_ ≠ s_.2) (.slice (some ad239) x221001_1.length co16) x221001_1) ∧ (Kd.R k53 53 w' w.heap.size (fun k_ => some k_ ≠ (.slice (some ad239) x221001_1.length co16 : Value).ownBlock ∧ k_ ≠ s_.1 ∧ k_ ≠ s_.2) (.slice (some ad240) x231001_14.length co176) x231001_14) ∧ (w'.heap[gb220]? = some (.cells #[.int .i64 x221000_1, .slice (some ad239) x221001_1.length co16] 24 (0, 0))) ∧ (w'.heap[gb230]? = some (.cells #[.int .i64 x231000_14, .slice (some ad240) x231001_14.length co176] 24 (0, 0))) ∧ (w'.heap[s_.1]? = some (.cells #[.int .i64 0, .int .i64 0, .bool false] 53 (0, 0))) ∧ (w'.heap[s_.2]? = some (.cells #[.int .i64 0, .int .i64 0, .bool false] 53 (0, 0))) ∧ (w.heap.size ≤ s_.1) ∧ (w.heap.size ≤ s_.1) ∧ (gb220 ≠ s_.1) ∧ (s_.1 ≠ gb220) ∧ (gb230 ≠ s_.1) ∧ (s_.1 ≠ gb230) ∧ (s_.2 ≠ s_.1) ∧ (s_.1 ≠ s_.2) ∧ (w.heap.size ≤ s_.2) ∧ (w.heap.size ≤ s_.2) ∧ (gb220 ≠ s_.2) ∧ (s_.2 ≠ gb220) ∧ (gb230 ≠ s_.2) ∧ (s_.2 ≠ gb230) ∧ (Below w.heap.size w w')) ?_ ?_
                    rotate_left
                    ·as_aux_lemma =>
                      intro hCont
                      refine two_ (i := 10) (j := 11) (Ni := some 11) (Nj := some 12) #[true, true, true, true, true, true, true, true, true, true, true, false, false, false] #[true, true, true, true, true, true, true, true, true, true, false, true, false, false] rfl rfl rfl rfl (two_of HT_.out (by kernel_rfl)) (by decide) (by decide) (fun K hK => ?_) (fun K hK => ?_)
                      ·as_aux_lemma =>
                        skip
                        refine box_step ?hg (N := 11) ?hd (cs := #[.int .i64 0, .int .i64 0, .bool false]) (t := 53) ?hr ?_; (case hd => rfl); (case hg => rfl); (case hr => first | (go_simp; done) | (go_simp; rfl))
                        intro gb241 hg w178 hbox hb
                        have HS4_ := (hb.cell (World.block_lt_of_cell? _ _ (hHeld.2.2.2.2.1))).trans (hHeld.2.2.2.2.1)
                        have HS5_ := (hb.cell (World.block_lt_of_cell? _ _ (hHeld.2.2.2.2.2.1))).trans (hHeld.2.2.2.2.2.1)
                        have HS6_ := (hb.cell (World.block_lt_of_cell? _ _ (hHeld.2.2.2.2.2.2.1))).trans (hHeld.2.2.2.2.2.2.1)
                        have HS7_ := (hb.cell (World.block_lt_of_cell? _ _ (hHeld.2.2.2.2.2.2.2.1))).trans (hHeld.2.2.2.2.2.2.2.1)
                        have HS8_ := (hb.cell (World.block_lt_of_cell? _ _ (hHeld.2.2.2.2.2.2.2.2.1))).trans (hHeld.2.2.2.2.2.2.2.2.1)
                        have HS9_ := (hb.cell (World.block_lt_of_cell? _ _ (hHeld.2.2.2.2.2.2.2.2.2))).trans (hHeld.2.2.2.2.2.2.2.2.2)
                        have n0_ := Aside0.mk (Kd.R_below (Kd.R_elderB (by (with_reducible repeat (first | apply Kd.R_alloc | apply Kd.R_drewN | apply Kd.R_drew)); exact HO_221001.out) gb241 (Nat.le_of_eq hg.symm)) hb)
                        have n1_ := Aside0.mk (Kd.R_below (Kd.R_elderB (by (with_reducible repeat (first | apply Kd.R_alloc | apply Kd.R_drewN | apply Kd.R_drew)); exact HO_231001.out) gb241 (Nat.le_of_eq hg.symm)) hb)
                        have n2_ := Aside0.mk (blk_below (g := gb220) (o := .cells #[.int .i64 x221000_1, .slice (some ad239) x221001_1.length co16] 24 (0, 0)) (by (with_reducible repeat (first | refine blk_drewN ?_ _ | refine blk_drew ?_ | refine blk_alloc ?_ _)); exact BK220.out) hb)
                        have n3_ := Aside0.mk (blk_below (g := gb230) (o := .cells #[.int .i64 x231000_14, .slice (some ad240) x231001_14.length co176] 24 (0, 0)) (by (with_reducible repeat (first | refine blk_drewN ?_ _ | refine blk_drew ?_ | refine blk_alloc ?_ _)); exact BK230.out) hb)
                        have n4_ := Aside0.mk (below_step (by repeat (first | (with_reducible first | exact HB.out | apply below_alloc | apply pw_below_drewN | apply below_drew1 | refine below_set ?_ GE220.out | refine below_set ?_ GE230.out) | exact HB.out)) hb)
                        have n5_ := Aside0.mk (hbox)
                        have n6_ := Aside0.mk ((by rw [hg]; exact (below_size (by repeat (first | (with_reducible first | exact HB.out | apply below_alloc | apply pw_below_drewN | apply below_drew1 | refine below_set ?_ GE220.out | refine below_set ?_ GE230.out) | exact HB.out))) : w.heap.size ≤ gb241))
                        have n7_ := Aside0.mk ((by rw [hg]; exact (below_size (by repeat (first | (with_reducible first | exact HB.out | apply below_alloc | apply pw_below_drewN | apply below_drew1 | refine below_set ?_ GE220.out | refine below_set ?_ GE230.out) | exact HB.out))) : w.heap.size ≤ gb241))
                        have n8_ := Aside0.mk ((by rw [hg]; exact Nat.ne_of_lt (blk_lt (g := gb220) (o := .cells #[.int .i64 x221000_1, .slice (some ad239) x221001_1.length co16] 24 (0, 0)) (by (with_reducible repeat (first | refine blk_drewN ?_ _ | refine blk_drew ?_ | refine blk_alloc ?_ _)); exact BK220.out)) : gb220 ≠ gb241))
                        have n9_ := Aside0.mk ((by rw [hg]; exact Nat.ne_of_gt (blk_lt (g := gb220) (o := .cells #[.int .i64 x221000_1, .slice (some ad239) x221001_1.length co16] 24 (0, 0)) (by (with_reducible repeat (first | refine blk_drewN ?_ _ | refine blk_drew ?_ | refine blk_alloc ?_ _)); exact BK220.out)) : gb241 ≠ gb220))
                        have n10_ := Aside0.mk ((by rw [hg]; exact Nat.ne_of_lt (blk_lt (g := gb230) (o := .cells #[.int .i64 x231000_14, .slice (some ad240) x231001_14.length co176] 24 (0, 0)) (by (with_reducible repeat (first | refine blk_drewN ?_ _ | refine blk_drew ?_ | refine blk_alloc ?_ _)); exact BK230.out)) : gb230 ≠ gb241))
                        have n11_ := Aside0.mk ((by rw [hg]; exact Nat.ne_of_gt (blk_lt (g := gb230) (o := .cells #[.int .i64 x231000_14, .slice (some ad240) x231001_14.length co176] 24 (0, 0)) (by (with_reducible repeat (first | refine blk_drewN ?_ _ | refine blk_drew ?_ | refine blk_alloc ?_ _)); exact BK230.out)) : gb241 ≠ gb230))
                        clear HO_221001
                        clear HO_231001
                        clear BK220
                        clear BK230
                        clear HB
                        have HO_221001 := n0_
                        have HO_231001 := n1_
                        have BK220 := n2_
                        have BK230 := n3_
                        have HB := n4_
                        have BK241 := n5_
                        have GW241 := n6_
                        have GE241 := n7_
                        have NB220_241 := n8_
                        have NB241_220 := n9_
                        have NB230_241 := n10_
                        have NB241_230 := n11_
                        clear n0_ n1_ n2_ n3_ n4_ n5_ n6_ n7_ n8_ n9_ n10_ n11_
                        clear hb hbox hg
                        refine hK.out _ _ ⟨(blk_cell BK220.out 0).trans rfl, (blk_cell BK220.out 1).trans rfl, (blk_cell BK230.out 0).trans rfl, (blk_cell BK230.out 1).trans rfl, HS4_, HS5_, HS6_, HS7_, HS8_, HS9_⟩ (fun hHeld => ?_)
                        clear hK K
                        refine norm_ (a' := ?_) ?_ ?_
                        rotate_left
                        ·show Act.put _ (some 11) _ = _
                         simp only [Act.put, List.setIfInBounds_toArray, List.set_cons_zero, List.set_cons_succ, i64_w, i32_w]
                         rfl
                        refine one_ (i := 11) (N := some 12) #[true, true, true, true, true, true, true, true, true, true, true, true, false, false] rfl rfl (one_of HT_.out (by kernel_rfl)) (by decide) (fun K hK => ?_)
                        refine box_step ?hg (N := 12) ?hd (cs := #[.int .i64 0, .int .i64 0, .bool false]) (t := 53) ?hr ?_; (case hd => rfl); (case hg => rfl); (case hr => first | (go_simp; done) | (go_simp; rfl))
                        intro gb242 hg w179 hbox hb
                        have HS4_ := (hb.cell (World.block_lt_of_cell? _ _ (hHeld.2.2.2.2.1))).trans (hHeld.2.2.2.2.1)
                        have HS5_ := (hb.cell (World.block_lt_of_cell? _ _ (hHeld.2.2.2.2.2.1))).trans (hHeld.2.2.2.2.2.1)
                        have HS6_ := (hb.cell (World.block_lt_of_cell? _ _ (hHeld.2.2.2.2.2.2.1))).trans (hHeld.2.2.2.2.2.2.1)
                        have HS7_ := (hb.cell (World.block_lt_of_cell? _ _ (hHeld.2.2.2.2.2.2.2.1))).trans (hHeld.2.2.2.2.2.2.2.1)
                        have HS8_ := (hb.cell (World.block_lt_of_cell? _ _ (hHeld.2.2.2.2.2.2.2.2.1))).trans (hHeld.2.2.2.2.2.2.2.2.1)
                        have HS9_ := (hb.cell (World.block_lt_of_cell? _ _ (hHeld.2.2.2.2.2.2.2.2.2))).trans (hHeld.2.2.2.2.2.2.2.2.2)
                        have n0_ := Aside0.mk (Kd.R_below (Kd.R_elderB (by (with_reducible repeat (first | apply Kd.R_alloc | apply Kd.R_drewN | apply Kd.R_drew)); exact HO_221001.out) gb242 (Nat.le_of_eq hg.symm)) hb)
                        have n1_ := Aside0.mk (Kd.R_below (Kd.R_elderB (by (with_reducible repeat (first | apply Kd.R_alloc | apply Kd.R_drewN | apply Kd.R_drew)); exact HO_231001.out) gb242 (Nat.le_of_eq hg.symm)) hb)
                        have n2_ := Aside0.mk (blk_below (g := gb220) (o := .cells #[.int .i64 x221000_1, .slice (some ad239) x221001_1.length co16] 24 (0, 0)) (by (with_reducible repeat (first | refine blk_drewN ?_ _ | refine blk_drew ?_ | refine blk_alloc ?_ _)); exact BK220.out) hb)
                        have n3_ := Aside0.mk (blk_below (g := gb230) (o := .cells #[.int .i64 x231000_14, .slice (some ad240) x231001_14.length co176] 24 (0, 0)) (by (with_reducible repeat (first | refine blk_drewN ?_ _ | refine blk_drew ?_ | refine blk_alloc ?_ _)); exact BK230.out) hb)
                        have n4_ := Aside0.mk (blk_below (g := gb241) (o := .cells #[.int .i64 0, .int .i64 0, .bool false] 53 (0, 0)) (by (with_reducible repeat (first | refine blk_drewN ?_ _ | refine blk_drew ?_ | refine blk_alloc ?_ _)); exact BK241.out) hb)
                        have n5_ := Aside0.mk (below_step (by repeat (first | (with_reducible first | exact HB.out | apply below_alloc | apply pw_below_drewN | apply below_drew1 | refine below_set ?_ GE220.out | refine below_set ?_ GE230.out | refine below_set ?_ GE241.out) | exact HB.out)) hb)
                        have n6_ := Aside0.mk (hbox)
                        have n7_ := Aside0.mk ((by rw [hg]; exact (below_size (by repeat (first | (with_reducible first | exact HB.out | apply below_alloc | apply pw_below_drewN | apply below_drew1 | refine below_set ?_ GE220.out | refine below_set ?_ GE230.out | refine below_set ?_ GE241.out) | exact HB.out))) : w.heap.size ≤ gb242))
                        have n8_ := Aside0.mk ((by rw [hg]; exact (below_size (by repeat (first | (with_reducible first | exact HB.out | apply below_alloc | apply pw_below_drewN | apply below_drew1 | refine below_set ?_ GE220.out | refine below_set ?_ GE230.out | refine below_set ?_ GE241.out) | exact HB.out))) : w.heap.size ≤ gb242))
                        have n9_ := Aside0.mk ((by rw [hg]; exact Nat.ne_of_lt (blk_lt (g := gb220) (o := .cells #[.int .i64 x221000_1, .slice (some ad239) x221001_1.length co16] 24 (0, 0)) (by (with_reducible repeat (first | refine blk_drewN ?_ _ | refine blk_drew ?_ | refine blk_alloc ?_ _)); exact BK220.out)) : gb220 ≠ gb242))
                        have n10_ := Aside0.mk ((by rw [hg]; exact Nat.ne_of_gt (blk_lt (g := gb220) (o := .cells #[.int .i64 x221000_1, .slice (some ad239) x221001_1.length co16] 24 (0, 0)) (by (with_reducible repeat (first | refine blk_drewN ?_ _ | refine blk_drew ?_ | refine blk_alloc ?_ _)); exact BK220.out)) : gb242 ≠ gb220))
                        have n11_ := Aside0.mk ((by rw [hg]; exact Nat.ne_of_lt (blk_lt (g := gb230) (o := .cells #[.int .i64 x231000_14, .slice (some ad240) x231001_14.length co176] 24 (0, 0)) (by (with_reducible repeat (first | refine blk_drewN ?_ _ | refine blk_drew ?_ | refine blk_alloc ?_ _)); exact BK230.out)) : gb230 ≠ gb242))
                        have n12_ := Aside0.mk ((by rw [hg]; exact Nat.ne_of_gt (blk_lt (g := gb230) (o := .cells #[.int .i64 x231000_14, .slice (some ad240) x231001_14.length co176] 24 (0, 0)) (by (with_reducible repeat (first | refine blk_drewN ?_ _ | refine blk_drew ?_ | refine blk_alloc ?_ _)); exact BK230.out)) : gb242 ≠ gb230))
                        have n13_ := Aside0.mk ((by rw [hg]; exact Nat.ne_of_lt (blk_lt (g := gb241) (o := .cells #[.int .i64 0, .int .i64 0, .bool false] 53 (0, 0)) (by (with_reducible repeat (first | refine blk_drewN ?_ _ | refine blk_drew ?_ | refine blk_alloc ?_ _)); exact BK241.out)) : gb241 ≠ gb242))
                        have n14_ := Aside0.mk ((by rw [hg]; exact Nat.ne_of_gt (blk_lt (g := gb241) (o := .cells #[.int .i64 0, .int .i64 0, .bool false] 53 (0, 0)) (by (with_reducible repeat (first | refine blk_drewN ?_ _ | refine blk_drew ?_ | refine blk_alloc ?_ _)); exact BK241.out)) : gb242 ≠ gb241))
                        clear HO_221001
                        clear HO_231001
                        clear BK220
                        clear BK230
                        clear BK241
                        clear HB
                        have HO_221001 := n0_
                        have HO_231001 := n1_
                        have BK220 := n2_
                        have BK230 := n3_
                        have BK241 := n4_
                        have HB := n5_
                        have BK242 := n6_
                        have GW242 := n7_
                        have GE242 := n8_
                        have NB220_242 := n9_
                        have NB242_220 := n10_
                        have NB230_242 := n11_
                        have NB242_230 := n12_
                        have NB241_242 := n13_
                        have NB242_241 := n14_
                        clear n0_ n1_ n2_ n3_ n4_ n5_ n6_ n7_ n8_ n9_ n10_ n11_ n12_ n13_ n14_
                        clear hb hbox hg
                        refine hK.out _ _ ⟨(blk_cell BK220.out 0).trans rfl, (blk_cell BK220.out 1).trans rfl, (blk_cell BK230.out 0).trans rfl, (blk_cell BK230.out 1).trans rfl, HS4_, HS5_, HS6_, HS7_, HS8_, HS9_⟩ (fun hHeld => ?_)
                        clear hK K
                        refine norm_ (a' := ?_) ?_ ?_
                        rotate_left
                        ·show Act.put _ (some 12) _ = _
                         simp only [Act.put, List.setIfInBounds_toArray, List.set_cons_zero, List.set_cons_succ, i64_w, i32_w]
                         rfl
                        exact norm_ (by simp only [putAll, Act.put, List.setIfInBounds_toArray, List.set_cons_zero, List.set_cons_succ]) (hCont (gb241, gb242) _ ⟨hHeld, (by (with_reducible repeat (first | apply Kd.R_alloc | apply Kd.R_drewN | apply Kd.R_drew)); exact Kd.R_mono HO_221001.out (fun _ hk => ⟨hk.1.1, ⟨hk.1.2, hk.2⟩⟩)), (by (with_reducible repeat (first | apply Kd.R_alloc | apply Kd.R_drewN | apply Kd.R_drew)); exact Kd.R_mono HO_231001.out (fun _ hk => ⟨hk.1.1, ⟨hk.1.2, hk.2⟩⟩)), (by (with_reducible repeat (first | refine blk_drewN ?_ _ | refine blk_drew ?_ | refine blk_alloc ?_ _)); exact BK220.out), (by (with_reducible repeat (first | refine blk_drewN ?_ _ | refine blk_drew ?_ | refine blk_alloc ?_ _)); exact BK230.out), (by (with_reducible repeat (first | refine blk_drewN ?_ _ | refine blk_drew ?_ | refine blk_alloc ?_ _)); exact BK241.out), (by (with_reducible repeat (first | refine blk_drewN ?_ _ | refine blk_drew ?_ | refine blk_alloc ?_ _)); exact BK242.out), GW241.out, GE241.out, NB220_241.out, NB241_220.out, NB230_241.out, NB241_230.out, NB242_241.out, NB241_242.out, GW242.out, GE242.out, NB220_242.out, NB242_220.out, NB230_242.out, NB242_230.out, (by repeat (first | (with_reducible first | exact HB.out | apply below_alloc | apply pw_below_drewN | apply below_drew1 | refine below_set ?_ GE220.out | refine below_set ?_ GE230.out | refine below_set ?_ GE241.out | refine below_set ?_ GE242.out) | exact HB.out))⟩)
                      ·as_aux_lemma =>
                        skip
                        refine box_step ?hg (N := 12) ?hd (cs := #[.int .i64 0, .int .i64 0, .bool false]) (t := 53) ?hr ?_; (case hd => rfl); (case hg => rfl); (case hr => first | (go_simp; done) | (go_simp; rfl))
                        intro gb242 hg w178 hbox hb
                        have HS4_ := (hb.cell (World.block_lt_of_cell? _ _ (hHeld.2.2.2.2.1))).trans (hHeld.2.2.2.2.1)
                        have HS5_ := (hb.cell (World.block_lt_of_cell? _ _ (hHeld.2.2.2.2.2.1))).trans (hHeld.2.2.2.2.2.1)
                        have HS6_ := (hb.cell (World.block_lt_of_cell? _ _ (hHeld.2.2.2.2.2.2.1))).trans (hHeld.2.2.2.2.2.2.1)
                        have HS7_ := (hb.cell (World.block_lt_of_cell? _ _ (hHeld.2.2.2.2.2.2.2.1))).trans (hHeld.2.2.2.2.2.2.2.1)
                        have HS8_ := (hb.cell (World.block_lt_of_cell? _ _ (hHeld.2.2.2.2.2.2.2.2.1))).trans (hHeld.2.2.2.2.2.2.2.2.1)
                        have HS9_ := (hb.cell (World.block_lt_of_cell? _ _ (hHeld.2.2.2.2.2.2.2.2.2))).trans (hHeld.2.2.2.2.2.2.2.2.2)
                        have n0_ := Aside0.mk (Kd.R_below (Kd.R_elderB (by (with_reducible repeat (first | apply Kd.R_alloc | apply Kd.R_drewN | apply Kd.R_drew)); exact HO_221001.out) gb242 (Nat.le_of_eq hg.symm)) hb)
                        have n1_ := Aside0.mk (Kd.R_below (Kd.R_elderB (by (with_reducible repeat (first | apply Kd.R_alloc | apply Kd.R_drewN | apply Kd.R_drew)); exact HO_231001.out) gb242 (Nat.le_of_eq hg.symm)) hb)
                        have n2_ := Aside0.mk (blk_below (g := gb220) (o := .cells #[.int .i64 x221000_1, .slice (some ad239) x221001_1.length co16] 24 (0, 0)) (by (with_reducible repeat (first | refine blk_drewN ?_ _ | refine blk_drew ?_ | refine blk_alloc ?_ _)); exact BK220.out) hb)
                        have n3_ := Aside0.mk (blk_below (g := gb230) (o := .cells #[.int .i64 x231000_14, .slice (some ad240) x231001_14.length co176] 24 (0, 0)) (by (with_reducible repeat (first | refine blk_drewN ?_ _ | refine blk_drew ?_ | refine blk_alloc ?_ _)); exact BK230.out) hb)
                        have n4_ := Aside0.mk (below_step (by repeat (first | (with_reducible first | exact HB.out | apply below_alloc | apply pw_below_drewN | apply below_drew1 | refine below_set ?_ GE220.out | refine below_set ?_ GE230.out) | exact HB.out)) hb)
                        have n5_ := Aside0.mk (hbox)
                        have n6_ := Aside0.mk ((by rw [hg]; exact (below_size (by repeat (first | (with_reducible first | exact HB.out | apply below_alloc | apply pw_below_drewN | apply below_drew1 | refine below_set ?_ GE220.out | refine below_set ?_ GE230.out) | exact HB.out))) : w.heap.size ≤ gb242))
                        have n7_ := Aside0.mk ((by rw [hg]; exact (below_size (by repeat (first | (with_reducible first | exact HB.out | apply below_alloc | apply pw_below_drewN | apply below_drew1 | refine below_set ?_ GE220.out | refine below_set ?_ GE230.out) | exact HB.out))) : w.heap.size ≤ gb242))
                        have n8_ := Aside0.mk ((by rw [hg]; exact Nat.ne_of_lt (blk_lt (g := gb220) (o := .cells #[.int .i64 x221000_1, .slice (some ad239) x221001_1.length co16] 24 (0, 0)) (by (with_reducible repeat (first | refine blk_drewN ?_ _ | refine blk_drew ?_ | refine blk_alloc ?_ _)); exact BK220.out)) : gb220 ≠ gb242))
                        have n9_ := Aside0.mk ((by rw [hg]; exact Nat.ne_of_gt (blk_lt (g := gb220) (o := .cells #[.int .i64 x221000_1, .slice (some ad239) x221001_1.length co16] 24 (0, 0)) (by (with_reducible repeat (first | refine blk_drewN ?_ _ | refine blk_drew ?_ | refine blk_alloc ?_ _)); exact BK220.out)) : gb242 ≠ gb220))
                        have n10_ := Aside0.mk ((by rw [hg]; exact Nat.ne_of_lt (blk_lt (g := gb230) (o := .cells #[.int .i64 x231000_14, .slice (some ad240) x231001_14.length co176] 24 (0, 0)) (by (with_reducible repeat (first | refine blk_drewN ?_ _ | refine blk_drew ?_ | refine blk_alloc ?_ _)); exact BK230.out)) : gb230 ≠ gb242))
                        have n11_ := Aside0.mk ((by rw [hg]; exact Nat.ne_of_gt (blk_lt (g := gb230) (o := .cells #[.int .i64 x231000_14, .slice (some ad240) x231001_14.length co176] 24 (0, 0)) (by (with_reducible repeat (first | refine blk_drewN ?_ _ | refine blk_drew ?_ | refine blk_alloc ?_ _)); exact BK230.out)) : gb242 ≠ gb230))
                        clear HO_221001
                        clear HO_231001
                        clear BK220
                        clear BK230
                        clear HB
                        have HO_221001 := n0_
                        have HO_231001 := n1_
                        have BK220 := n2_
                        have BK230 := n3_
                        have HB := n4_
                        have BK242 := n5_
                        have GW242 := n6_
                        have GE242 := n7_
                        have NB220_242 := n8_
                        have NB242_220 := n9_
                        have NB230_242 := n10_
                        have NB242_230 := n11_
                        clear n0_ n1_ n2_ n3_ n4_ n5_ n6_ n7_ n8_ n9_ n10_ n11_
                        clear hb hbox hg
                        refine hK.out _ _ ⟨(blk_cell BK220.out 0).trans rfl, (blk_cell BK220.out 1).trans rfl, (blk_cell BK230.out 0).trans rfl, (blk_cell BK230.out 1).trans rfl, HS4_, HS5_, HS6_, HS7_, HS8_, HS9_⟩ (fun hHeld => ?_)
                        clear hK K
                        refine norm_ (a' := ?_) ?_ ?_
                        rotate_left
                        ·show Act.put _ (some 12) _ = _
                         simp only [Act.put, List.setIfInBounds_toArray, List.set_cons_zero, List.set_cons_succ, i64_w, i32_w]
                         rfl
                        refine one_ (i := 10) (N := some 11) #[true, true, true, true, true, true, true, true, true, true, true, true, false, false] rfl rfl (one_of HT_.out (by kernel_rfl)) (by decide) (fun K hK => ?_)
                        refine box_step ?hg (N := 11) ?hd (cs := #[.int .i64 0, .int .i64 0, .bool false]) (t := 53) ?hr ?_; (case hd => rfl); (case hg => rfl); (case hr => first | (go_simp; done) | (go_simp; rfl))
                        intro gb241 hg w179 hbox hb
                        have HS4_ := (hb.cell (World.block_lt_of_cell? _ _ (hHeld.2.2.2.2.1))).trans (hHeld.2.2.2.2.1)
                        have HS5_ := (hb.cell (World.block_lt_of_cell? _ _ (hHeld.2.2.2.2.2.1))).trans (hHeld.2.2.2.2.2.1)
                        have HS6_ := (hb.cell (World.block_lt_of_cell? _ _ (hHeld.2.2.2.2.2.2.1))).trans (hHeld.2.2.2.2.2.2.1)
                        have HS7_ := (hb.cell (World.block_lt_of_cell? _ _ (hHeld.2.2.2.2.2.2.2.1))).trans (hHeld.2.2.2.2.2.2.2.1)
                        have HS8_ := (hb.cell (World.block_lt_of_cell? _ _ (hHeld.2.2.2.2.2.2.2.2.1))).trans (hHeld.2.2.2.2.2.2.2.2.1)
                        have HS9_ := (hb.cell (World.block_lt_of_cell? _ _ (hHeld.2.2.2.2.2.2.2.2.2))).trans (hHeld.2.2.2.2.2.2.2.2.2)
                        have n0_ := Aside0.mk (Kd.R_below (Kd.R_elderB (by (with_reducible repeat (first | apply Kd.R_alloc | apply Kd.R_drewN | apply Kd.R_drew)); exact HO_221001.out) gb241 (Nat.le_of_eq hg.symm)) hb)
                        have n1_ := Aside0.mk (Kd.R_below (Kd.R_elderB (by (with_reducible repeat (first | apply Kd.R_alloc | apply Kd.R_drewN | apply Kd.R_drew)); exact HO_231001.out) gb241 (Nat.le_of_eq hg.symm)) hb)
                        have n2_ := Aside0.mk (blk_below (g := gb220) (o := .cells #[.int .i64 x221000_1, .slice (some ad239) x221001_1.length co16] 24 (0, 0)) (by (with_reducible repeat (first | refine blk_drewN ?_ _ | refine blk_drew ?_ | refine blk_alloc ?_ _)); exact BK220.out) hb)
                        have n3_ := Aside0.mk (blk_below (g := gb230) (o := .cells #[.int .i64 x231000_14, .slice (some ad240) x231001_14.length co176] 24 (0, 0)) (by (with_reducible repeat (first | refine blk_drewN ?_ _ | refine blk_drew ?_ | refine blk_alloc ?_ _)); exact BK230.out) hb)
                        have n4_ := Aside0.mk (blk_below (g := gb242) (o := .cells #[.int .i64 0, .int .i64 0, .bool false] 53 (0, 0)) (by (with_reducible repeat (first | refine blk_drewN ?_ _ | refine blk_drew ?_ | refine blk_alloc ?_ _)); exact BK242.out) hb)
                        have n5_ := Aside0.mk (below_step (by repeat (first | (with_reducible first | exact HB.out | apply below_alloc | apply pw_below_drewN | apply below_drew1 | refine below_set ?_ GE220.out | refine below_set ?_ GE230.out | refine below_set ?_ GE242.out) | exact HB.out)) hb)
                        have n6_ := Aside0.mk (hbox)
                        have n7_ := Aside0.mk ((by rw [hg]; exact (below_size (by repeat (first | (with_reducible first | exact HB.out | apply below_alloc | apply pw_below_drewN | apply below_drew1 | refine below_set ?_ GE220.out | refine below_set ?_ GE230.out | refine below_set ?_ GE242.out) | exact HB.out))) : w.heap.size ≤ gb241))
                        have n8_ := Aside0.mk ((by rw [hg]; exact (below_size (by repeat (first | (with_reducible first | exact HB.out | apply below_alloc | apply pw_below_drewN | apply below_drew1 | refine below_set ?_ GE220.out | refine below_set ?_ GE230.out | refine below_set ?_ GE242.out) | exact HB.out))) : w.heap.size ≤ gb241))
                        have n9_ := Aside0.mk ((by rw [hg]; exact Nat.ne_of_lt (blk_lt (g := gb220) (o := .cells #[.int .i64 x221000_1, .slice (some ad239) x221001_1.length co16] 24 (0, 0)) (by (with_reducible repeat (first | refine blk_drewN ?_ _ | refine blk_drew ?_ | refine blk_alloc ?_ _)); exact BK220.out)) : gb220 ≠ gb241))
                        have n10_ := Aside0.mk ((by rw [hg]; exact Nat.ne_of_gt (blk_lt (g := gb220) (o := .cells #[.int .i64 x221000_1, .slice (some ad239) x221001_1.length co16] 24 (0, 0)) (by (with_reducible repeat (first | refine blk_drewN ?_ _ | refine blk_drew ?_ | refine blk_alloc ?_ _)); exact BK220.out)) : gb241 ≠ gb220))
                        have n11_ := Aside0.mk ((by rw [hg]; exact Nat.ne_of_lt (blk_lt (g := gb230) (o := .cells #[.int .i64 x231000_14, .slice (some ad240) x231001_14.length co176] 24 (0, 0)) (by (with_reducible repeat (first | refine blk_drewN ?_ _ | refine blk_drew ?_ | refine blk_alloc ?_ _)); exact BK230.out)) : gb230 ≠ gb241))
                        have n12_ := Aside0.mk ((by rw [hg]; exact Nat.ne_of_gt (blk_lt (g := gb230) (o := .cells #[.int .i64 x231000_14, .slice (some ad240) x231001_14.length co176] 24 (0, 0)) (by (with_reducible repeat (first | refine blk_drewN ?_ _ | refine blk_drew ?_ | refine blk_alloc ?_ _)); exact BK230.out)) : gb241 ≠ gb230))
                        have n13_ := Aside0.mk ((by rw [hg]; exact Nat.ne_of_lt (blk_lt (g := gb242) (o := .cells #[.int .i64 0, .int .i64 0, .bool false] 53 (0, 0)) (by (with_reducible repeat (first | refine blk_drewN ?_ _ | refine blk_drew ?_ | refine blk_alloc ?_ _)); exact BK242.out)) : gb242 ≠ gb241))
                        have n14_ := Aside0.mk ((by rw [hg]; exact Nat.ne_of_gt (blk_lt (g := gb242) (o := .cells #[.int .i64 0, .int .i64 0, .bool false] 53 (0, 0)) (by (with_reducible repeat (first | refine blk_drewN ?_ _ | refine blk_drew ?_ | refine blk_alloc ?_ _)); exact BK242.out)) : gb241 ≠ gb242))
                        clear HO_221001
                        clear HO_231001
                        clear BK220
                        clear BK230
                        clear BK242
                        clear HB
                        have HO_221001 := n0_
                        have HO_231001 := n1_
                        have BK220 := n2_
                        have BK230 := n3_
                        have BK242 := n4_
                        have HB := n5_
                        have BK241 := n6_
                        have GW241 := n7_
                        have GE241 := n8_
                        have NB220_241 := n9_
                        have NB241_220 := n10_
                        have NB230_241 := n11_
                        have NB241_230 := n12_
                        have NB242_241 := n13_
                        have NB241_242 := n14_
                        clear n0_ n1_ n2_ n3_ n4_ n5_ n6_ n7_ n8_ n9_ n10_ n11_ n12_ n13_ n14_
                        clear hb hbox hg
                        refine hK.out _ _ ⟨(blk_cell BK220.out 0).trans rfl, (blk_cell BK220.out 1).trans rfl, (blk_cell BK230.out 0).trans rfl, (blk_cell BK230.out 1).trans rfl, HS4_, HS5_, HS6_, HS7_, HS8_, HS9_⟩ (fun hHeld => ?_)
                        clear hK K
                        refine norm_ (a' := ?_) ?_ ?_
                        rotate_left
                        ·show Act.put _ (some 11) _ = _
                         simp only [Act.put, List.setIfInBounds_toArray, List.set_cons_zero, List.set_cons_succ, i64_w, i32_w]
                         rfl
                        exact norm_ (by simp only [putAll, Act.put, List.setIfInBounds_toArray, List.set_cons_zero, List.set_cons_succ]) (hCont (gb241, gb242) _ ⟨hHeld, (by (with_reducible repeat (first | apply Kd.R_alloc | apply Kd.R_drewN | apply Kd.R_drew)); exact Kd.R_mono HO_221001.out (fun _ hk => ⟨hk.1.1, ⟨hk.2, hk.1.2⟩⟩)), (by (with_reducible repeat (first | apply Kd.R_alloc | apply Kd.R_drewN | apply Kd.R_drew)); exact Kd.R_mono HO_231001.out (fun _ hk => ⟨hk.1.1, ⟨hk.2, hk.1.2⟩⟩)), (by (with_reducible repeat (first | refine blk_drewN ?_ _ | refine blk_drew ?_ | refine blk_alloc ?_ _)); exact BK220.out), (by (with_reducible repeat (first | refine blk_drewN ?_ _ | refine blk_drew ?_ | refine blk_alloc ?_ _)); exact BK230.out), (by (with_reducible repeat (first | refine blk_drewN ?_ _ | refine blk_drew ?_ | refine blk_alloc ?_ _)); exact BK241.out), (by (with_reducible repeat (first | refine blk_drewN ?_ _ | refine blk_drew ?_ | refine blk_alloc ?_ _)); exact BK242.out), GW241.out, GE241.out, NB220_241.out, NB241_220.out, NB230_241.out, NB241_230.out, NB242_241.out, NB241_242.out, GW242.out, GE242.out, NB220_242.out, NB242_220.out, NB230_242.out, NB242_230.out, (by repeat (first | (with_reducible first | exact HB.out | apply below_alloc | apply pw_below_drewN | apply below_drew1 | refine below_set ?_ GE220.out | refine below_set ?_ GE230.out | refine below_set ?_ GE242.out | refine below_set ?_ GE241.out) | exact HB.out))⟩)
                    rintro ⟨gb241, gb242⟩ w180 ⟨hS_, h0_, h1_, h2_, h3_, h4_, h5_, h6_, h7_, h8_, h9_, h10_, h11_, h12_, h13_, h14_, h15_, h16_, h17_, h18_, h19_, h20_⟩
                    have n0_ : Aside0 (Kd.R k53 53 w180 w.heap.size (fun k_ => some k_ ≠ (.slice (some ad240) x231001_14.length co176 : Value).ownBlock ∧ k_ ≠ gb241 ∧ k_ ≠ gb242) (.slice (some ad239) x221001_1.length co16) x221001_1) := ⟨h0_⟩
                    have n1_ : Aside0 (Kd.R k53 53 w180 w.heap.size (fun k_ => some k_ ≠ (.slice (some ad239) x221001_1.length co16 : Value).ownBlock ∧ k_ ≠ gb241 ∧ k_ ≠ gb242) (.slice (some ad240) x231001_14.length co176) x231001_14) := ⟨h1_⟩
                    have n2_ : Aside0 (w180.heap[gb220]? = some (.cells #[.int .i64 x221000_1, .slice (some ad239) x221001_1.length co16] 24 (0, 0))) := ⟨h2_⟩
                    have n3_ : Aside0 (w180.heap[gb230]? = some (.cells #[.int .i64 x231000_14, .slice (some ad240) x231001_14.length co176] 24 (0, 0))) := ⟨h3_⟩
                    have n4_ : Aside0 (w180.heap[gb241]? = some (.cells #[.int .i64 0, .int .i64 0, .bool false] 53 (0, 0))) := ⟨h4_⟩
                    have n5_ : Aside0 (w180.heap[gb242]? = some (.cells #[.int .i64 0, .int .i64 0, .bool false] 53 (0, 0))) := ⟨h5_⟩
                    have n6_ : Aside0 (w.heap.size ≤ gb241) := ⟨h6_⟩
                    have n7_ : Aside0 (w.heap.size ≤ gb241) := ⟨h7_⟩
                    have n8_ : Aside0 (gb220 ≠ gb241) := ⟨h8_⟩
                    have n9_ : Aside0 (gb241 ≠ gb220) := ⟨h9_⟩
                    have n10_ : Aside0 (gb230 ≠ gb241) := ⟨h10_⟩
                    have n11_ : Aside0 (gb241 ≠ gb230) := ⟨h11_⟩
                    have n12_ : Aside0 (gb242 ≠ gb241) := ⟨h12_⟩
                    have n13_ : Aside0 (gb241 ≠ gb242) := ⟨h13_⟩
                    have n14_ : Aside0 (w.heap.size ≤ gb242) := ⟨h14_⟩
                    have n15_ : Aside0 (w.heap.size ≤ gb242) := ⟨h15_⟩
                    have n16_ : Aside0 (gb220 ≠ gb242) := ⟨h16_⟩
                    have n17_ : Aside0 (gb242 ≠ gb220) := ⟨h17_⟩
                    have n18_ : Aside0 (gb230 ≠ gb242) := ⟨h18_⟩
                    have n19_ : Aside0 (gb242 ≠ gb230) := ⟨h19_⟩
                    have n20_ : Aside0 (Below w.heap.size w w180) := ⟨h20_⟩
                    clear HO_221001
                    clear HO_231001
                    clear BK220
                    clear BK230
                    clear HB
                    clear h0_ h1_ h2_ h3_ h4_ h5_ h6_ h7_ h8_ h9_ h10_ h11_ h12_ h13_ h14_ h15_ h16_ h17_ h18_ h19_ h20_
                    have HO_221001 := n0_
                    have HO_231001 := n1_
                    have BK220 := n2_
                    have BK230 := n3_
                    have BK241 := n4_
                    have BK242 := n5_
                    have GW241 := n6_
                    have GE241 := n7_
                    have NB220_241 := n8_
                    have NB241_220 := n9_
                    have NB230_241 := n10_
                    have NB241_230 := n11_
                    have NB242_241 := n12_
                    have NB241_242 := n13_
                    have GW242 := n14_
                    have GE242 := n15_
                    have NB220_242 := n16_
                    have NB242_220 := n17_
                    have NB230_242 := n18_
                    have NB242_230 := n19_
                    have HB := n20_
                    clear n0_ n1_ n2_ n3_ n4_ n5_ n6_ n7_ n8_ n9_ n10_ n11_ n12_ n13_ n14_ n15_ n16_ n17_ n18_ n19_ n20_
                    have hHeld : w180.cell? ⟨gb220, 0, none⟩ = some (.int .i64 x221000_1) ∧ w180.cell? ⟨gb220, 1, none⟩ = some (.slice (some ad239) x221001_1.length co16) ∧ w180.cell? ⟨gb230, 0, none⟩ = some (.int .i64 x231000_14) ∧ w180.cell? ⟨gb230, 1, none⟩ = some (.slice (some ad240) x231001_14.length co176) ∧ w180.cell? (ad239.add ((x10_5).toNat * 3)) = some (.int .i64 ((rd_T53 x221001_1 x10_5).f0)) ∧ w180.cell? ⟨(ad239.add ((x10_5).toNat * 3)).block, (ad239.add ((x10_5).toNat * 3)).off + 1, none⟩ = some (.int .i64 ((rd_T53 x221001_1 x10_5).f1)) ∧ w180.cell? ⟨(ad239.add ((x10_5).toNat * 3)).block, (ad239.add ((x10_5).toNat * 3)).off + 2, none⟩ = some (.bool ((rd_T53 x221001_1 x10_5).f2)) ∧ w180.cell? (ad240.add ((x10_5).toNat * 3)) = some (.int .i64 ((rd_T53 x231001_14 x10_5).f0)) ∧ w180.cell? ⟨(ad240.add ((x10_5).toNat * 3)).block, (ad240.add ((x10_5).toNat * 3)).off + 1, none⟩ = some (.int .i64 ((rd_T53 x231001_14 x10_5).f1)) ∧ w180.cell? ⟨(ad240.add ((x10_5).toNat * 3)).block, (ad240.add ((x10_5).toNat * 3)).off + 2, none⟩ = some (.bool ((rd_T53 x231001_14 x10_5).f2)) := hS_
                    refine norm_ (a' := ?_) ?_ ?_
                    rotate_left
                    ·simp only [putAll, Act.put, List.setIfInBounds_toArray, List.set_cons_zero, List.set_cons_succ]
                     rfl
                    refine one_ (i := 12) (N := none) #[true, true, true, true, true, true, true, true, true, true, true, true, true, false] rfl rfl (one_of HT_.out (by kernel_rfl)) (by decide) (fun K hK => ?_)
                    have hs181 : w180.cell? ⟨gb241, 0, none⟩ = some (.int .i64 0) := (blk_cell BK241.out 0).trans rfl
                    have hfs181 := blk_frozen BK241.out 0
                    have hns181_0 := NB220_241.out
                    have hns181_1 := NB230_241.out
                    have hns181_3 := NB242_241.out
                    have hms181_0 := NB241_220.out
                    have hms181_1 := NB241_230.out
                    have hms181_3 := NB241_242.out
                    have hs182 : w180.cell? ⟨gb241, 1, none⟩ = some (.int .i64 0) := (blk_cell BK241.out 1).trans rfl
                    have hfs182 := blk_frozen BK241.out 1
                    have hns182_0 := NB220_241.out
                    have hns182_1 := NB230_241.out
                    have hns182_3 := NB242_241.out
                    have hms182_0 := NB241_220.out
                    have hms182_1 := NB241_230.out
                    have hms182_3 := NB241_242.out
                    have hs183 : w180.cell? ⟨gb241, 2, none⟩ = some (.bool false) := (blk_cell BK241.out 2).trans rfl
                    have hfs183 := blk_frozen BK241.out 2
                    have hns183_0 := NB220_241.out
                    have hns183_1 := NB230_241.out
                    have hns183_3 := NB242_241.out
                    have hms183_0 := NB241_220.out
                    have hms183_1 := NB241_230.out
                    have hms183_3 := NB241_242.out
                    refine skip_ (w1 := ?_) (by rfl) rfl ?_ ?_
                    rotate_left
                    ·go_simp
                     rfl
                    refine hK.out _ _ ⟨((cell_far (p := ⟨gb241, _, none⟩) NB220_241.out _).trans (((cell_far (p := ⟨gb241, _, none⟩) NB220_241.out _).trans (((cell_far (p := ⟨gb241, _, none⟩) NB220_241.out _).trans (hHeld.1)))))), ((cell_far (p := ⟨gb241, _, none⟩) NB220_241.out _).trans (((cell_far (p := ⟨gb241, _, none⟩) NB220_241.out _).trans (((cell_far (p := ⟨gb241, _, none⟩) NB220_241.out _).trans (hHeld.2.1)))))), ((cell_far (p := ⟨gb241, _, none⟩) NB230_241.out _).trans (((cell_far (p := ⟨gb241, _, none⟩) NB230_241.out _).trans (((cell_far (p := ⟨gb241, _, none⟩) NB230_241.out _).trans (hHeld.2.2.1)))))), ((cell_far (p := ⟨gb241, _, none⟩) NB230_241.out _).trans (((cell_far (p := ⟨gb241, _, none⟩) NB230_241.out _).trans (((cell_far (p := ⟨gb241, _, none⟩) NB230_241.out _).trans (hHeld.2.2.2.1)))))), ((cell_far (p := ⟨gb241, _, none⟩) (by first | exact Kd.own_blk (Kd.R_away HO_221001.out (fun _ hk => hk.2.1)) | (rw [add_block]; exact Kd.own_blk (Kd.R_away HO_221001.out (fun _ hk => hk.2.1))) | (show (Addr.add _ _).block ≠ _; rw [add_block]; exact Kd.own_blk (Kd.R_away HO_221001.out (fun _ hk => hk.2.1))) | (dsimp only; exact Kd.own_blk (Kd.R_away HO_221001.out (fun _ hk => hk.2.1)))) _).trans (((cell_far (p := ⟨gb241, _, none⟩) (by first | exact Kd.own_blk (Kd.R_away HO_221001.out (fun _ hk => hk.2.1)) | (rw [add_block]; exact Kd.own_blk (Kd.R_away HO_221001.out (fun _ hk => hk.2.1))) | (show (Addr.add _ _).block ≠ _; rw [add_block]; exact Kd.own_blk (Kd.R_away HO_221001.out (fun _ hk => hk.2.1))) | (dsimp only; exact Kd.own_blk (Kd.R_away HO_221001.out (fun _ hk => hk.2.1)))) _).trans (((cell_far (p := ⟨gb241, _, none⟩) (by first | exact Kd.own_blk (Kd.R_away HO_221001.out (fun _ hk => hk.2.1)) | (rw [add_block]; exact Kd.own_blk (Kd.R_away HO_221001.out (fun _ hk => hk.2.1))) | (show (Addr.add _ _).block ≠ _; rw [add_block]; exact Kd.own_blk (Kd.R_away HO_221001.out (fun _ hk => hk.2.1))) | (dsimp only; exact Kd.own_blk (Kd.R_away HO_221001.out (fun _ hk => hk.2.1)))) _).trans (hHeld.2.2.2.2.1)))))), ((cell_far (p := ⟨gb241, _, none⟩) (by first | exact Kd.own_blk (Kd.R_away HO_221001.out (fun _ hk => hk.2.1)) | (rw [add_block]; exact Kd.own_blk (Kd.R_away HO_221001.out (fun _ hk => hk.2.1))) | (show (Addr.add _ _).block ≠ _; rw [add_block]; exact Kd.own_blk (Kd.R_away HO_221001.out (fun _ hk => hk.2.1))) | (dsimp only; exact Kd.own_blk (Kd.R_away HO_221001.out (fun _ hk => hk.2.1)))) _).trans (((cell_far (p := ⟨gb241, _, none⟩) (by first | exact Kd.own_blk (Kd.R_away HO_221001.out (fun _ hk => hk.2.1)) | (rw [add_block]; exact Kd.own_blk (Kd.R_away HO_221001.out (fun _ hk => hk.2.1))) | (show (Addr.add _ _).block ≠ _; rw [add_block]; exact Kd.own_blk (Kd.R_away HO_221001.out (fun _ hk => hk.2.1))) | (dsimp only; exact Kd.own_blk (Kd.R_away HO_221001.out (fun _ hk => hk.2.1)))) _).trans (((cell_far (p := ⟨gb241, _, none⟩) (by first | exact Kd.own_blk (Kd.R_away HO_221001.out (fun _ hk => hk.2.1)) | (rw [add_block]; exact Kd.own_blk (Kd.R_away HO_221001.out (fun _ hk => hk.2.1))) | (show (Addr.add _ _).block ≠ _; rw [add_block]; exact Kd.own_blk (Kd.R_away HO_221001.out (fun _ hk => hk.2.1))) | (dsimp only; exact Kd.own_blk (Kd.R_away HO_221001.out (fun _ hk => hk.2.1)))) _).trans (hHeld.2.2.2.2.2.1)))))), ((cell_far (p := ⟨gb241, _, none⟩) (by first | exact Kd.own_blk (Kd.R_away HO_221001.out (fun _ hk => hk.2.1)) | (rw [add_block]; exact Kd.own_blk (Kd.R_away HO_221001.out (fun _ hk => hk.2.1))) | (show (Addr.add _ _).block ≠ _; rw [add_block]; exact Kd.own_blk (Kd.R_away HO_221001.out (fun _ hk => hk.2.1))) | (dsimp only; exact Kd.own_blk (Kd.R_away HO_221001.out (fun _ hk => hk.2.1)))) _).trans (((cell_far (p := ⟨gb241, _, none⟩) (by first | exact Kd.own_blk (Kd.R_away HO_221001.out (fun _ hk => hk.2.1)) | (rw [add_block]; exact Kd.own_blk (Kd.R_away HO_221001.out (fun _ hk => hk.2.1))) | (show (Addr.add _ _).block ≠ _; rw [add_block]; exact Kd.own_blk (Kd.R_away HO_221001.out (fun _ hk => hk.2.1))) | (dsimp only; exact Kd.own_blk (Kd.R_away HO_221001.out (fun _ hk => hk.2.1)))) _).trans (((cell_far (p := ⟨gb241, _, none⟩) (by first | exact Kd.own_blk (Kd.R_away HO_221001.out (fun _ hk => hk.2.1)) | (rw [add_block]; exact Kd.own_blk (Kd.R_away HO_221001.out (fun _ hk => hk.2.1))) | (show (Addr.add _ _).block ≠ _; rw [add_block]; exact Kd.own_blk (Kd.R_away HO_221001.out (fun _ hk => hk.2.1))) | (dsimp only; exact Kd.own_blk (Kd.R_away HO_221001.out (fun _ hk => hk.2.1)))) _).trans (hHeld.2.2.2.2.2.2.1)))))), ((cell_far (p := ⟨gb241, _, none⟩) (by first | exact Kd.own_blk (Kd.R_away HO_231001.out (fun _ hk => hk.2.1)) | (rw [add_block]; exact Kd.own_blk (Kd.R_away HO_231001.out (fun _ hk => hk.2.1))) | (show (Addr.add _ _).block ≠ _; rw [add_block]; exact Kd.own_blk (Kd.R_away HO_231001.out (fun _ hk => hk.2.1))) | (dsimp only; exact Kd.own_blk (Kd.R_away HO_231001.out (fun _ hk => hk.2.1)))) _).trans (((cell_far (p := ⟨gb241, _, none⟩) (by first | exact Kd.own_blk (Kd.R_away HO_231001.out (fun _ hk => hk.2.1)) | (rw [add_block]; exact Kd.own_blk (Kd.R_away HO_231001.out (fun _ hk => hk.2.1))) | (show (Addr.add _ _).block ≠ _; rw [add_block]; exact Kd.own_blk (Kd.R_away HO_231001.out (fun _ hk => hk.2.1))) | (dsimp only; exact Kd.own_blk (Kd.R_away HO_231001.out (fun _ hk => hk.2.1)))) _).trans (((cell_far (p := ⟨gb241, _, none⟩) (by first | exact Kd.own_blk (Kd.R_away HO_231001.out (fun _ hk => hk.2.1)) | (rw [add_block]; exact Kd.own_blk (Kd.R_away HO_231001.out (fun _ hk => hk.2.1))) | (show (Addr.add _ _).block ≠ _; rw [add_block]; exact Kd.own_blk (Kd.R_away HO_231001.out (fun _ hk => hk.2.1))) | (dsimp only; exact Kd.own_blk (Kd.R_away HO_231001.out (fun _ hk => hk.2.1)))) _).trans (hHeld.2.2.2.2.2.2.2.1)))))), ((cell_far (p := ⟨gb241, _, none⟩) (by first | exact Kd.own_blk (Kd.R_away HO_231001.out (fun _ hk => hk.2.1)) | (rw [add_block]; exact Kd.own_blk (Kd.R_away HO_231001.out (fun _ hk => hk.2.1))) | (show (Addr.add _ _).block ≠ _; rw [add_block]; exact Kd.own_blk (Kd.R_away HO_231001.out (fun _ hk => hk.2.1))) | (dsimp only; exact Kd.own_blk (Kd.R_away HO_231001.out (fun _ hk => hk.2.1)))) _).trans (((cell_far (p := ⟨gb241, _, none⟩) (by first | exact Kd.own_blk (Kd.R_away HO_231001.out (fun _ hk => hk.2.1)) | (rw [add_block]; exact Kd.own_blk (Kd.R_away HO_231001.out (fun _ hk => hk.2.1))) | (show (Addr.add _ _).block ≠ _; rw [add_block]; exact Kd.own_blk (Kd.R_away HO_231001.out (fun _ hk => hk.2.1))) | (dsimp only; exact Kd.own_blk (Kd.R_away HO_231001.out (fun _ hk => hk.2.1)))) _).trans (((cell_far (p := ⟨gb241, _, none⟩) (by first | exact Kd.own_blk (Kd.R_away HO_231001.out (fun _ hk => hk.2.1)) | (rw [add_block]; exact Kd.own_blk (Kd.R_away HO_231001.out (fun _ hk => hk.2.1))) | (show (Addr.add _ _).block ≠ _; rw [add_block]; exact Kd.own_blk (Kd.R_away HO_231001.out (fun _ hk => hk.2.1))) | (dsimp only; exact Kd.own_blk (Kd.R_away HO_231001.out (fun _ hk => hk.2.1)))) _).trans (hHeld.2.2.2.2.2.2.2.2.1)))))), ((cell_far (p := ⟨gb241, _, none⟩) (by first | exact Kd.own_blk (Kd.R_away HO_231001.out (fun _ hk => hk.2.1)) | (rw [add_block]; exact Kd.own_blk (Kd.R_away HO_231001.out (fun _ hk => hk.2.1))) | (show (Addr.add _ _).block ≠ _; rw [add_block]; exact Kd.own_blk (Kd.R_away HO_231001.out (fun _ hk => hk.2.1))) | (dsimp only; exact Kd.own_blk (Kd.R_away HO_231001.out (fun _ hk => hk.2.1)))) _).trans (((cell_far (p := ⟨gb241, _, none⟩) (by first | exact Kd.own_blk (Kd.R_away HO_231001.out (fun _ hk => hk.2.1)) | (rw [add_block]; exact Kd.own_blk (Kd.R_away HO_231001.out (fun _ hk => hk.2.1))) | (show (Addr.add _ _).block ≠ _; rw [add_block]; exact Kd.own_blk (Kd.R_away HO_231001.out (fun _ hk => hk.2.1))) | (dsimp only; exact Kd.own_blk (Kd.R_away HO_231001.out (fun _ hk => hk.2.1)))) _).trans (((cell_far (p := ⟨gb241, _, none⟩) (by first | exact Kd.own_blk (Kd.R_away HO_231001.out (fun _ hk => hk.2.1)) | (rw [add_block]; exact Kd.own_blk (Kd.R_away HO_231001.out (fun _ hk => hk.2.1))) | (show (Addr.add _ _).block ≠ _; rw [add_block]; exact Kd.own_blk (Kd.R_away HO_231001.out (fun _ hk => hk.2.1))) | (dsimp only; exact Kd.own_blk (Kd.R_away HO_231001.out (fun _ hk => hk.2.1)))) _).trans (hHeld.2.2.2.2.2.2.2.2.2))))))⟩ (fun hHeld => ?_)
                    clear hK K
                    refine one_ (i := 13) (N := none) #[true, true, true, true, true, true, true, true, true, true, true, true, true, true] rfl rfl (one_of HT_.out (by kernel_rfl)) (by decide) (fun K hK => ?_)
                    have hs184 : w180.cell? ⟨gb242, 0, none⟩ = some (.int .i64 0) := (blk_cell BK242.out 0).trans rfl
                    have hfs184 := blk_frozen BK242.out 0
                    have hns184_0 := NB220_242.out
                    have hns184_1 := NB230_242.out
                    have hns184_2 := NB241_242.out
                    have hms184_0 := NB242_220.out
                    have hms184_1 := NB242_230.out
                    have hms184_2 := NB242_241.out
                    have hs185 : w180.cell? ⟨gb242, 1, none⟩ = some (.int .i64 0) := (blk_cell BK242.out 1).trans rfl
                    have hfs185 := blk_frozen BK242.out 1
                    have hns185_0 := NB220_242.out
                    have hns185_1 := NB230_242.out
                    have hns185_2 := NB241_242.out
                    have hms185_0 := NB242_220.out
                    have hms185_1 := NB242_230.out
                    have hms185_2 := NB242_241.out
                    have hs186 : w180.cell? ⟨gb242, 2, none⟩ = some (.bool false) := (blk_cell BK242.out 2).trans rfl
                    have hfs186 := blk_frozen BK242.out 2
                    have hns186_0 := NB220_242.out
                    have hns186_1 := NB230_242.out
                    have hns186_2 := NB241_242.out
                    have hms186_0 := NB242_220.out
                    have hms186_1 := NB242_230.out
                    have hms186_2 := NB242_241.out
                    refine skip_ (w1 := ?_) (by rfl) rfl ?_ ?_
                    rotate_left
                    ·go_simp
                     rfl
                    refine hK.out _ _ ⟨((cell_far (p := ⟨gb242, _, none⟩) NB220_242.out _).trans (((cell_far (p := ⟨gb242, _, none⟩) NB220_242.out _).trans (((cell_far (p := ⟨gb242, _, none⟩) NB220_242.out _).trans (hHeld.1)))))), ((cell_far (p := ⟨gb242, _, none⟩) NB220_242.out _).trans (((cell_far (p := ⟨gb242, _, none⟩) NB220_242.out _).trans (((cell_far (p := ⟨gb242, _, none⟩) NB220_242.out _).trans (hHeld.2.1)))))), ((cell_far (p := ⟨gb242, _, none⟩) NB230_242.out _).trans (((cell_far (p := ⟨gb242, _, none⟩) NB230_242.out _).trans (((cell_far (p := ⟨gb242, _, none⟩) NB230_242.out _).trans (hHeld.2.2.1)))))), ((cell_far (p := ⟨gb242, _, none⟩) NB230_242.out _).trans (((cell_far (p := ⟨gb242, _, none⟩) NB230_242.out _).trans (((cell_far (p := ⟨gb242, _, none⟩) NB230_242.out _).trans (hHeld.2.2.2.1)))))), ((cell_far (p := ⟨gb242, _, none⟩) (by first | exact Kd.own_blk (Kd.R_away HO_221001.out (fun _ hk => hk.2.2)) | (rw [add_block]; exact Kd.own_blk (Kd.R_away HO_221001.out (fun _ hk => hk.2.2))) | (show (Addr.add _ _).block ≠ _; rw [add_block]; exact Kd.own_blk (Kd.R_away HO_221001.out (fun _ hk => hk.2.2))) | (dsimp only; exact Kd.own_blk (Kd.R_away HO_221001.out (fun _ hk => hk.2.2)))) _).trans (((cell_far (p := ⟨gb242, _, none⟩) (by first | exact Kd.own_blk (Kd.R_away HO_221001.out (fun _ hk => hk.2.2)) | (rw [add_block]; exact Kd.own_blk (Kd.R_away HO_221001.out (fun _ hk => hk.2.2))) | (show (Addr.add _ _).block ≠ _; rw [add_block]; exact Kd.own_blk (Kd.R_away HO_221001.out (fun _ hk => hk.2.2))) | (dsimp only; exact Kd.own_blk (Kd.R_away HO_221001.out (fun _ hk => hk.2.2)))) _).trans (((cell_far (p := ⟨gb242, _, none⟩) (by first | exact Kd.own_blk (Kd.R_away HO_221001.out (fun _ hk => hk.2.2)) | (rw [add_block]; exact Kd.own_blk (Kd.R_away HO_221001.out (fun _ hk => hk.2.2))) | (show (Addr.add _ _).block ≠ _; rw [add_block]; exact Kd.own_blk (Kd.R_away HO_221001.out (fun _ hk => hk.2.2))) | (dsimp only; exact Kd.own_blk (Kd.R_away HO_221001.out (fun _ hk => hk.2.2)))) _).trans (hHeld.2.2.2.2.1)))))), ((cell_far (p := ⟨gb242, _, none⟩) (by first | exact Kd.own_blk (Kd.R_away HO_221001.out (fun _ hk => hk.2.2)) | (rw [add_block]; exact Kd.own_blk (Kd.R_away HO_221001.out (fun _ hk => hk.2.2))) | (show (Addr.add _ _).block ≠ _; rw [add_block]; exact Kd.own_blk (Kd.R_away HO_221001.out (fun _ hk => hk.2.2))) | (dsimp only; exact Kd.own_blk (Kd.R_away HO_221001.out (fun _ hk => hk.2.2)))) _).trans (((cell_far (p := ⟨gb242, _, none⟩) (by first | exact Kd.own_blk (Kd.R_away HO_221001.out (fun _ hk => hk.2.2)) | (rw [add_block]; exact Kd.own_blk (Kd.R_away HO_221001.out (fun _ hk => hk.2.2))) | (show (Addr.add _ _).block ≠ _; rw [add_block]; exact Kd.own_blk (Kd.R_away HO_221001.out (fun _ hk => hk.2.2))) | (dsimp only; exact Kd.own_blk (Kd.R_away HO_221001.out (fun _ hk => hk.2.2)))) _).trans (((cell_far (p := ⟨gb242, _, none⟩) (by first | exact Kd.own_blk (Kd.R_away HO_221001.out (fun _ hk => hk.2.2)) | (rw [add_block]; exact Kd.own_blk (Kd.R_away HO_221001.out (fun _ hk => hk.2.2))) | (show (Addr.add _ _).block ≠ _; rw [add_block]; exact Kd.own_blk (Kd.R_away HO_221001.out (fun _ hk => hk.2.2))) | (dsimp only; exact Kd.own_blk (Kd.R_away HO_221001.out (fun _ hk => hk.2.2)))) _).trans (hHeld.2.2.2.2.2.1)))))), ((cell_far (p := ⟨gb242, _, none⟩) (by first | exact Kd.own_blk (Kd.R_away HO_221001.out (fun _ hk => hk.2.2)) | (rw [add_block]; exact Kd.own_blk (Kd.R_away HO_221001.out (fun _ hk => hk.2.2))) | (show (Addr.add _ _).block ≠ _; rw [add_block]; exact Kd.own_blk (Kd.R_away HO_221001.out (fun _ hk => hk.2.2))) | (dsimp only; exact Kd.own_blk (Kd.R_away HO_221001.out (fun _ hk => hk.2.2)))) _).trans (((cell_far (p := ⟨gb242, _, none⟩) (by first | exact Kd.own_blk (Kd.R_away HO_221001.out (fun _ hk => hk.2.2)) | (rw [add_block]; exact Kd.own_blk (Kd.R_away HO_221001.out (fun _ hk => hk.2.2))) | (show (Addr.add _ _).block ≠ _; rw [add_block]; exact Kd.own_blk (Kd.R_away HO_221001.out (fun _ hk => hk.2.2))) | (dsimp only; exact Kd.own_blk (Kd.R_away HO_221001.out (fun _ hk => hk.2.2)))) _).trans (((cell_far (p := ⟨gb242, _, none⟩) (by first | exact Kd.own_blk (Kd.R_away HO_221001.out (fun _ hk => hk.2.2)) | (rw [add_block]; exact Kd.own_blk (Kd.R_away HO_221001.out (fun _ hk => hk.2.2))) | (show (Addr.add _ _).block ≠ _; rw [add_block]; exact Kd.own_blk (Kd.R_away HO_221001.out (fun _ hk => hk.2.2))) | (dsimp only; exact Kd.own_blk (Kd.R_away HO_221001.out (fun _ hk => hk.2.2)))) _).trans (hHeld.2.2.2.2.2.2.1)))))), ((cell_far (p := ⟨gb242, _, none⟩) (by first | exact Kd.own_blk (Kd.R_away HO_231001.out (fun _ hk => hk.2.2)) | (rw [add_block]; exact Kd.own_blk (Kd.R_away HO_231001.out (fun _ hk => hk.2.2))) | (show (Addr.add _ _).block ≠ _; rw [add_block]; exact Kd.own_blk (Kd.R_away HO_231001.out (fun _ hk => hk.2.2))) | (dsimp only; exact Kd.own_blk (Kd.R_away HO_231001.out (fun _ hk => hk.2.2)))) _).trans (((cell_far (p := ⟨gb242, _, none⟩) (by first | exact Kd.own_blk (Kd.R_away HO_231001.out (fun _ hk => hk.2.2)) | (rw [add_block]; exact Kd.own_blk (Kd.R_away HO_231001.out (fun _ hk => hk.2.2))) | (show (Addr.add _ _).block ≠ _; rw [add_block]; exact Kd.own_blk (Kd.R_away HO_231001.out (fun _ hk => hk.2.2))) | (dsimp only; exact Kd.own_blk (Kd.R_away HO_231001.out (fun _ hk => hk.2.2)))) _).trans (((cell_far (p := ⟨gb242, _, none⟩) (by first | exact Kd.own_blk (Kd.R_away HO_231001.out (fun _ hk => hk.2.2)) | (rw [add_block]; exact Kd.own_blk (Kd.R_away HO_231001.out (fun _ hk => hk.2.2))) | (show (Addr.add _ _).block ≠ _; rw [add_block]; exact Kd.own_blk (Kd.R_away HO_231001.out (fun _ hk => hk.2.2))) | (dsimp only; exact Kd.own_blk (Kd.R_away HO_231001.out (fun _ hk => hk.2.2)))) _).trans (hHeld.2.2.2.2.2.2.2.1)))))), ((cell_far (p := ⟨gb242, _, none⟩) (by first | exact Kd.own_blk (Kd.R_away HO_231001.out (fun _ hk => hk.2.2)) | (rw [add_block]; exact Kd.own_blk (Kd.R_away HO_231001.out (fun _ hk => hk.2.2))) | (show (Addr.add _ _).block ≠ _; rw [add_block]; exact Kd.own_blk (Kd.R_away HO_231001.out (fun _ hk => hk.2.2))) | (dsimp only; exact Kd.own_blk (Kd.R_away HO_231001.out (fun _ hk => hk.2.2)))) _).trans (((cell_far (p := ⟨gb242, _, none⟩) (by first | exact Kd.own_blk (Kd.R_away HO_231001.out (fun _ hk => hk.2.2)) | (rw [add_block]; exact Kd.own_blk (Kd.R_away HO_231001.out (fun _ hk => hk.2.2))) | (show (Addr.add _ _).block ≠ _; rw [add_block]; exact Kd.own_blk (Kd.R_away HO_231001.out (fun _ hk => hk.2.2))) | (dsimp only; exact Kd.own_blk (Kd.R_away HO_231001.out (fun _ hk => hk.2.2)))) _).trans (((cell_far (p := ⟨gb242, _, none⟩) (by first | exact Kd.own_blk (Kd.R_away HO_231001.out (fun _ hk => hk.2.2)) | (rw [add_block]; exact Kd.own_blk (Kd.R_away HO_231001.out (fun _ hk => hk.2.2))) | (show (Addr.add _ _).block ≠ _; rw [add_block]; exact Kd.own_blk (Kd.R_away HO_231001.out (fun _ hk => hk.2.2))) | (dsimp only; exact Kd.own_blk (Kd.R_away HO_231001.out (fun _ hk => hk.2.2)))) _).trans (hHeld.2.2.2.2.2.2.2.2.1)))))), ((cell_far (p := ⟨gb242, _, none⟩) (by first | exact Kd.own_blk (Kd.R_away HO_231001.out (fun _ hk => hk.2.2)) | (rw [add_block]; exact Kd.own_blk (Kd.R_away HO_231001.out (fun _ hk => hk.2.2))) | (show (Addr.add _ _).block ≠ _; rw [add_block]; exact Kd.own_blk (Kd.R_away HO_231001.out (fun _ hk => hk.2.2))) | (dsimp only; exact Kd.own_blk (Kd.R_away HO_231001.out (fun _ hk => hk.2.2)))) _).trans (((cell_far (p := ⟨gb242, _, none⟩) (by first | exact Kd.own_blk (Kd.R_away HO_231001.out (fun _ hk => hk.2.2)) | (rw [add_block]; exact Kd.own_blk (Kd.R_away HO_231001.out (fun _ hk => hk.2.2))) | (show (Addr.add _ _).block ≠ _; rw [add_block]; exact Kd.own_blk (Kd.R_away HO_231001.out (fun _ hk => hk.2.2))) | (dsimp only; exact Kd.own_blk (Kd.R_away HO_231001.out (fun _ hk => hk.2.2)))) _).trans (((cell_far (p := ⟨gb242, _, none⟩) (by first | exact Kd.own_blk (Kd.R_away HO_231001.out (fun _ hk => hk.2.2)) | (rw [add_block]; exact Kd.own_blk (Kd.R_away HO_231001.out (fun _ hk => hk.2.2))) | (show (Addr.add _ _).block ≠ _; rw [add_block]; exact Kd.own_blk (Kd.R_away HO_231001.out (fun _ hk => hk.2.2))) | (dsimp only; exact Kd.own_blk (Kd.R_away HO_231001.out (fun _ hk => hk.2.2)))) _).trans (hHeld.2.2.2.2.2.2.2.2.2))))))⟩ (fun hHeld => ?_)
                    clear hK K
                    refine done_ (done_of HT_.out (by kernel_rfl)) ?_
                    try go_wp2
                    have n0_ : Aside0 (Kd.R k53 53 ((((((w180.setCell ⟨gb241, 0, none⟩ (.int .i64 ((rd_T53 x221001_1 x10_5).f0))).setCell ⟨gb241, 1, none⟩ (.int .i64 ((rd_T53 x221001_1 x10_5).f1))).setCell ⟨gb241, 2, none⟩ (.bool ((rd_T53 x221001_1 x10_5).f2))).setCell ⟨gb242, 0, none⟩ (.int .i64 ((rd_T53 x231001_14 x10_5).f0))).setCell ⟨gb242, 1, none⟩ (.int .i64 ((rd_T53 x231001_14 x10_5).f1))).setCell ⟨gb242, 2, none⟩ (.bool ((rd_T53 x231001_14 x10_5).f2))) w.heap.size (fun k_ => some k_ ≠ (.slice (some ad240) x231001_14.length co176 : Value).ownBlock ∧ k_ ≠ gb241 ∧ k_ ≠ gb242) (.slice (some ad239) x221001_1.length co16) x221001_1) := ⟨by (with_reducible repeat (first | apply Kd.R_alloc | apply Kd.R_drewN | apply Kd.R_drew)); exact Kd.R_mono (Kd.R_far (p := ⟨gb242, 2, none⟩) (Kd.R_far (p := ⟨gb242, 1, none⟩) (Kd.R_far (p := ⟨gb242, 0, none⟩) (Kd.R_far (p := ⟨gb241, 2, none⟩) (Kd.R_far (p := ⟨gb241, 1, none⟩) (Kd.R_far (p := ⟨gb241, 0, none⟩) (Kd.R_mono (Kd.R_mono HO_221001.out (fun k_ hk => (⟨hk, hk.2.1⟩ : _ ∧ k_ ≠ gb241))) (fun k_ hk => (⟨hk, hk.1.2.2⟩ : _ ∧ k_ ≠ gb242))) (fun _ hk => hk.1.2) (.int .i64 ((rd_T53 x221001_1 x10_5).f0))) (fun _ hk => hk.1.2) (.int .i64 ((rd_T53 x221001_1 x10_5).f1))) (fun _ hk => hk.1.2) (.bool ((rd_T53 x221001_1 x10_5).f2))) (fun _ hk => hk.2) (.int .i64 ((rd_T53 x231001_14 x10_5).f0))) (fun _ hk => hk.2) (.int .i64 ((rd_T53 x231001_14 x10_5).f1))) (fun _ hk => hk.2) (.bool ((rd_T53 x231001_14 x10_5).f2))) (fun _ hk => ⟨hk.1.1.1, ⟨hk.1.1.2.1, hk.1.1.2.2⟩⟩)⟩
                    have n1_ : Aside0 (Kd.R k53 53 ((((((w180.setCell ⟨gb241, 0, none⟩ (.int .i64 ((rd_T53 x221001_1 x10_5).f0))).setCell ⟨gb241, 1, none⟩ (.int .i64 ((rd_T53 x221001_1 x10_5).f1))).setCell ⟨gb241, 2, none⟩ (.bool ((rd_T53 x221001_1 x10_5).f2))).setCell ⟨gb242, 0, none⟩ (.int .i64 ((rd_T53 x231001_14 x10_5).f0))).setCell ⟨gb242, 1, none⟩ (.int .i64 ((rd_T53 x231001_14 x10_5).f1))).setCell ⟨gb242, 2, none⟩ (.bool ((rd_T53 x231001_14 x10_5).f2))) w.heap.size (fun k_ => some k_ ≠ (.slice (some ad239) x221001_1.length co16 : Value).ownBlock ∧ k_ ≠ gb241 ∧ k_ ≠ gb242) (.slice (some ad240) x231001_14.length co176) x231001_14) := ⟨by (with_reducible repeat (first | apply Kd.R_alloc | apply Kd.R_drewN | apply Kd.R_drew)); exact Kd.R_mono (Kd.R_far (p := ⟨gb242, 2, none⟩) (Kd.R_far (p := ⟨gb242, 1, none⟩) (Kd.R_far (p := ⟨gb242, 0, none⟩) (Kd.R_far (p := ⟨gb241, 2, none⟩) (Kd.R_far (p := ⟨gb241, 1, none⟩) (Kd.R_far (p := ⟨gb241, 0, none⟩) (Kd.R_mono (Kd.R_mono HO_231001.out (fun k_ hk => (⟨hk, hk.2.1⟩ : _ ∧ k_ ≠ gb241))) (fun k_ hk => (⟨hk, hk.1.2.2⟩ : _ ∧ k_ ≠ gb242))) (fun _ hk => hk.1.2) (.int .i64 ((rd_T53 x221001_1 x10_5).f0))) (fun _ hk => hk.1.2) (.int .i64 ((rd_T53 x221001_1 x10_5).f1))) (fun _ hk => hk.1.2) (.bool ((rd_T53 x221001_1 x10_5).f2))) (fun _ hk => hk.2) (.int .i64 ((rd_T53 x231001_14 x10_5).f0))) (fun _ hk => hk.2) (.int .i64 ((rd_T53 x231001_14 x10_5).f1))) (fun _ hk => hk.2) (.bool ((rd_T53 x231001_14 x10_5).f2))) (fun _ hk => ⟨hk.1.1.1, ⟨hk.1.1.2.1, hk.1.1.2.2⟩⟩)⟩
                    have n2_ : Aside0 (((((((w180.setCell ⟨gb241, 0, none⟩ (.int .i64 ((rd_T53 x221001_1 x10_5).f0))).setCell ⟨gb241, 1, none⟩ (.int .i64 ((rd_T53 x221001_1 x10_5).f1))).setCell ⟨gb241, 2, none⟩ (.bool ((rd_T53 x221001_1 x10_5).f2))).setCell ⟨gb242, 0, none⟩ (.int .i64 ((rd_T53 x231001_14 x10_5).f0))).setCell ⟨gb242, 1, none⟩ (.int .i64 ((rd_T53 x231001_14 x10_5).f1))).setCell ⟨gb242, 2, none⟩ (.bool ((rd_T53 x231001_14 x10_5).f2))).heap[gb220]? = some (.cells #[.int .i64 x221000_1, .slice (some ad239) x221001_1.length co16] 24 (0, 0))) := ⟨by (with_reducible repeat (first | refine blk_drewN ?_ _ | refine blk_drew ?_ | refine blk_alloc ?_ _)); refine blk_far ?_ NB220_242.out _; (with_reducible repeat (first | refine blk_drewN ?_ _ | refine blk_drew ?_ | refine blk_alloc ?_ _)); refine blk_far ?_ NB220_242.out _; (with_reducible repeat (first | refine blk_drewN ?_ _ | refine blk_drew ?_ | refine blk_alloc ?_ _)); refine blk_far ?_ NB220_242.out _; (with_reducible repeat (first | refine blk_drewN ?_ _ | refine blk_drew ?_ | refine blk_alloc ?_ _)); refine blk_far ?_ NB220_241.out _; (with_reducible repeat (first | refine blk_drewN ?_ _ | refine blk_drew ?_ | refine blk_alloc ?_ _)); refine blk_far ?_ NB220_241.out _; (with_reducible repeat (first | refine blk_drewN ?_ _ | refine blk_drew ?_ | refine blk_alloc ?_ _)); refine blk_far ?_ NB220_241.out _; (with_reducible repeat (first | refine blk_drewN ?_ _ | refine blk_drew ?_ | refine blk_alloc ?_ _)); exact BK220.out⟩
                    have n3_ : Aside0 (((((((w180.setCell ⟨gb241, 0, none⟩ (.int .i64 ((rd_T53 x221001_1 x10_5).f0))).setCell ⟨gb241, 1, none⟩ (.int .i64 ((rd_T53 x221001_1 x10_5).f1))).setCell ⟨gb241, 2, none⟩ (.bool ((rd_T53 x221001_1 x10_5).f2))).setCell ⟨gb242, 0, none⟩ (.int .i64 ((rd_T53 x231001_14 x10_5).f0))).setCell ⟨gb242, 1, none⟩ (.int .i64 ((rd_T53 x231001_14 x10_5).f1))).setCell ⟨gb242, 2, none⟩ (.bool ((rd_T53 x231001_14 x10_5).f2))).heap[gb230]? = some (.cells #[.int .i64 x231000_14, .slice (some ad240) x231001_14.length co176] 24 (0, 0))) := ⟨by (with_reducible repeat (first | refine blk_drewN ?_ _ | refine blk_drew ?_ | refine blk_alloc ?_ _)); refine blk_far ?_ NB230_242.out _; (with_reducible repeat (first | refine blk_drewN ?_ _ | refine blk_drew ?_ | refine blk_alloc ?_ _)); refine blk_far ?_ NB230_242.out _; (with_reducible repeat (first | refine blk_drewN ?_ _ | refine blk_drew ?_ | refine blk_alloc ?_ _)); refine blk_far ?_ NB230_242.out _; (with_reducible repeat (first | refine blk_drewN ?_ _ | refine blk_drew ?_ | refine blk_alloc ?_ _)); refine blk_far ?_ NB230_241.out _; (with_reducible repeat (first | refine blk_drewN ?_ _ | refine blk_drew ?_ | refine blk_alloc ?_ _)); refine blk_far ?_ NB230_241.out _; (with_reducible repeat (first | refine blk_drewN ?_ _ | refine blk_drew ?_ | refine blk_alloc ?_ _)); refine blk_far ?_ NB230_241.out _; (with_reducible repeat (first | refine blk_drewN ?_ _ | refine blk_drew ?_ | refine blk_alloc ?_ _)); exact BK230.out⟩
                    have n4_ : Aside0 (((((((w180.setCell ⟨gb241, 0, none⟩ (.int .i64 ((rd_T53 x221001_1 x10_5).f0))).setCell ⟨gb241, 1, none⟩ (.int .i64 ((rd_T53 x221001_1 x10_5).f1))).setCell ⟨gb241, 2, none⟩ (.bool ((rd_T53 x221001_1 x10_5).f2))).setCell ⟨gb242, 0, none⟩ (.int .i64 ((rd_T53 x231001_14 x10_5).f0))).setCell ⟨gb242, 1, none⟩ (.int .i64 ((rd_T53 x231001_14 x10_5).f1))).setCell ⟨gb242, 2, none⟩ (.bool ((rd_T53 x231001_14 x10_5).f2))).heap[gb241]? = some (.cells #[.int .i64 ((rd_T53 x221001_1 x10_5).f0), .int .i64 ((rd_T53 x221001_1 x10_5).f1), .bool ((rd_T53 x221001_1 x10_5).f2)] 53 (0, 0))) := ⟨by (with_reducible repeat (first | refine blk_drewN ?_ _ | refine blk_drew ?_ | refine blk_alloc ?_ _)); refine blk_far ?_ NB241_242.out _; (with_reducible repeat (first | refine blk_drewN ?_ _ | refine blk_drew ?_ | refine blk_alloc ?_ _)); refine blk_far ?_ NB241_242.out _; (with_reducible repeat (first | refine blk_drewN ?_ _ | refine blk_drew ?_ | refine blk_alloc ?_ _)); refine blk_far ?_ NB241_242.out _; (with_reducible repeat (first | refine blk_drewN ?_ _ | refine blk_drew ?_ | refine blk_alloc ?_ _)); refine blk_put (cs := #[.int .i64 ((rd_T53 x221001_1 x10_5).f0), .int .i64 ((rd_T53 x221001_1 x10_5).f1), .bool false]) ?_ 2 _ rfl; (with_reducible repeat (first | refine blk_drewN ?_ _ | refine blk_drew ?_ | refine blk_alloc ?_ _)); refine blk_put (cs := #[.int .i64 ((rd_T53 x221001_1 x10_5).f0), .int .i64 0, .bool false]) ?_ 1 _ rfl; (with_reducible repeat (first | refine blk_drewN ?_ _ | refine blk_drew ?_ | refine blk_alloc ?_ _)); refine blk_put (cs := #[.int .i64 0, .int .i64 0, .bool false]) ?_ 0 _ rfl; (with_reducible repeat (first | refine blk_drewN ?_ _ | refine blk_drew ?_ | refine blk_alloc ?_ _)); exact BK241.out⟩
                    have n5_ : Aside0 (((((((w180.setCell ⟨gb241, 0, none⟩ (.int .i64 ((rd_T53 x221001_1 x10_5).f0))).setCell ⟨gb241, 1, none⟩ (.int .i64 ((rd_T53 x221001_1 x10_5).f1))).setCell ⟨gb241, 2, none⟩ (.bool ((rd_T53 x221001_1 x10_5).f2))).setCell ⟨gb242, 0, none⟩ (.int .i64 ((rd_T53 x231001_14 x10_5).f0))).setCell ⟨gb242, 1, none⟩ (.int .i64 ((rd_T53 x231001_14 x10_5).f1))).setCell ⟨gb242, 2, none⟩ (.bool ((rd_T53 x231001_14 x10_5).f2))).heap[gb242]? = some (.cells #[.int .i64 ((rd_T53 x231001_14 x10_5).f0), .int .i64 ((rd_T53 x231001_14 x10_5).f1), .bool ((rd_T53 x231001_14 x10_5).f2)] 53 (0, 0))) := ⟨by (with_reducible repeat (first | refine blk_drewN ?_ _ | refine blk_drew ?_ | refine blk_alloc ?_ _)); refine blk_put (cs := #[.int .i64 ((rd_T53 x231001_14 x10_5).f0), .int .i64 ((rd_T53 x231001_14 x10_5).f1), .bool false]) ?_ 2 _ rfl; (with_reducible repeat (first | refine blk_drewN ?_ _ | refine blk_drew ?_ | refine blk_alloc ?_ _)); refine blk_put (cs := #[.int .i64 ((rd_T53 x231001_14 x10_5).f0), .int .i64 0, .bool false]) ?_ 1 _ rfl; (with_reducible repeat (first | refine blk_drewN ?_ _ | refine blk_drew ?_ | refine blk_alloc ?_ _)); refine blk_put (cs := #[.int .i64 0, .int .i64 0, .bool false]) ?_ 0 _ rfl; (with_reducible repeat (first | refine blk_drewN ?_ _ | refine blk_drew ?_ | refine blk_alloc ?_ _)); refine blk_far ?_ NB242_241.out _; (with_reducible repeat (first | refine blk_drewN ?_ _ | refine blk_drew ?_ | refine blk_alloc ?_ _)); refine blk_far ?_ NB242_241.out _; (with_reducible repeat (first | refine blk_drewN ?_ _ | refine blk_drew ?_ | refine blk_alloc ?_ _)); refine blk_far ?_ NB242_241.out _; (with_reducible repeat (first | refine blk_drewN ?_ _ | refine blk_drew ?_ | refine blk_alloc ?_ _)); exact BK242.out⟩
                    have n6_ : Aside0 (Below w.heap.size w ((((((w180.setCell ⟨gb241, 0, none⟩ (.int .i64 ((rd_T53 x221001_1 x10_5).f0))).setCell ⟨gb241, 1, none⟩ (.int .i64 ((rd_T53 x221001_1 x10_5).f1))).setCell ⟨gb241, 2, none⟩ (.bool ((rd_T53 x221001_1 x10_5).f2))).setCell ⟨gb242, 0, none⟩ (.int .i64 ((rd_T53 x231001_14 x10_5).f0))).setCell ⟨gb242, 1, none⟩ (.int .i64 ((rd_T53 x231001_14 x10_5).f1))).setCell ⟨gb242, 2, none⟩ (.bool ((rd_T53 x231001_14 x10_5).f2)))) := ⟨by repeat (first | (with_reducible first | exact HB.out | apply below_alloc | apply pw_below_drewN | apply below_drew1 | refine below_set ?_ GE220.out | refine below_set ?_ GE230.out | refine below_set ?_ GE241.out | refine below_set ?_ GE242.out) | exact HB.out)⟩
                    (try clear HO_221001)
                    (try clear HO_231001)
                    (try clear BK220)
                    (try clear BK230)
                    (try clear BK241)
                    (try clear BK242)
                    (try clear HB)
                    generalize ((((((w180.setCell ⟨gb241, 0, none⟩ (.int .i64 ((rd_T53 x221001_1 x10_5).f0))).setCell ⟨gb241, 1, none⟩ (.int .i64 ((rd_T53 x221001_1 x10_5).f1))).setCell ⟨gb241, 2, none⟩ (.bool ((rd_T53 x221001_1 x10_5).f2))).setCell ⟨gb242, 0, none⟩ (.int .i64 ((rd_T53 x231001_14 x10_5).f0))).setCell ⟨gb242, 1, none⟩ (.int .i64 ((rd_T53 x231001_14 x10_5).f1))).setCell ⟨gb242, 2, none⟩ (.bool ((rd_T53 x231001_14 x10_5).f2))) = w187 at n0_ n1_ n2_ n3_ n4_ n5_ n6_ ⊢
                    have HO_221001 := n0_
                    have HO_231001 := n1_
                    have BK220 := n2_
                    have BK230 := n3_
                    have BK241 := n4_
                    have BK242 := n5_
                    have HB := n6_
                    clear n0_ n1_ n2_ n3_ n4_ n5_ n6_
                    have hq_gb241_0 := (blk_cell BK241.out 0)
                    have hq_gb241_1 := (blk_cell BK241.out 1)
                    have hq_gb241_2 := (blk_cell BK241.out 2)
                    have hq_gb242_0 := (blk_cell BK242.out 0)
                    have hq_gb242_1 := (blk_cell BK242.out 1)
                    have hq_gb242_2 := (blk_cell BK242.out 2)
                    simp only [List.getElem?_toArray, List.getElem?_cons_zero, List.getElem?_cons_succ] at hq_gb241_0 hq_gb241_1 hq_gb241_2 hq_gb242_0 hq_gb242_1 hq_gb242_2
                    have H := H'.out
                    clear H'
                    by_cases c58 : ((rd_T53 x221001_1 x10_5).f0) = ((rd_T53 x231001_14 x10_5).f0)
                    ·as_aux_lemma =>
                      rw [if_pos c58] at H
                      have c58b0 : (((rd_T53 x221001_1 x10_5).f0) == ((rd_T53 x231001_14 x10_5).f0)) = true := beq_iff_eq.mpr c58
                      have c58b1 : (((rd_T53 x221001_1 x10_5).f0) != ((rd_T53 x231001_14 x10_5).f0)) = false := bne_eq_false_iff_eq.mpr c58
                      clear c58
                      by_cases c59 : 0 ≤ x7_1
                      ·as_aux_lemma =>
                        rw [if_pos c59] at H
                        have c59b0 : decide (0 ≤ x7_1) = true := decide_eq_true c59
                        clear c59
                        by_cases c60 : x7_1 < (l1.length : Int)
                        ·as_aux_lemma =>
                          rw [if_pos c60] at H
                          have c60b0 : decide (x7_1 < (l1.length : Int)) = true := decide_eq_true c60
                          clear c60
                          by_cases c61 : ((rd_T53 x221001_1 x10_5).f0) = ((rd_T51 l1 x7_1).f0)
                          ·as_aux_lemma =>
                            rw [if_pos c61] at H
                            have c61b0 : (((rd_T53 x221001_1 x10_5).f0) == ((rd_T51 l1 x7_1).f0)) = true := beq_iff_eq.mpr c61
                            have c61b1 : (((rd_T53 x221001_1 x10_5).f0) != ((rd_T51 l1 x7_1).f0)) = false := bne_eq_false_iff_eq.mpr c61
                            clear c61
                            by_cases c62 : (((rd_T53 x231001_14 x10_5).f2) != ((rd_T51 l1 x7_1).f1)) = true
                            ·rw [if_pos c62] at H
                             cases H
                            ·rw [if_neg c62] at H
                             have c62b0 : (((rd_T53 x231001_14 x10_5).f2) != ((rd_T51 l1 x7_1).f1)) = false := by simpa using c62
                             (try (have c62b1 : decide (((rd_T53 x231001_14 x10_5).f2) = ((rd_T51 l1 x7_1).f1)) = true := by simpa using c62))
                             (try (have c62b2 : (((rd_T53 x231001_14 x10_5).f2) == ((rd_T51 l1 x7_1).f1)) = true := by simpa using c62))
                             clear c62
                             by_cases c78 : (((rd_T53 x221001_1 x10_5).f2) == ((rd_T53 x231001_14 x10_5).f2)) = true
                             ·rw [if_pos c78] at H
                              cases H
                             ·rw [if_neg c78] at H
                              have c78b0 : (((rd_T53 x221001_1 x10_5).f2) == ((rd_T53 x231001_14 x10_5).f2)) = false := by simpa using c78
                              (try (have c78b1 : decide (((rd_T53 x221001_1 x10_5).f2) = ((rd_T53 x231001_14 x10_5).f2)) = false := by simpa using c78))
                              (try (have c78b2 : (((rd_T53 x221001_1 x10_5).f2) == ((rd_T53 x231001_14 x10_5).f2)) = false := by simpa using c78))
                              (try (have c78b3 : ¬ (((rd_T53 x221001_1 x10_5).f2) = ((rd_T53 x231001_14 x10_5).f2)) := by simpa using c78))
                              clear c78
                              by_cases c94 : ((rd_T53 x231001_14 x10_5).f1) < ((rd_T53 x221001_1 x10_5).f1)
                              ·rw [if_pos c94] at H
                               cases H
                              ·rw [if_neg c94] at H
                               have c94b0 : decide (((rd_T53 x231001_14 x10_5).f1) < ((rd_T53 x221001_1 x10_5).f1)) = false := decide_eq_false c94
                               clear c94
                               obtain ⟨bq110, hbq110⟩ : ∃ b_ : Bool, b_ = ((rd_T51 l1 x7_1).f1) := ⟨_, rfl⟩
                               replace H : (if bq110 = true then (if ((rd_T53 x231001_14 x10_5).f1) = (wrap64 (((rd_T53 x221001_1 x10_5).f1) + 1)) then (caduceuslaw14_ViewRises.l1 k5 l1 x7_1 (wrap64 (x10_5 + 1)) x221000_1 x221001_1 x231000_14 x231001_14) else none) else (caduceuslaw14_ViewRises.l1 k5 l1 x7_1 (wrap64 (x10_5 + 1)) x221000_1 x221001_1 x231000_14 x231001_14)) = some r := by rw [← hbq110] at H; exact H
                               have Nbq110 := Aside0.mk hbq110
                               clear hbq110
                               by_cases c111 : bq110 = true
                               ·subst c111
                                have H1 : (if ((rd_T53 x231001_14 x10_5).f1) = (wrap64 (((rd_T53 x221001_1 x10_5).f1) + 1)) then (caduceuslaw14_ViewRises.l1 k5 l1 x7_1 (wrap64 (x10_5 + 1)) x221000_1 x221001_1 x231000_14 x231001_14) else none) = some r := by rw [if_pos rfl] at H; exact H
                                clear H
                                have H := H1
                                clear H1
                                by_cases c112 : ((rd_T53 x231001_14 x10_5).f1) = (wrap64 (((rd_T53 x221001_1 x10_5).f1) + 1))
                                ·rw [if_pos c112] at H
                                 have c112b0 : (((rd_T53 x231001_14 x10_5).f1) == (wrap64 (((rd_T53 x221001_1 x10_5).f1) + 1))) = true := beq_iff_eq.mpr c112
                                 have c112b1 : (((rd_T53 x231001_14 x10_5).f1) != (wrap64 (((rd_T53 x221001_1 x10_5).f1) + 1))) = false := bne_eq_false_iff_eq.mpr c112
                                 clear c112
                                 have H' := Aside0.mk H
                                 clear H
                                 have p243 : 0 ≤ (x7_1 : Int) := of_decide_eq_true (by first | (with_reducible assumption) | assumption)
                                 have q243 : x7_1 < (l1.length : Int) := of_decide_eq_true (by first | (with_reducible assumption) | assumption)
                                 obtain ⟨ad243, e243, hx243_0, hx243_1⟩ := at_T51 HR1.out x7_1 p243 q243
                                 have hw243_1 := hx243_1
                                 have hw243_0 := hx243_0
                                 (try rw [← Nbq110.out] at hx243_1)
                                 (try rw [← Nbq110.out] at hw243_1)
                                 obtain rfl : ad224 = ad243 := (by injection e243)
                                 replace hx243_0 := (HB.out.cell (World.block_lt_of_cell? w _ hx243_0)).trans hx243_0
                                 replace hx243_1 := (HB.out.cell (World.block_lt_of_cell? w _ hx243_1)).trans hx243_1
                                 replace p243 := eq_true p243
                                 replace q243 := eq_true q243
                                 have hup2 : (rd_T53 x231001_14 x10_5).f2 = true := by have h := c62b0; rw [← Nbq110.out] at h; simpa using h
                                 have hup1 : (rd_T53 x221001_1 x10_5).f2 = false := by have h := c78b0; rw [hup2] at h; simpa using h
                                 rw [hup2] at hq_gb242_2
                                 rw [hup1] at hq_gb241_2
                                 go_quiet (fail)
                                 try go_wp2
                                 go_roundg k5
                                 case measure => have := HK1.out; have := HJ8.out; have := HJ14.out; have := HJ33.out; have := HK5.out; omega
                                 case rel => exact ⟨(wrap64 (x10_5 + 1)), (by first | rfl | (simp; done) | (simp [*]; done)), H', ⟨by have := HK1.out; have := HJ8.out; have := HJ14.out; have := HJ33.out; have := HK5.out; omega⟩, ⟨by (with_reducible repeat (first | apply Kd.R_alloc | apply Kd.R_drewN | apply Kd.R_drew)); exact Kd.R_mono HO_221001.out (fun _ hk => hk.1)⟩, ⟨by (with_reducible repeat (first | apply Kd.R_alloc | apply Kd.R_drewN | apply Kd.R_drew)); exact Kd.R_mono HO_231001.out (fun _ hk => hk.1)⟩, ⟨by (with_reducible repeat (first | refine blk_drewN ?_ _ | refine blk_drew ?_ | refine blk_alloc ?_ _)); exact BK220.out⟩, ⟨by (with_reducible repeat (first | refine blk_drewN ?_ _ | refine blk_drew ?_ | refine blk_alloc ?_ _)); exact BK230.out⟩, ⟨by repeat (first | (with_reducible first | exact HB.out | apply below_alloc | apply pw_below_drewN | apply below_drew1 | refine below_set ?_ GE220.out | refine below_set ?_ GE230.out | refine below_set ?_ GE241.out | refine below_set ?_ GE242.out) | exact HB.out)⟩⟩
                                ·rw [if_neg c112] at H
                                 cases H
                               ·replace c111 := Bool.eq_false_iff.mpr c111
                                subst c111
                                have H1 : (caduceuslaw14_ViewRises.l1 k5 l1 x7_1 (wrap64 (x10_5 + 1)) x221000_1 x221001_1 x231000_14 x231001_14) = some r := by rw [if_neg (show ¬ (false = true) by decide)] at H; exact H
                                clear H
                                have H := H1
                                clear H1
                                have H' := Aside0.mk H
                                clear H
                                have p243 : 0 ≤ (x7_1 : Int) := of_decide_eq_true (by first | (with_reducible assumption) | assumption)
                                have q243 : x7_1 < (l1.length : Int) := of_decide_eq_true (by first | (with_reducible assumption) | assumption)
                                obtain ⟨ad243, e243, hx243_0, hx243_1⟩ := at_T51 HR1.out x7_1 p243 q243
                                have hw243_1 := hx243_1
                                have hw243_0 := hx243_0
                                (try rw [← Nbq110.out] at hx243_1)
                                (try rw [← Nbq110.out] at hw243_1)
                                obtain rfl : ad224 = ad243 := (by injection e243)
                                replace hx243_0 := (HB.out.cell (World.block_lt_of_cell? w _ hx243_0)).trans hx243_0
                                replace hx243_1 := (HB.out.cell (World.block_lt_of_cell? w _ hx243_1)).trans hx243_1
                                replace p243 := eq_true p243
                                replace q243 := eq_true q243
                                have hup2 : (rd_T53 x231001_14 x10_5).f2 = false := by have h := c62b0; rw [← Nbq110.out] at h; simpa using h
                                have hup1 : (rd_T53 x221001_1 x10_5).f2 = true := by have h := c78b0; rw [hup2] at h; simpa using h
                                rw [hup2] at hq_gb242_2
                                rw [hup1] at hq_gb241_2
                                go_quiet (fail)
                                try go_wp2
                                go_roundg k5
                                case measure => have := HK1.out; have := HJ8.out; have := HJ14.out; have := HJ33.out; have := HK5.out; omega
                                case rel => exact ⟨(wrap64 (x10_5 + 1)), (by first | rfl | (simp; done) | (simp [*]; done)), H', ⟨by have := HK1.out; have := HJ8.out; have := HJ14.out; have := HJ33.out; have := HK5.out; omega⟩, ⟨by (with_reducible repeat (first | apply Kd.R_alloc | apply Kd.R_drewN | apply Kd.R_drew)); exact Kd.R_mono HO_221001.out (fun _ hk => hk.1)⟩, ⟨by (with_reducible repeat (first | apply Kd.R_alloc | apply Kd.R_drewN | apply Kd.R_drew)); exact Kd.R_mono HO_231001.out (fun _ hk => hk.1)⟩, ⟨by (with_reducible repeat (first | refine blk_drewN ?_ _ | refine blk_drew ?_ | refine blk_alloc ?_ _)); exact BK220.out⟩, ⟨by (with_reducible repeat (first | refine blk_drewN ?_ _ | refine blk_drew ?_ | refine blk_alloc ?_ _)); exact BK230.out⟩, ⟨by repeat (first | (with_reducible first | exact HB.out | apply below_alloc | apply pw_below_drewN | apply below_drew1 | refine below_set ?_ GE220.out | refine below_set ?_ GE230.out | refine below_set ?_ GE241.out | refine below_set ?_ GE242.out) | exact HB.out)⟩⟩
                          ·rw [if_neg c61] at H
                           have c61b0 : (((rd_T53 x221001_1 x10_5).f0) == ((rd_T51 l1 x7_1).f0)) = false := beq_eq_false_iff_ne.mpr c61
                           have c61b1 : (((rd_T53 x221001_1 x10_5).f0) != ((rd_T51 l1 x7_1).f0)) = true := bne_iff_ne.mpr c61
                           by_cases c158 : (!(((rd_T53 x221001_1 x10_5).f0) == ((rd_T53 x231001_14 x10_5).f0)) || (!(((rd_T53 x221001_1 x10_5).f1) == ((rd_T53 x231001_14 x10_5).f1)) || (!(((rd_T53 x221001_1 x10_5).f2) == ((rd_T53 x231001_14 x10_5).f2))))) = true
                           ·rw [if_pos c158] at H
                            cases H
                           ·rw [if_neg c158] at H
                            have c158b0 : (!(((rd_T53 x221001_1 x10_5).f0) == ((rd_T53 x231001_14 x10_5).f0)) || (!(((rd_T53 x221001_1 x10_5).f1) == ((rd_T53 x231001_14 x10_5).f1)) || (!(((rd_T53 x221001_1 x10_5).f2) == ((rd_T53 x231001_14 x10_5).f2))))) = false := by simpa using c158
                            clear c158
                            have H' := Aside0.mk H
                            clear H
                            have p243 : 0 ≤ (x7_1 : Int) := of_decide_eq_true (by first | (with_reducible assumption) | assumption)
                            have q243 : x7_1 < (l1.length : Int) := of_decide_eq_true (by first | (with_reducible assumption) | assumption)
                            obtain ⟨ad243, e243, hx243_0, hx243_1⟩ := at_T51 HR1.out x7_1 p243 q243
                            have hw243_1 := hx243_1
                            have hw243_0 := hx243_0
                            obtain rfl : ad224 = ad243 := (by injection e243)
                            replace hx243_0 := (HB.out.cell (World.block_lt_of_cell? w _ hx243_0)).trans hx243_0
                            replace hx243_1 := (HB.out.cell (World.block_lt_of_cell? w _ hx243_1)).trans hx243_1
                            replace p243 := eq_true p243
                            replace q243 := eq_true q243
                            have hsame : (rd_T53 x221001_1 x10_5).f0 = (rd_T53 x231001_14 x10_5).f0 ∧ (rd_T53 x221001_1 x10_5).f1 = (rd_T53 x231001_14 x10_5).f1 ∧ (rd_T53 x221001_1 x10_5).f2 = (rd_T53 x231001_14 x10_5).f2 := by simpa using c158b0
                            rw [← hsame.1] at hq_gb242_0
                            rw [← hsame.2.1] at hq_gb242_1
                            rw [← hsame.2.2] at hq_gb242_2
                            clear hsame
                            go_quiet (fail)
                            try go_wp2
                            go_roundg k5
                            case measure => have := HK1.out; have := HJ8.out; have := HJ14.out; have := HJ33.out; have := HK5.out; omega
                            case rel => exact ⟨(wrap64 (x10_5 + 1)), (by first | rfl | (simp; done) | (simp [*]; done)), H', ⟨by have := HK1.out; have := HJ8.out; have := HJ14.out; have := HJ33.out; have := HK5.out; omega⟩, ⟨by (with_reducible repeat (first | apply Kd.R_alloc | apply Kd.R_drewN | apply Kd.R_drew)); exact Kd.R_mono HO_221001.out (fun _ hk => hk.1)⟩, ⟨by (with_reducible repeat (first | apply Kd.R_alloc | apply Kd.R_drewN | apply Kd.R_drew)); exact Kd.R_mono HO_231001.out (fun _ hk => hk.1)⟩, ⟨by (with_reducible repeat (first | refine blk_drewN ?_ _ | refine blk_drew ?_ | refine blk_alloc ?_ _)); exact BK220.out⟩, ⟨by (with_reducible repeat (first | refine blk_drewN ?_ _ | refine blk_drew ?_ | refine blk_alloc ?_ _)); exact BK230.out⟩, ⟨by repeat (first | (with_reducible first | exact HB.out | apply below_alloc | apply pw_below_drewN | apply below_drew1 | refine below_set ?_ GE220.out | refine below_set ?_ GE230.out | refine below_set ?_ GE241.out | refine below_set ?_ GE242.out) | exact HB.out)⟩⟩
                        ·rw [if_neg c60] at H
                         exact absurd H (by simp)
                      ·rw [if_neg c59] at H
                       exact absurd H (by simp)
                    ·rw [if_neg c58] at H
                     cases H
                   ·rw [if_neg c57] at H
                    exact absurd H (by simp)
                  ·rw [if_neg c56] at H
                   exact absurd H (by simp)
                 ·as_aux_lemma =>
                   rw [if_neg c55] at H
                   have c55b0 : decide (x10_5 < (x231001_14.length : Int)) = false := decide_eq_false c55
                   clear c55
                   replace H := Option.bind_eq_some_iff.mp H
                   obtain ⟨t248, A2040, H⟩ := H
                   replace H : (if 0 ≤ x7_1 then (if x7_1 < (l1.length : Int) then (if (rd_T51 l1 x7_1).f1 = true then (if (t248.length : Int) = 0 then (if ((rd_T51 l1 x7_1).f1 = true) then (caduceuslaw14_ViewRises.l0 k5 l1 (wrap64 (x7_1 + 1)) x231000_14 x231001_14) else (if (t248.length : Int) = 1 then (if 0 < (t248.length : Int) then (if (rd t248 0) = ((rd_T51 l1 x7_1).f0) then (caduceuslaw14_ViewRises.l0 k5 l1 (wrap64 (x7_1 + 1)) x231000_14 x231001_14) else none) else (none)) else none)) else none) else (if ((rd_T51 l1 x7_1).f1 = true) then (caduceuslaw14_ViewRises.l0 k5 l1 (wrap64 (x7_1 + 1)) x231000_14 x231001_14) else (if (t248.length : Int) = 1 then (if 0 < (t248.length : Int) then (if (rd t248 0) = ((rd_T51 l1 x7_1).f0) then (caduceuslaw14_ViewRises.l0 k5 l1 (wrap64 (x7_1 + 1)) x231000_14 x231001_14) else none) else (none)) else none))) else (none)) else (none)) = some r := H
                   have A204 := Aside0.mk A2040
                   clear A2040
                   by_cases c205 : 0 ≤ x7_1
                   ·as_aux_lemma =>
                     rw [if_pos c205] at H
                     have c205b0 : decide (0 ≤ x7_1) = true := decide_eq_true c205
                     clear c205
                     by_cases c206 : x7_1 < (l1.length : Int)
                     ·as_aux_lemma =>
                       rw [if_pos c206] at H
                       have c206b0 : decide (x7_1 < (l1.length : Int)) = true := decide_eq_true c206
                       clear c206
                       obtain ⟨bq207, hbq207⟩ : ∃ b_ : Bool, b_ = ((rd_T51 l1 x7_1).f1) := ⟨_, rfl⟩
                       replace H : (if bq207 = true then (if (t248.length : Int) = 0 then (if (bq207 = true) then (caduceuslaw14_ViewRises.l0 k5 l1 (wrap64 (x7_1 + 1)) x231000_14 x231001_14) else (if (t248.length : Int) = 1 then (if 0 < (t248.length : Int) then (if (rd t248 0) = ((rd_T51 l1 x7_1).f0) then (caduceuslaw14_ViewRises.l0 k5 l1 (wrap64 (x7_1 + 1)) x231000_14 x231001_14) else none) else (none)) else none)) else none) else (if (bq207 = true) then (caduceuslaw14_ViewRises.l0 k5 l1 (wrap64 (x7_1 + 1)) x231000_14 x231001_14) else (if (t248.length : Int) = 1 then (if 0 < (t248.length : Int) then (if (rd t248 0) = ((rd_T51 l1 x7_1).f0) then (caduceuslaw14_ViewRises.l0 k5 l1 (wrap64 (x7_1 + 1)) x231000_14 x231001_14) else none) else (none)) else none))) = some r := by rw [← hbq207] at H; exact H
                       have Nbq207 := Aside0.mk hbq207
                       clear hbq207
                       by_cases c208 : bq207 = true
                       ·as_aux_lemma =>
                         subst c208
                         have H1 : (if (t248.length : Int) = 0 then (if (true = true) then (caduceuslaw14_ViewRises.l0 k5 l1 (wrap64 (x7_1 + 1)) x231000_14 x231001_14) else (if (t248.length : Int) = 1 then (if 0 < (t248.length : Int) then (if (rd t248 0) = ((rd_T51 l1 x7_1).f0) then (caduceuslaw14_ViewRises.l0 k5 l1 (wrap64 (x7_1 + 1)) x231000_14 x231001_14) else none) else (none)) else none)) else none) = some r := by rw [if_pos rfl] at H; exact H
                         clear H
                         have H := H1
                         clear H1
                         by_cases c209 : (t248.length : Int) = 0
                         ·as_aux_lemma =>
                           rw [if_pos c209] at H
                           have c209b0 : ((t248.length : Int) == 0) = true := beq_iff_eq.mpr c209
                           have c209b1 : ((t248.length : Int) != 0) = false := bne_eq_false_iff_eq.mpr c209
                           clear c209
                           by_cases c210 : (true = true)
                           ·as_aux_lemma =>
                             clear c210
                             have H1 : (caduceuslaw14_ViewRises.l0 k5 l1 (wrap64 (x7_1 + 1)) x231000_14 x231001_14) = some r := by rw [if_pos rfl] at H; exact H
                             clear H
                             have H := H1
                             clear H1
                             have H' := Aside0.mk H
                             clear H
                             have hnb211 := NB230_220.out
                             have hnc211 := NB220_230.out
                             have hcz212_0 : wr.cell? ⟨gb230, 0, none⟩ = some (.int .i64 x231000_14) := (blk_cell BK230.out 0).trans rfl
                             have hcz212_1 : wr.cell? ⟨gb230, 1, none⟩ = some (u231001) := (blk_cell BK230.out 1).trans rfl
                             have hfz212_0 := blk_frozen BK230.out 0
                             have hfz212_1 := blk_frozen BK230.out 1
                             obtain ⟨Ao213, co213, eo213⟩ := Kd.R_slice HO_231001.out
                             subst eo213
                             have hcz214_0 : wr.cell? ⟨gb220, 0, none⟩ = some (.int .i64 x221000_1) := (blk_cell BK220.out 0).trans rfl
                             have hcz214_1 : wr.cell? ⟨gb220, 1, none⟩ = some (.slice Ao16 x221001_1.length co16) := (blk_cell BK220.out 1).trans rfl
                             have hfz214_0 := blk_frozen BK220.out 0
                             have hfz214_1 := blk_frozen BK220.out 1
                             try go_wp2_with (first | ((with_reducible refine gate_callee (f := 25) rfl ?_); refine goesL_ (some 172) rfl rfl Try.func25 (by kernel_rfl) rfl #[.agg #[.int .i64 x221000_1, .slice Ao16 x221001_1.length co16], .agg #[.int .i64 x231000_14, .slice Ao213 x231001_14.length co213]] rfl (by (try simp only [List.map_toArray, List.map_cons, List.map_nil]); first | done | rfl | (simp only [List.length_drop, List.length_take]; rfl)) ?_; (with_reducible refine (view_Gone.calls k5 x221000_1 _ _ x221001_1 x231000_14 _ _ x231001_14 t248 _ ?side1 ?side2 ?side3 ?side4 A204.out).mono ?_); (case side1 => repeat (first | exact (Kd.R_reads' HO_221001.out).2.2 | (with_reducible refine Kd.C_alloc ?_ _) | (with_reducible refine Kd.C_drewN ?_ _) | (with_reducible refine Kd.C_drew ?_))); (case side2 => exact (Kd.R_reads' HO_221001.out).2.1); (case side3 => repeat (first | exact (Kd.R_reads' HO_231001.out).2.2 | (with_reducible refine Kd.C_alloc ?_ _) | (with_reducible refine Kd.C_drewN ?_ _) | (with_reducible refine Kd.C_drew ?_))); (case side4 => exact (Kd.R_reads' HO_231001.out).2.1); rintro e w215 ⟨v249, rfl, ho0, hb⟩; refine ⟨_, rfl, ?_⟩; have n0_ := Aside0.mk (Kd.R_below (by (with_reducible repeat (first | apply Kd.R_alloc | apply Kd.R_drewN | apply Kd.R_drew)); exact HO_221001.out) hb); have n1_ := Aside0.mk (Kd.R_below (by (with_reducible repeat (first | apply Kd.R_alloc | apply Kd.R_drewN | apply Kd.R_drew)); exact HO_231001.out) hb); have n2_ := Aside0.mk (Kd.R_lower ho0 (below_size (by repeat (first | (with_reducible first | exact HB.out | apply below_alloc | apply pw_below_drewN | apply below_drew1 | refine below_set ?_ GE220.out | refine below_set ?_ GE230.out) | exact HB.out)))); have n3_ := Aside0.mk (blk_below (g := gb220) (o := .cells #[.int .i64 x221000_1, .slice Ao16 x221001_1.length co16] 24 (0, 0)) (by (with_reducible repeat (first | refine blk_drewN ?_ _ | refine blk_drew ?_ | refine blk_alloc ?_ _)); exact BK220.out) hb); have n4_ := Aside0.mk (blk_below (g := gb230) (o := .cells #[.int .i64 x231000_14, .slice Ao213 x231001_14.length co213] 24 (0, 0)) (by (with_reducible repeat (first | refine blk_drewN ?_ _ | refine blk_drew ?_ | refine blk_alloc ?_ _)); exact BK230.out) hb); have n5_ := Aside0.mk (below_step (by repeat (first | (with_reducible first | exact HB.out | apply below_alloc | apply pw_below_drewN | apply below_drew1 | refine below_set ?_ GE220.out | refine below_set ?_ GE230.out) | exact HB.out)) hb); clear HO_221001; clear HO_231001; clear BK220; clear BK230; clear HB; have HO_221001 := n0_; have HO_231001 := n1_; have HO250 := n2_; have BK220 := n3_; have BK230 := n4_; have HB := n5_; clear n0_ n1_ n2_ n3_ n4_ n5_; (try clear hb); (try clear hb2); (try clear hk); (try clear hi); (try clear ho0)))
                             have n0_ := Aside0.mk (Kd.R_drew HO_221001.out)
                             have n1_ := Aside0.mk (Kd.R_drew HO_231001.out)
                             have n2_ := Aside0.mk (Kd.R_drew HO250.out)
                             have n3_ := Aside0.mk (blk_drew BK220.out)
                             have n4_ := Aside0.mk (blk_drew BK230.out)
                             have n5_ := Aside0.mk (below_drew1 HB.out)
                             clear HO_221001
                             clear HO_231001
                             clear HO250
                             clear BK220
                             clear BK230
                             clear HB
                             have HO_221001 := n0_
                             have HO_231001 := n1_
                             have HO250 := n2_
                             have BK220 := n3_
                             have BK230 := n4_
                             have HB := n5_
                             clear n0_ n1_ n2_ n3_ n4_ n5_
                             have p251 : 0 ≤ (x7_1 : Int) := of_decide_eq_true (by first | (with_reducible assumption) | assumption)
                             have q251 : x7_1 < (l1.length : Int) := of_decide_eq_true (by first | (with_reducible assumption) | assumption)
                             obtain ⟨ad251, e251, hx251_0, hx251_1⟩ := at_T51 HR1.out x7_1 p251 q251
                             have hw251_1 := hx251_1
                             have hw251_0 := hx251_0
                             (try rw [← Nbq207.out] at hx251_1)
                             (try rw [← Nbq207.out] at hw251_1)
                             obtain rfl : ad224 = ad251 := (by injection e251)
                             replace hx251_0 := (HB.out.cell (World.block_lt_of_cell? w _ hx251_0)).trans hx251_0
                             replace hx251_1 := (HB.out.cell (World.block_lt_of_cell? w _ hx251_1)).trans hx251_1
                             replace p251 := eq_true p251
                             replace q251 := eq_true q251
                             obtain ⟨Ao217, co217, eo217⟩ := Kd.R_slice HO250.out
                             (first | subst eo217 | (injection eo217 with f1_ f2_ f3_; have f4_ := f1_.symm; have f5_ := f3_.symm; clear f1_ f2_ f3_; subst f4_; subst f5_))
                             have p252 : 0 ≤ (x7_1 : Int) := of_decide_eq_true (by first | (with_reducible assumption) | assumption)
                             have q252 : x7_1 < (l1.length : Int) := of_decide_eq_true (by first | (with_reducible assumption) | assumption)
                             obtain ⟨ad252, e252, hx252_0, hx252_1⟩ := at_T51 HR1.out x7_1 p252 q252
                             have hw252_1 := hx252_1
                             have hw252_0 := hx252_0
                             (try rw [← Nbq207.out] at hx252_1)
                             (try rw [← Nbq207.out] at hw252_1)
                             obtain rfl : ad224 = ad252 := (by injection e252)
                             replace hx252_0 := (HB.out.cell (World.block_lt_of_cell? w _ hx252_0)).trans hx252_0
                             replace hx252_1 := (HB.out.cell (World.block_lt_of_cell? w _ hx252_1)).trans hx252_1
                             replace p252 := eq_true p252
                             replace q252 := eq_true q252
                             refine start_ (n := 34) (S := fun w' => w'.cell? (ad224.add ((x7_1).toNat * 2)) = some (.int .i64 ((rd_T51 l1 x7_1).f0)) ∧ w'.cell? ⟨(ad224.add ((x7_1).toNat * 2)).block, (ad224.add ((x7_1).toNat * 2)).off + 1, none⟩ = some (.bool true) ∧ w'.cell? (ad224.add ((x7_1).toNat * 2)) = some (.int .i64 ((rd_T51 l1 x7_1).f0)) ∧ w'.cell? ⟨(ad224.add ((x7_1).toNat * 2)).block, (ad224.add ((x7_1).toNat * 2)).off + 1, none⟩ = some (.bool (true))) (ds := []) #[false, false, false, false, false, false, false, false, false, false, false, false, false, false, false, false, false, false, false, false, false, false, false, false, false, false, false, false, false, false, false, false, false, false] (by kernel_rfl) rfl rfl ⟨((HB.out.cell (World.block_lt_of_cell? w _ hw251_0)).trans hw251_0), ((HB.out.cell (World.block_lt_of_cell? w _ hw251_1)).trans hw251_1), ((HB.out.cell (World.block_lt_of_cell? w _ hw252_0)).trans hw252_0), ((HB.out.cell (World.block_lt_of_cell? w _ hw252_1)).trans hw252_1)⟩ (fun hHeld => ?_); refine with_tabW caduceuslaw14_ViewRises.tab20 caduceuslaw14_ViewRises.bits20 (fun HT_ HW_ => ?_)
                             generalize w215.drew = w216 at HO_221001 HO_231001 HO250 BK220 BK230 HB hx251_0 hx251_1 hx252_0 hx252_1 hHeld ⊢
                             refine pure_ (i := 0) (N := some 173) (v := ?_) (a' := ?_) #[true, false, false, false, false, false, false, false, false, false, false, false, false, false, false, false, false, false, false, false, false, false, false, false, false, false, false, false, false, false, false, false, false, false] rfl rfl (any_of HT_.out (by kernel_rfl)) (fun _ _ _ h => h) (Or.inl ⟨by rfl, ?_⟩) ?_ ?_; rotate_left; (intro w'; go_simp; with_reducible rfl); rotate_left; (simp only [Act.put, List.setIfInBounds_toArray, List.set_cons_zero, List.set_cons_succ, i64_w, i32_w]; rfl)
                             refine pure_ (i := 1) (N := some 174) (v := ?_) (a' := ?_) #[true, true, false, false, false, false, false, false, false, false, false, false, false, false, false, false, false, false, false, false, false, false, false, false, false, false, false, false, false, false, false, false, false, false] rfl rfl (any_of HT_.out (by kernel_rfl)) (fun _ _ _ h => h) (Or.inl ⟨by rfl, ?_⟩) ?_ ?_; rotate_left; (intro w'; go_simp; with_reducible rfl); rotate_left; (simp only [Act.put, List.setIfInBounds_toArray, List.set_cons_zero, List.set_cons_succ, i64_w, i32_w]; rfl)
                             refine pure_ (i := 2) (N := some 175) (v := ?_) (a' := ?_) #[true, true, true, false, false, false, false, false, false, false, false, false, false, false, false, false, false, false, false, false, false, false, false, false, false, false, false, false, false, false, false, false, false, false] rfl rfl (any_of HT_.out (by kernel_rfl)) (fun _ _ _ h => h) (Or.inl ⟨by rfl, ?_⟩) ?_ ?_; rotate_left; (intro w'; go_simp; with_reducible rfl); rotate_left; (simp only [Act.put, List.setIfInBounds_toArray, List.set_cons_zero, List.set_cons_succ, i64_w, i32_w]; rfl)
                             refine pure_ (i := 3) (N := some 176) (v := ?_) (a' := ?_) #[true, true, true, true, false, false, false, false, false, false, false, false, false, false, false, false, false, false, false, false, false, false, false, false, false, false, false, false, false, false, false, false, false, false] rfl rfl (any_of HT_.out (by kernel_rfl)) (fun _ _ _ h => h) (Or.inl ⟨by rfl, ?_⟩) ?_ ?_; rotate_left; (intro w'; go_simp; with_reducible rfl); rotate_left; (simp only [Act.put, List.setIfInBounds_toArray, List.set_cons_zero, List.set_cons_succ, i64_w, i32_w]; rfl)
                             refine take_ (i := 4) (N := some 177) (v := ?_) (a' := ?_) #[true, true, true, true, true, false, false, false, false, false, false, false, false, false, false, false, false, false, false, false, false, false, false, false, false, false, false, false, false, false, false, false, false, false] rfl rfl (take_ofW HT_.out HW_.out (by kernel_rfl)) (fun _ _ _ h => h) (Or.inl ⟨by rfl, ?_⟩) hHeld ?_ ?_
                             rotate_left
                             ·rintro w' ⟨s0, s1, s2, s3⟩
                              go_simp
                              with_reducible rfl
                             rotate_left
                             ·simp only [Act.put, List.setIfInBounds_toArray, List.set_cons_zero, List.set_cons_succ, i64_w, i32_w]
                              rfl
                             refine pure_ (i := 5) (N := some 178) (v := ?_) (a' := ?_) #[true, true, true, true, true, true, false, false, false, false, false, false, false, false, false, false, false, false, false, false, false, false, false, false, false, false, false, false, false, false, false, false, false, false] rfl rfl (any_of HT_.out (by kernel_rfl)) (fun _ _ _ h => h) (Or.inl ⟨by rfl, ?_⟩) ?_ ?_; rotate_left; (intro w'; go_simp; with_reducible rfl); rotate_left; (simp only [Act.put, List.setIfInBounds_toArray, List.set_cons_zero, List.set_cons_succ, i64_w, i32_w]; rfl)
                             refine pure_ (i := 6) (N := some 179) (v := ?_) (a' := ?_) #[true, true, true, true, true, true, true, false, false, false, false, false, false, false, false, false, false, false, false, false, false, false, false, false, false, false, false, false, false, false, false, false, false, false] rfl rfl (any_of HT_.out (by kernel_rfl)) (fun _ _ _ h => h) (Or.inl ⟨by rfl, ?_⟩) ?_ ?_; rotate_left; (intro w'; go_simp; with_reducible rfl); rotate_left; (simp only [Act.put, List.setIfInBounds_toArray, List.set_cons_zero, List.set_cons_succ, i64_w, i32_w]; rfl)
                             refine pure_ (i := 7) (N := some 180) (v := ?_) (a' := ?_) #[true, true, true, true, true, true, true, true, false, false, false, false, false, false, false, false, false, false, false, false, false, false, false, false, false, false, false, false, false, false, false, false, false, false] rfl rfl (any_of HT_.out (by kernel_rfl)) (fun _ _ _ h => h) (Or.inl ⟨by rfl, ?_⟩) ?_ ?_; rotate_left; (intro w'; go_simp; with_reducible rfl); rotate_left; (simp only [Act.put, List.setIfInBounds_toArray, List.set_cons_zero, List.set_cons_succ, i64_w, i32_w]; rfl)
                             refine pure_ (i := 8) (N := some 181) (v := ?_) (a' := ?_) #[true, true, true, true, true, true, true, true, true, false, false, false, false, false, false, false, false, false, false, false, false, false, false, false, false, false, false, false, false, false, false, false, false, false] rfl rfl (any_of HT_.out (by kernel_rfl)) (fun _ _ _ h => h) (Or.inl ⟨by rfl, ?_⟩) ?_ ?_; rotate_left; (intro w'; go_simp; with_reducible rfl); rotate_left; (simp only [Act.put, List.setIfInBounds_toArray, List.set_cons_zero, List.set_cons_succ, i64_w, i32_w]; rfl)
                             refine pure_ (i := 9) (N := some 182) (v := ?_) (a' := ?_) #[true, true, true, true, true, true, true, true, true, true, false, false, false, false, false, false, false, false, false, false, false, false, false, false, false, false, false, false, false, false, false, false, false, false] rfl rfl (any_of HT_.out (by kernel_rfl)) (fun _ _ _ h => h) (Or.inl ⟨by rfl, ?_⟩) ?_ ?_; rotate_left; (intro w'; go_simp; with_reducible rfl); rotate_left; (simp only [Act.put, List.setIfInBounds_toArray, List.set_cons_zero, List.set_cons_succ, i64_w, i32_w]; rfl)
                             refine pure_ (i := 10) (N := some 183) (v := ?_) (a' := ?_) #[true, true, true, true, true, true, true, true, true, true, true, false, false, false, false, false, false, false, false, false, false, false, false, false, false, false, false, false, false, false, false, false, false, false] rfl rfl (any_of HT_.out (by kernel_rfl)) (fun _ _ _ h => h) (Or.inl ⟨by rfl, ?_⟩) ?_ ?_; rotate_left; (intro w'; go_simp; with_reducible rfl); rotate_left; (simp only [Act.put, List.setIfInBounds_toArray, List.set_cons_zero, List.set_cons_succ, i64_w, i32_w]; rfl)
                             refine pure_ (i := 11) (N := some 184) (v := ?_) (a' := ?_) #[true, true, true, true, true, true, true, true, true, true, true, true, false, false, false, false, false, false, false, false, false, false, false, false, false, false, false, false, false, false, false, false, false, false] rfl rfl (any_of HT_.out (by kernel_rfl)) (fun _ _ _ h => h) (Or.inl ⟨by rfl, ?_⟩) ?_ ?_; rotate_left; (intro w'; go_simp; with_reducible rfl); rotate_left; (simp only [Act.put, List.setIfInBounds_toArray, List.set_cons_zero, List.set_cons_succ, i64_w, i32_w]; rfl)
                             refine pure_ (i := 12) (N := some 185) (v := ?_) (a' := ?_) #[true, true, true, true, true, true, true, true, true, true, true, true, true, false, false, false, false, false, false, false, false, false, false, false, false, false, false, false, false, false, false, false, false, false] rfl rfl (any_of HT_.out (by kernel_rfl)) (fun _ _ _ h => h) (Or.inl ⟨by rfl, ?_⟩) ?_ ?_; rotate_left; (intro w'; go_simp; with_reducible rfl); rotate_left; (simp only [Act.put, List.setIfInBounds_toArray, List.set_cons_zero, List.set_cons_succ, i64_w, i32_w]; rfl)
                             refine pure_ (i := 13) (N := some 186) (v := ?_) (a' := ?_) #[true, true, true, true, true, true, true, true, true, true, true, true, true, true, false, false, false, false, false, false, false, false, false, false, false, false, false, false, false, false, false, false, false, false] rfl rfl (any_of HT_.out (by kernel_rfl)) (fun _ _ _ h => h) (Or.inl ⟨by rfl, ?_⟩) ?_ ?_; rotate_left; (intro w'; go_simp; with_reducible rfl); rotate_left; (simp only [Act.put, List.setIfInBounds_toArray, List.set_cons_zero, List.set_cons_succ, i64_w, i32_w]; rfl)
                             refine pure_ (i := 14) (N := some 187) (v := ?_) (a' := ?_) #[true, true, true, true, true, true, true, true, true, true, true, true, true, true, true, false, false, false, false, false, false, false, false, false, false, false, false, false, false, false, false, false, false, false] rfl rfl (any_of HT_.out (by kernel_rfl)) (fun _ _ _ h => h) (Or.inl ⟨by rfl, ?_⟩) ?_ ?_; rotate_left; (intro w'; go_simp; with_reducible rfl); rotate_left; (simp only [Act.put, List.setIfInBounds_toArray, List.set_cons_zero, List.set_cons_succ, i64_w, i32_w]; rfl)
                             refine take_ (i := 15) (N := some 188) (v := ?_) (a' := ?_) #[true, true, true, true, true, true, true, true, true, true, true, true, true, true, true, true, false, false, false, false, false, false, false, false, false, false, false, false, false, false, false, false, false, false] rfl rfl (take_ofW HT_.out HW_.out (by kernel_rfl)) (fun _ _ _ h => h) (Or.inl ⟨by rfl, ?_⟩) hHeld ?_ ?_
                             rotate_left
                             ·rintro w' ⟨s0, s1, s2, s3⟩
                              go_simp
                              with_reducible rfl
                             rotate_left
                             ·simp only [Act.put, List.setIfInBounds_toArray, List.set_cons_zero, List.set_cons_succ, i64_w, i32_w]
                              rfl
                             refine pure_ (i := 16) (N := some 189) (v := ?_) (a' := ?_) #[true, true, true, true, true, true, true, true, true, true, true, true, true, true, true, true, true, false, false, false, false, false, false, false, false, false, false, false, false, false, false, false, false, false] rfl rfl (any_of HT_.out (by kernel_rfl)) (fun _ _ _ h => h) (Or.inl ⟨by rfl, ?_⟩) ?_ ?_; rotate_left; (intro w'; go_simp; with_reducible rfl); rotate_left; (simp only [Act.put, List.setIfInBounds_toArray, List.set_cons_zero, List.set_cons_succ, i64_w, i32_w]; rfl)
                             refine pure_ (i := 17) (N := some 190) (v := ?_) (a' := ?_) #[true, true, true, true, true, true, true, true, true, true, true, true, true, true, true, true, true, true, false, false, false, false, false, false, false, false, false, false, false, false, false, false, false, false] rfl rfl (any_of HT_.out (by kernel_rfl)) (fun _ _ _ h => h) (Or.inl ⟨by rfl, ?_⟩) ?_ ?_; rotate_left; (intro w'; go_simp; with_reducible rfl); rotate_left; (simp only [Act.put, List.setIfInBounds_toArray, List.set_cons_zero, List.set_cons_succ, i64_w, i32_w]; rfl)
                             refine pure_ (i := 18) (N := some 191) (v := undef) (a' := ?_) #[true, true, true, true, true, true, true, true, true, true, true, true, true, true, true, true, true, true, true, false, false, false, false, false, false, false, false, false, false, false, false, false, false, false] rfl rfl (any_of HT_.out (by kernel_rfl)) (fun _ _ _ h => h) (Or.inr ⟨by rfl, rfl⟩) ?_ ?_
                             rotate_left
                             ·simp only [Act.put, List.setIfInBounds_toArray, List.set_cons_zero, List.set_cons_succ, i64_w, i32_w]
                              rfl
                             refine pure_ (i := 19) (N := some 192) (v := undef) (a' := ?_) #[true, true, true, true, true, true, true, true, true, true, true, true, true, true, true, true, true, true, true, true, false, false, false, false, false, false, false, false, false, false, false, false, false, false] rfl rfl (any_of HT_.out (by kernel_rfl)) (fun _ _ _ h => h) (Or.inr ⟨by rfl, rfl⟩) ?_ ?_
                             rotate_left
                             ·simp only [Act.put, List.setIfInBounds_toArray, List.set_cons_zero, List.set_cons_succ, i64_w, i32_w]
                              rfl
                             refine pure_ (i := 20) (N := some 193) (v := undef) (a' := ?_) #[true, true, true, true, true, true, true, true, true, true, true, true, true, true, true, true, true, true, true, true, true, false, false, false, false, false, false, false, false, false, false, false, false, false] rfl rfl (any_of HT_.out (by kernel_rfl)) (fun _ _ _ h => h) (Or.inr ⟨by rfl, rfl⟩) ?_ ?_
                             rotate_left
                             ·simp only [Act.put, List.setIfInBounds_toArray, List.set_cons_zero, List.set_cons_succ, i64_w, i32_w]
                              rfl
                             refine pure_ (i := 21) (N := some 194) (v := undef) (a' := ?_) #[true, true, true, true, true, true, true, true, true, true, true, true, true, true, true, true, true, true, true, true, true, true, false, false, false, false, false, false, false, false, false, false, false, false] rfl rfl (any_of HT_.out (by kernel_rfl)) (fun _ _ _ h => h) (Or.inr ⟨by rfl, rfl⟩) ?_ ?_
                             rotate_left
                             ·simp only [Act.put, List.setIfInBounds_toArray, List.set_cons_zero, List.set_cons_succ, i64_w, i32_w]
                              rfl
                             refine pure_ (i := 22) (N := some 195) (v := undef) (a' := ?_) #[true, true, true, true, true, true, true, true, true, true, true, true, true, true, true, true, true, true, true, true, true, true, true, false, false, false, false, false, false, false, false, false, false, false] rfl rfl (any_of HT_.out (by kernel_rfl)) (fun _ _ _ h => h) (Or.inr ⟨by rfl, rfl⟩) ?_ ?_
                             rotate_left
                             ·simp only [Act.put, List.setIfInBounds_toArray, List.set_cons_zero, List.set_cons_succ, i64_w, i32_w]
                              rfl
                             refine pure_ (i := 23) (N := some 196) (v := undef) (a' := ?_) #[true, true, true, true, true, true, true, true, true, true, true, true, true, true, true, true, true, true, true, true, true, true, true, true, false, false, false, false, false, false, false, false, false, false] rfl rfl (any_of HT_.out (by kernel_rfl)) (fun _ _ _ h => h) (Or.inr ⟨by rfl, rfl⟩) ?_ ?_
                             rotate_left
                             ·simp only [Act.put, List.setIfInBounds_toArray, List.set_cons_zero, List.set_cons_succ, i64_w, i32_w]
                              rfl
                             refine pure_ (i := 24) (N := some 197) (v := undef) (a' := ?_) #[true, true, true, true, true, true, true, true, true, true, true, true, true, true, true, true, true, true, true, true, true, true, true, true, true, false, false, false, false, false, false, false, false, false] rfl rfl (any_of HT_.out (by kernel_rfl)) (fun _ _ _ h => h) (Or.inr ⟨by rfl, rfl⟩) ?_ ?_
                             rotate_left
                             ·simp only [Act.put, List.setIfInBounds_toArray, List.set_cons_zero, List.set_cons_succ, i64_w, i32_w]
                              rfl
                             refine pure_ (i := 25) (N := some 198) (v := undef) (a' := ?_) #[true, true, true, true, true, true, true, true, true, true, true, true, true, true, true, true, true, true, true, true, true, true, true, true, true, true, false, false, false, false, false, false, false, false] rfl rfl (any_of HT_.out (by kernel_rfl)) (fun _ _ _ h => h) (Or.inr ⟨by rfl, rfl⟩) ?_ ?_
                             rotate_left
                             ·simp only [Act.put, List.setIfInBounds_toArray, List.set_cons_zero, List.set_cons_succ, i64_w, i32_w]
                              rfl
                             refine pure_ (i := 26) (N := some 199) (v := undef) (a' := ?_) #[true, true, true, true, true, true, true, true, true, true, true, true, true, true, true, true, true, true, true, true, true, true, true, true, true, true, true, false, false, false, false, false, false, false] rfl rfl (any_of HT_.out (by kernel_rfl)) (fun _ _ _ h => h) (Or.inr ⟨by rfl, rfl⟩) ?_ ?_
                             rotate_left
                             ·simp only [Act.put, List.setIfInBounds_toArray, List.set_cons_zero, List.set_cons_succ, i64_w, i32_w]
                              rfl
                             refine pure_ (i := 27) (N := some 200) (v := undef) (a' := ?_) #[true, true, true, true, true, true, true, true, true, true, true, true, true, true, true, true, true, true, true, true, true, true, true, true, true, true, true, true, false, false, false, false, false, false] rfl rfl (any_of HT_.out (by kernel_rfl)) (fun _ _ _ h => h) (Or.inr ⟨by rfl, rfl⟩) ?_ ?_
                             rotate_left
                             ·simp only [Act.put, List.setIfInBounds_toArray, List.set_cons_zero, List.set_cons_succ, i64_w, i32_w]
                              rfl
                             refine pure_ (i := 28) (N := some 201) (v := undef) (a' := ?_) #[true, true, true, true, true, true, true, true, true, true, true, true, true, true, true, true, true, true, true, true, true, true, true, true, true, true, true, true, true, false, false, false, false, false] rfl rfl (any_of HT_.out (by kernel_rfl)) (fun _ _ _ h => h) (Or.inr ⟨by rfl, rfl⟩) ?_ ?_
                             rotate_left
                             ·simp only [Act.put, List.setIfInBounds_toArray, List.set_cons_zero, List.set_cons_succ, i64_w, i32_w]
                              rfl
                             refine pure_ (i := 29) (N := some 202) (v := undef) (a' := ?_) #[true, true, true, true, true, true, true, true, true, true, true, true, true, true, true, true, true, true, true, true, true, true, true, true, true, true, true, true, true, true, false, false, false, false] rfl rfl (any_of HT_.out (by kernel_rfl)) (fun _ _ _ h => h) (Or.inr ⟨by rfl, rfl⟩) ?_ ?_
                             rotate_left
                             ·simp only [Act.put, List.setIfInBounds_toArray, List.set_cons_zero, List.set_cons_succ, i64_w, i32_w]
                              rfl
                             refine pure_ (i := 30) (N := some 203) (v := undef) (a' := ?_) #[true, true, true, true, true, true, true, true, true, true, true, true, true, true, true, true, true, true, true, true, true, true, true, true, true, true, true, true, true, true, true, false, false, false] rfl rfl (any_of HT_.out (by kernel_rfl)) (fun _ _ _ h => h) (Or.inr ⟨by rfl, rfl⟩) ?_ ?_
                             rotate_left
                             ·simp only [Act.put, List.setIfInBounds_toArray, List.set_cons_zero, List.set_cons_succ, i64_w, i32_w]
                              rfl
                             refine pure_ (i := 31) (N := some 204) (v := undef) (a' := ?_) #[true, true, true, true, true, true, true, true, true, true, true, true, true, true, true, true, true, true, true, true, true, true, true, true, true, true, true, true, true, true, true, true, false, false] rfl rfl (any_of HT_.out (by kernel_rfl)) (fun _ _ _ h => h) (Or.inr ⟨by rfl, rfl⟩) ?_ ?_
                             rotate_left
                             ·simp only [Act.put, List.setIfInBounds_toArray, List.set_cons_zero, List.set_cons_succ, i64_w, i32_w]
                              rfl
                             refine pure_ (i := 32) (N := some 205) (v := ?_) (a' := ?_) #[true, true, true, true, true, true, true, true, true, true, true, true, true, true, true, true, true, true, true, true, true, true, true, true, true, true, true, true, true, true, true, true, true, false] rfl rfl (any_of HT_.out (by kernel_rfl)) (fun _ _ _ h => h) (Or.inl ⟨by rfl, ?_⟩) ?_ ?_; rotate_left; (intro w'; go_simp; with_reducible rfl); rotate_left; (simp only [Act.put, List.setIfInBounds_toArray, List.set_cons_zero, List.set_cons_succ, i64_w, i32_w]; rfl)
                             refine pure_ (i := 33) (N := some 206) (v := ?_) (a' := ?_) #[true, true, true, true, true, true, true, true, true, true, true, true, true, true, true, true, true, true, true, true, true, true, true, true, true, true, true, true, true, true, true, true, true, true] rfl rfl (any_of HT_.out (by kernel_rfl)) (fun _ _ _ h => h) (Or.inl ⟨by rfl, ?_⟩) ?_ ?_; rotate_left; (intro w'; go_simp; with_reducible rfl); rotate_left; (simp only [Act.put, List.setIfInBounds_toArray, List.set_cons_zero, List.set_cons_succ, i64_w, i32_w]; rfl)
                             refine done_ (done_of HT_.out (by kernel_rfl)) ?_
                             have hcz218_0 : w216.cell? ⟨gb230, 0, none⟩ = some (.int .i64 x231000_14) := (blk_cell BK230.out 0).trans rfl
                             have hcz218_1 : w216.cell? ⟨gb230, 1, none⟩ = some (.slice Ao213 x231001_14.length co213) := (blk_cell BK230.out 1).trans rfl
                             have hfz218_0 := blk_frozen BK230.out 0
                             have hfz218_1 := blk_frozen BK230.out 1
                             have hcz219_0 : w216.cell? ⟨gb220, 0, none⟩ = some (.int .i64 x221000_1) := (blk_cell BK220.out 0).trans rfl
                             have hcz219_1 : w216.cell? ⟨gb220, 1, none⟩ = some (.slice Ao16 x221001_1.length co16) := (blk_cell BK220.out 1).trans rfl
                             have hfz219_0 := blk_frozen BK220.out 0
                             have hfz219_1 := blk_frozen BK220.out 1
                             try go_wp2
                             go_roundg k5
                             case measure => have := HK1.out; have := HJ8.out; have := HJ14.out; have := HJ33.out; have := HK5.out; omega
                             case rel => exact ⟨(wrap64 (x7_1 + 1)), (x231000_14), (x231001_14), (.slice Ao213 x231001_14.length co213), (by first | rfl | (simp; done) | (simp [*]; done)), H', ⟨by have := HK1.out; have := HJ8.out; have := HJ14.out; have := HJ33.out; have := HK5.out; omega⟩, ⟨by (with_reducible repeat (first | apply Kd.R_alloc | apply Kd.R_drewN | apply Kd.R_drew)); exact Kd.R_mono (Kd.R_far (p := ⟨gb220, 1, none⟩) (Kd.R_far (p := ⟨gb220, 0, none⟩) (Kd.R_types HO_231001.out BK220.out (by decide)) (fun _ hk => hk.2) (.int .i64 x231000_14)) (fun _ hk => hk.2) (.slice Ao213 x231001_14.length co213)) (fun _ hk => trivial)⟩, ⟨by (with_reducible repeat (first | refine blk_drewN ?_ _ | refine blk_drew ?_ | refine blk_alloc ?_ _)); refine blk_put (cs := #[.int .i64 x231000_14, .slice Ao16 x221001_1.length co16]) ?_ 1 _ rfl; (with_reducible repeat (first | refine blk_drewN ?_ _ | refine blk_drew ?_ | refine blk_alloc ?_ _)); refine blk_put (cs := #[.int .i64 x221000_1, .slice Ao16 x221001_1.length co16]) ?_ 0 _ rfl; (with_reducible repeat (first | refine blk_drewN ?_ _ | refine blk_drew ?_ | refine blk_alloc ?_ _)); exact BK220.out⟩, ⟨by repeat (first | (with_reducible first | exact HB.out | apply below_alloc | apply pw_below_drewN | apply below_drew1 | refine below_set ?_ GE220.out | refine below_set ?_ GE230.out) | exact HB.out)⟩⟩
                           ·exact absurd rfl c210
                         ·rw [if_neg c209] at H
                          cases H
                       ·as_aux_lemma =>
                         replace c208 := Bool.eq_false_iff.mpr c208
                         subst c208
                         have H1 : (if (false = true) then (caduceuslaw14_ViewRises.l0 k5 l1 (wrap64 (x7_1 + 1)) x231000_14 x231001_14) else (if (t248.length : Int) = 1 then (if 0 < (t248.length : Int) then (if (rd t248 0) = ((rd_T51 l1 x7_1).f0) then (caduceuslaw14_ViewRises.l0 k5 l1 (wrap64 (x7_1 + 1)) x231000_14 x231001_14) else none) else (none)) else none)) = some r := by rw [if_neg (show ¬ (false = true) by decide)] at H; exact H
                         clear H
                         have H := H1
                         clear H1
                         by_cases c253 : (false = true)
                         ·exact absurd c253 (by decide)
                         ·as_aux_lemma =>
                           clear c253
                           have H1 : (if (t248.length : Int) = 1 then (if 0 < (t248.length : Int) then (if (rd t248 0) = ((rd_T51 l1 x7_1).f0) then (caduceuslaw14_ViewRises.l0 k5 l1 (wrap64 (x7_1 + 1)) x231000_14 x231001_14) else none) else (none)) else none) = some r := by rw [if_neg (show ¬ (false = true) by decide)] at H; exact H
                           clear H
                           have H := H1
                           clear H1
                           by_cases c262 : (t248.length : Int) = 1
                           ·as_aux_lemma =>
                             rw [if_pos c262] at H
                             have c262b0 : ((t248.length : Int) == 1) = true := beq_iff_eq.mpr c262
                             have c262b1 : ((t248.length : Int) != 1) = false := bne_eq_false_iff_eq.mpr c262
                             clear c262
                             by_cases c263 : 0 < (t248.length : Int)
                             ·as_aux_lemma =>
                               rw [if_pos c263] at H
                               have c263b0 : decide (0 < (t248.length : Int)) = true := decide_eq_true c263
                               have c263b1 : decide (0 < t248.length) = true := decide_eq_true (by omega)
                               clear c263
                               by_cases c264 : (rd t248 0) = ((rd_T51 l1 x7_1).f0)
                               ·as_aux_lemma =>
                                 rw [if_pos c264] at H
                                 have c264b0 : ((rd t248 0) == ((rd_T51 l1 x7_1).f0)) = true := beq_iff_eq.mpr c264
                                 have c264b1 : ((rd t248 0) != ((rd_T51 l1 x7_1).f0)) = false := bne_eq_false_iff_eq.mpr c264
                                 clear c264
                                 have H' := Aside0.mk H
                                 clear H
                                 have hnb265 := NB230_220.out
                                 have hnc265 := NB220_230.out
                                 have hcz266_0 : wr.cell? ⟨gb230, 0, none⟩ = some (.int .i64 x231000_14) := (blk_cell BK230.out 0).trans rfl
                                 have hcz266_1 : wr.cell? ⟨gb230, 1, none⟩ = some (u231001) := (blk_cell BK230.out 1).trans rfl
                                 have hfz266_0 := blk_frozen BK230.out 0
                                 have hfz266_1 := blk_frozen BK230.out 1
                                 obtain ⟨Ao267, co267, eo267⟩ := Kd.R_slice HO_231001.out
                                 subst eo267
                                 have hcz268_0 : wr.cell? ⟨gb220, 0, none⟩ = some (.int .i64 x221000_1) := (blk_cell BK220.out 0).trans rfl
                                 have hcz268_1 : wr.cell? ⟨gb220, 1, none⟩ = some (.slice Ao16 x221001_1.length co16) := (blk_cell BK220.out 1).trans rfl
                                 have hfz268_0 := blk_frozen BK220.out 0
                                 have hfz268_1 := blk_frozen BK220.out 1
                                 try go_wp2_with (first | ((with_reducible refine gate_callee (f := 25) rfl ?_); refine goesL_ (some 172) rfl rfl Try.func25 (by kernel_rfl) rfl #[.agg #[.int .i64 x221000_1, .slice Ao16 x221001_1.length co16], .agg #[.int .i64 x231000_14, .slice Ao267 x231001_14.length co267]] rfl (by (try simp only [List.map_toArray, List.map_cons, List.map_nil]); first | done | rfl | (simp only [List.length_drop, List.length_take]; rfl)) ?_; (with_reducible refine (view_Gone.calls k5 x221000_1 _ _ x221001_1 x231000_14 _ _ x231001_14 t248 _ ?side1 ?side2 ?side3 ?side4 A204.out).mono ?_); (case side1 => repeat (first | exact (Kd.R_reads' HO_221001.out).2.2 | (with_reducible refine Kd.C_alloc ?_ _) | (with_reducible refine Kd.C_drewN ?_ _) | (with_reducible refine Kd.C_drew ?_))); (case side2 => exact (Kd.R_reads' HO_221001.out).2.1); (case side3 => repeat (first | exact (Kd.R_reads' HO_231001.out).2.2 | (with_reducible refine Kd.C_alloc ?_ _) | (with_reducible refine Kd.C_drewN ?_ _) | (with_reducible refine Kd.C_drew ?_))); (case side4 => exact (Kd.R_reads' HO_231001.out).2.1); rintro e w269 ⟨v249, rfl, ho0, hb⟩; refine ⟨_, rfl, ?_⟩; have n0_ := Aside0.mk (Kd.R_below (by (with_reducible repeat (first | apply Kd.R_alloc | apply Kd.R_drewN | apply Kd.R_drew)); exact HO_221001.out) hb); have n1_ := Aside0.mk (Kd.R_below (by (with_reducible repeat (first | apply Kd.R_alloc | apply Kd.R_drewN | apply Kd.R_drew)); exact HO_231001.out) hb); have n2_ := Aside0.mk (Kd.R_lower ho0 (below_size (by repeat (first | (with_reducible first | exact HB.out | apply below_alloc | apply pw_below_drewN | apply below_drew1 | refine below_set ?_ GE220.out | refine below_set ?_ GE230.out) | exact HB.out)))); have n3_ := Aside0.mk (blk_below (g := gb220) (o := .cells #[.int .i64 x221000_1, .slice Ao16 x221001_1.length co16] 24 (0, 0)) (by (with_reducible repeat (first | refine blk_drewN ?_ _ | refine blk_drew ?_ | refine blk_alloc ?_ _)); exact BK220.out) hb); have n4_ := Aside0.mk (blk_below (g := gb230) (o := .cells #[.int .i64 x231000_14, .slice Ao267 x231001_14.length co267] 24 (0, 0)) (by (with_reducible repeat (first | refine blk_drewN ?_ _ | refine blk_drew ?_ | refine blk_alloc ?_ _)); exact BK230.out) hb); have n5_ := Aside0.mk (below_step (by repeat (first | (with_reducible first | exact HB.out | apply below_alloc | apply pw_below_drewN | apply below_drew1 | refine below_set ?_ GE220.out | refine below_set ?_ GE230.out) | exact HB.out)) hb); clear HO_221001; clear HO_231001; clear BK220; clear BK230; clear HB; have HO_221001 := n0_; have HO_231001 := n1_; have HO250 := n2_; have BK220 := n3_; have BK230 := n4_; have HB := n5_; clear n0_ n1_ n2_ n3_ n4_ n5_; (try clear hb); (try clear hb2); (try clear hk); (try clear hi); (try clear ho0)))
                                 have n0_ := Aside0.mk (Kd.R_drew HO_221001.out)
                                 have n1_ := Aside0.mk (Kd.R_drew HO_231001.out)
                                 have n2_ := Aside0.mk (Kd.R_drew HO250.out)
                                 have n3_ := Aside0.mk (blk_drew BK220.out)
                                 have n4_ := Aside0.mk (blk_drew BK230.out)
                                 have n5_ := Aside0.mk (below_drew1 HB.out)
                                 clear HO_221001
                                 clear HO_231001
                                 clear HO250
                                 clear BK220
                                 clear BK230
                                 clear HB
                                 have HO_221001 := n0_
                                 have HO_231001 := n1_
                                 have HO250 := n2_
                                 have BK220 := n3_
                                 have BK230 := n4_
                                 have HB := n5_
                                 clear n0_ n1_ n2_ n3_ n4_ n5_
                                 have p251 : 0 ≤ (x7_1 : Int) := of_decide_eq_true (by first | (with_reducible assumption) | assumption)
                                 have q251 : x7_1 < (l1.length : Int) := of_decide_eq_true (by first | (with_reducible assumption) | assumption)
                                 obtain ⟨ad251, e251, hx251_0, hx251_1⟩ := at_T51 HR1.out x7_1 p251 q251
                                 have hw251_1 := hx251_1
                                 have hw251_0 := hx251_0
                                 (try rw [← Nbq207.out] at hx251_1)
                                 (try rw [← Nbq207.out] at hw251_1)
                                 obtain rfl : ad224 = ad251 := (by injection e251)
                                 replace hx251_0 := (HB.out.cell (World.block_lt_of_cell? w _ hx251_0)).trans hx251_0
                                 replace hx251_1 := (HB.out.cell (World.block_lt_of_cell? w _ hx251_1)).trans hx251_1
                                 replace p251 := eq_true p251
                                 replace q251 := eq_true q251
                                 have p255 : 0 ≤ (x7_1 : Int) := of_decide_eq_true (by first | (with_reducible assumption) | assumption)
                                 have q255 : x7_1 < (l1.length : Int) := of_decide_eq_true (by first | (with_reducible assumption) | assumption)
                                 obtain ⟨ad255, e255, hx255_0, hx255_1⟩ := at_T51 HR1.out x7_1 p255 q255
                                 have hw255_1 := hx255_1
                                 have hw255_0 := hx255_0
                                 (try rw [← Nbq207.out] at hx255_1)
                                 (try rw [← Nbq207.out] at hw255_1)
                                 obtain rfl : ad224 = ad255 := (by injection e255)
                                 replace hx255_0 := (HB.out.cell (World.block_lt_of_cell? w _ hx255_0)).trans hx255_0
                                 replace hx255_1 := (HB.out.cell (World.block_lt_of_cell? w _ hx255_1)).trans hx255_1
                                 replace p255 := eq_true p255
                                 replace q255 := eq_true q255
                                 obtain ⟨Ao271, co271, eo271⟩ := Kd.R_slice HO250.out
                                 (first | subst eo271 | (injection eo271 with f1_ f2_ f3_; have f4_ := f1_.symm; have f5_ := f3_.symm; clear f1_ f2_ f3_; subst f4_; subst f5_))
                                 have p256 : 0 ≤ (0 : Int) := (by omega)
                                 have q256 : 0 < (t248.length : Int) := of_decide_eq_true (by first | (with_reducible assumption) | assumption)
                                 obtain ⟨ad256, e256, hx256_0⟩ := Kd.at_int (Kd.R_reads' HO250.out).2.2 0 p256 q256
                                 cases e256
                                 have qi256 : (0 < t248.length) = True := eq_true (by omega)
                                 (try rw [show ((0 : Int)).toNat = 0 from rfl] at hx256_0)
                                 (try rw [Addr.add_zero'] at hx256_0)
                                 replace p256 := eq_true p256
                                 replace q256 := eq_true q256
                                 have p257 : 0 ≤ (x7_1 : Int) := of_decide_eq_true (by first | (with_reducible assumption) | assumption)
                                 have q257 : x7_1 < (l1.length : Int) := of_decide_eq_true (by first | (with_reducible assumption) | assumption)
                                 obtain ⟨ad257, e257, hx257_0, hx257_1⟩ := at_T51 HR1.out x7_1 p257 q257
                                 have hw257_1 := hx257_1
                                 have hw257_0 := hx257_0
                                 (try rw [← Nbq207.out] at hx257_1)
                                 (try rw [← Nbq207.out] at hw257_1)
                                 obtain rfl : ad224 = ad257 := (by injection e257)
                                 replace hx257_0 := (HB.out.cell (World.block_lt_of_cell? w _ hx257_0)).trans hx257_0
                                 replace hx257_1 := (HB.out.cell (World.block_lt_of_cell? w _ hx257_1)).trans hx257_1
                                 replace p257 := eq_true p257
                                 replace q257 := eq_true q257
                                 refine start_ (n := 34) (S := fun w' => w'.cell? (ad224.add ((x7_1).toNat * 2)) = some (.int .i64 ((rd_T51 l1 x7_1).f0)) ∧ w'.cell? ⟨(ad224.add ((x7_1).toNat * 2)).block, (ad224.add ((x7_1).toNat * 2)).off + 1, none⟩ = some (.bool false) ∧ w'.cell? (ad224.add ((x7_1).toNat * 2)) = some (.int .i64 ((rd_T51 l1 x7_1).f0)) ∧ w'.cell? ⟨(ad224.add ((x7_1).toNat * 2)).block, (ad224.add ((x7_1).toNat * 2)).off + 1, none⟩ = some (.bool (false)) ∧ w'.cell? ad256 = some (.int .i64 (rd t248 0)) ∧ w'.cell? (ad224.add ((x7_1).toNat * 2)) = some (.int .i64 ((rd_T51 l1 x7_1).f0)) ∧ w'.cell? ⟨(ad224.add ((x7_1).toNat * 2)).block, (ad224.add ((x7_1).toNat * 2)).off + 1, none⟩ = some (.bool (false))) (ds := []) #[false, false, false, false, false, false, false, false, false, false, false, false, false, false, false, false, false, false, false, false, false, false, false, false, false, false, false, false, false, false, false, false, false, false] (by kernel_rfl) rfl rfl ⟨((HB.out.cell (World.block_lt_of_cell? w _ hw251_0)).trans hw251_0), ((HB.out.cell (World.block_lt_of_cell? w _ hw251_1)).trans hw251_1), ((HB.out.cell (World.block_lt_of_cell? w _ hw255_0)).trans hw255_0), ((HB.out.cell (World.block_lt_of_cell? w _ hw255_1)).trans hw255_1), hx256_0, ((HB.out.cell (World.block_lt_of_cell? w _ hw257_0)).trans hw257_0), ((HB.out.cell (World.block_lt_of_cell? w _ hw257_1)).trans hw257_1)⟩ (fun hHeld => ?_); refine with_tabW caduceuslaw14_ViewRises.tab20 caduceuslaw14_ViewRises.bits20 (fun HT_ HW_ => ?_)
                                 generalize w269.drew = w270 at HO_221001 HO_231001 HO250 BK220 BK230 HB hx251_0 hx251_1 hx255_0 hx255_1 hx256_0 hx257_0 hx257_1 hHeld ⊢
                                 refine pure_ (i := 0) (N := some 173) (v := ?_) (a' := ?_) #[true, false, false, false, false, false, false, false, false, false, false, false, false, false, false, false, false, false, false, false, false, false, false, false, false, false, false, false, false, false, false, false, false, false] rfl rfl (any_of HT_.out (by kernel_rfl)) (fun _ _ _ h => h) (Or.inl ⟨by rfl, ?_⟩) ?_ ?_; rotate_left; (intro w'; go_simp; with_reducible rfl); rotate_left; (simp only [Act.put, List.setIfInBounds_toArray, List.set_cons_zero, List.set_cons_succ, i64_w, i32_w]; rfl)
                                 refine pure_ (i := 1) (N := some 174) (v := ?_) (a' := ?_) #[true, true, false, false, false, false, false, false, false, false, false, false, false, false, false, false, false, false, false, false, false, false, false, false, false, false, false, false, false, false, false, false, false, false] rfl rfl (any_of HT_.out (by kernel_rfl)) (fun _ _ _ h => h) (Or.inl ⟨by rfl, ?_⟩) ?_ ?_; rotate_left; (intro w'; go_simp; with_reducible rfl); rotate_left; (simp only [Act.put, List.setIfInBounds_toArray, List.set_cons_zero, List.set_cons_succ, i64_w, i32_w]; rfl)
                                 refine pure_ (i := 2) (N := some 175) (v := ?_) (a' := ?_) #[true, true, true, false, false, false, false, false, false, false, false, false, false, false, false, false, false, false, false, false, false, false, false, false, false, false, false, false, false, false, false, false, false, false] rfl rfl (any_of HT_.out (by kernel_rfl)) (fun _ _ _ h => h) (Or.inl ⟨by rfl, ?_⟩) ?_ ?_; rotate_left; (intro w'; go_simp; with_reducible rfl); rotate_left; (simp only [Act.put, List.setIfInBounds_toArray, List.set_cons_zero, List.set_cons_succ, i64_w, i32_w]; rfl)
                                 refine pure_ (i := 3) (N := some 176) (v := ?_) (a' := ?_) #[true, true, true, true, false, false, false, false, false, false, false, false, false, false, false, false, false, false, false, false, false, false, false, false, false, false, false, false, false, false, false, false, false, false] rfl rfl (any_of HT_.out (by kernel_rfl)) (fun _ _ _ h => h) (Or.inl ⟨by rfl, ?_⟩) ?_ ?_; rotate_left; (intro w'; go_simp; with_reducible rfl); rotate_left; (simp only [Act.put, List.setIfInBounds_toArray, List.set_cons_zero, List.set_cons_succ, i64_w, i32_w]; rfl)
                                 refine take_ (i := 4) (N := some 177) (v := ?_) (a' := ?_) #[true, true, true, true, true, false, false, false, false, false, false, false, false, false, false, false, false, false, false, false, false, false, false, false, false, false, false, false, false, false, false, false, false, false] rfl rfl (take_ofW HT_.out HW_.out (by kernel_rfl)) (fun _ _ _ h => h) (Or.inl ⟨by rfl, ?_⟩) hHeld ?_ ?_
                                 rotate_left
                                 ·rintro w' ⟨s0, s1, s2, s3, s4, s5, s6⟩
                                  go_simp
                                  with_reducible rfl
                                 rotate_left
                                 ·simp only [Act.put, List.setIfInBounds_toArray, List.set_cons_zero, List.set_cons_succ, i64_w, i32_w]
                                  rfl
                                 refine pure_ (i := 5) (N := some 178) (v := ?_) (a' := ?_) #[true, true, true, true, true, true, false, false, false, false, false, false, false, false, false, false, false, false, false, false, false, false, false, false, false, false, false, false, false, false, false, false, false, false] rfl rfl (any_of HT_.out (by kernel_rfl)) (fun _ _ _ h => h) (Or.inl ⟨by rfl, ?_⟩) ?_ ?_; rotate_left; (intro w'; go_simp; with_reducible rfl); rotate_left; (simp only [Act.put, List.setIfInBounds_toArray, List.set_cons_zero, List.set_cons_succ, i64_w, i32_w]; rfl)
                                 refine pure_ (i := 6) (N := some 179) (v := undef) (a' := ?_) #[true, true, true, true, true, true, true, false, false, false, false, false, false, false, false, false, false, false, false, false, false, false, false, false, false, false, false, false, false, false, false, false, false, false] rfl rfl (any_of HT_.out (by kernel_rfl)) (fun _ _ _ h => h) (Or.inr ⟨by rfl, rfl⟩) ?_ ?_
                                 rotate_left
                                 ·simp only [Act.put, List.setIfInBounds_toArray, List.set_cons_zero, List.set_cons_succ, i64_w, i32_w]
                                  rfl
                                 refine pure_ (i := 7) (N := some 180) (v := undef) (a' := ?_) #[true, true, true, true, true, true, true, true, false, false, false, false, false, false, false, false, false, false, false, false, false, false, false, false, false, false, false, false, false, false, false, false, false, false] rfl rfl (any_of HT_.out (by kernel_rfl)) (fun _ _ _ h => h) (Or.inr ⟨by rfl, rfl⟩) ?_ ?_
                                 rotate_left
                                 ·simp only [Act.put, List.setIfInBounds_toArray, List.set_cons_zero, List.set_cons_succ, i64_w, i32_w]
                                  rfl
                                 refine pure_ (i := 8) (N := some 181) (v := undef) (a' := ?_) #[true, true, true, true, true, true, true, true, true, false, false, false, false, false, false, false, false, false, false, false, false, false, false, false, false, false, false, false, false, false, false, false, false, false] rfl rfl (any_of HT_.out (by kernel_rfl)) (fun _ _ _ h => h) (Or.inr ⟨by rfl, rfl⟩) ?_ ?_
                                 rotate_left
                                 ·simp only [Act.put, List.setIfInBounds_toArray, List.set_cons_zero, List.set_cons_succ, i64_w, i32_w]
                                  rfl
                                 refine pure_ (i := 9) (N := some 182) (v := ?_) (a' := ?_) #[true, true, true, true, true, true, true, true, true, true, false, false, false, false, false, false, false, false, false, false, false, false, false, false, false, false, false, false, false, false, false, false, false, false] rfl rfl (any_of HT_.out (by kernel_rfl)) (fun _ _ _ h => h) (Or.inl ⟨by rfl, ?_⟩) ?_ ?_; rotate_left; (intro w'; go_simp; with_reducible rfl); rotate_left; (simp only [Act.put, List.setIfInBounds_toArray, List.set_cons_zero, List.set_cons_succ, i64_w, i32_w]; rfl)
                                 refine pure_ (i := 10) (N := some 183) (v := ?_) (a' := ?_) #[true, true, true, true, true, true, true, true, true, true, true, false, false, false, false, false, false, false, false, false, false, false, false, false, false, false, false, false, false, false, false, false, false, false] rfl rfl (any_of HT_.out (by kernel_rfl)) (fun _ _ _ h => h) (Or.inl ⟨by rfl, ?_⟩) ?_ ?_; rotate_left; (intro w'; go_simp; with_reducible rfl); rotate_left; (simp only [Act.put, List.setIfInBounds_toArray, List.set_cons_zero, List.set_cons_succ, i64_w, i32_w]; rfl)
                                 refine pure_ (i := 11) (N := some 184) (v := ?_) (a' := ?_) #[true, true, true, true, true, true, true, true, true, true, true, true, false, false, false, false, false, false, false, false, false, false, false, false, false, false, false, false, false, false, false, false, false, false] rfl rfl (any_of HT_.out (by kernel_rfl)) (fun _ _ _ h => h) (Or.inl ⟨by rfl, ?_⟩) ?_ ?_; rotate_left; (intro w'; go_simp; with_reducible rfl); rotate_left; (simp only [Act.put, List.setIfInBounds_toArray, List.set_cons_zero, List.set_cons_succ, i64_w, i32_w]; rfl)
                                 refine pure_ (i := 12) (N := some 185) (v := ?_) (a' := ?_) #[true, true, true, true, true, true, true, true, true, true, true, true, true, false, false, false, false, false, false, false, false, false, false, false, false, false, false, false, false, false, false, false, false, false] rfl rfl (any_of HT_.out (by kernel_rfl)) (fun _ _ _ h => h) (Or.inl ⟨by rfl, ?_⟩) ?_ ?_; rotate_left; (intro w'; go_simp; with_reducible rfl); rotate_left; (simp only [Act.put, List.setIfInBounds_toArray, List.set_cons_zero, List.set_cons_succ, i64_w, i32_w]; rfl)
                                 refine pure_ (i := 13) (N := some 186) (v := ?_) (a' := ?_) #[true, true, true, true, true, true, true, true, true, true, true, true, true, true, false, false, false, false, false, false, false, false, false, false, false, false, false, false, false, false, false, false, false, false] rfl rfl (any_of HT_.out (by kernel_rfl)) (fun _ _ _ h => h) (Or.inl ⟨by rfl, ?_⟩) ?_ ?_; rotate_left; (intro w'; go_simp; with_reducible rfl); rotate_left; (simp only [Act.put, List.setIfInBounds_toArray, List.set_cons_zero, List.set_cons_succ, i64_w, i32_w]; rfl)
                                 refine pure_ (i := 14) (N := some 187) (v := ?_) (a' := ?_) #[true, true, true, true, true, true, true, true, true, true, true, true, true, true, true, false, false, false, false, false, false, false, false, false, false, false, false, false, false, false, false, false, false, false] rfl rfl (any_of HT_.out (by kernel_rfl)) (fun _ _ _ h => h) (Or.inl ⟨by rfl, ?_⟩) ?_ ?_; rotate_left; (intro w'; go_simp; with_reducible rfl); rotate_left; (simp only [Act.put, List.setIfInBounds_toArray, List.set_cons_zero, List.set_cons_succ, i64_w, i32_w]; rfl)
                                 refine take_ (i := 15) (N := some 188) (v := ?_) (a' := ?_) #[true, true, true, true, true, true, true, true, true, true, true, true, true, true, true, true, false, false, false, false, false, false, false, false, false, false, false, false, false, false, false, false, false, false] rfl rfl (take_ofW HT_.out HW_.out (by kernel_rfl)) (fun _ _ _ h => h) (Or.inl ⟨by rfl, ?_⟩) hHeld ?_ ?_
                                 rotate_left
                                 ·rintro w' ⟨s0, s1, s2, s3, s4, s5, s6⟩
                                  go_simp
                                  with_reducible rfl
                                 rotate_left
                                 ·simp only [Act.put, List.setIfInBounds_toArray, List.set_cons_zero, List.set_cons_succ, i64_w, i32_w]
                                  rfl
                                 refine pure_ (i := 16) (N := some 189) (v := ?_) (a' := ?_) #[true, true, true, true, true, true, true, true, true, true, true, true, true, true, true, true, true, false, false, false, false, false, false, false, false, false, false, false, false, false, false, false, false, false] rfl rfl (any_of HT_.out (by kernel_rfl)) (fun _ _ _ h => h) (Or.inl ⟨by rfl, ?_⟩) ?_ ?_; rotate_left; (intro w'; go_simp; with_reducible rfl); rotate_left; (simp only [Act.put, List.setIfInBounds_toArray, List.set_cons_zero, List.set_cons_succ, i64_w, i32_w]; rfl)
                                 refine pure_ (i := 17) (N := some 190) (v := ?_) (a' := ?_) #[true, true, true, true, true, true, true, true, true, true, true, true, true, true, true, true, true, true, false, false, false, false, false, false, false, false, false, false, false, false, false, false, false, false] rfl rfl (any_of HT_.out (by kernel_rfl)) (fun _ _ _ h => h) (Or.inl ⟨by rfl, ?_⟩) ?_ ?_; rotate_left; (intro w'; go_simp; with_reducible rfl); rotate_left; (simp only [Act.put, List.setIfInBounds_toArray, List.set_cons_zero, List.set_cons_succ, i64_w, i32_w]; rfl)
                                 refine pure_ (i := 18) (N := some 191) (v := ?_) (a' := ?_) #[true, true, true, true, true, true, true, true, true, true, true, true, true, true, true, true, true, true, true, false, false, false, false, false, false, false, false, false, false, false, false, false, false, false] rfl rfl (any_of HT_.out (by kernel_rfl)) (fun _ _ _ h => h) (Or.inl ⟨by rfl, ?_⟩) ?_ ?_; rotate_left; (intro w'; go_simp; with_reducible rfl); rotate_left; (simp only [Act.put, List.setIfInBounds_toArray, List.set_cons_zero, List.set_cons_succ, i64_w, i32_w]; rfl)
                                 refine pure_ (i := 19) (N := some 192) (v := ?_) (a' := ?_) #[true, true, true, true, true, true, true, true, true, true, true, true, true, true, true, true, true, true, true, true, false, false, false, false, false, false, false, false, false, false, false, false, false, false] rfl rfl (any_of HT_.out (by kernel_rfl)) (fun _ _ _ h => h) (Or.inl ⟨by rfl, ?_⟩) ?_ ?_; rotate_left; (intro w'; go_simp; with_reducible rfl); rotate_left; (simp only [Act.put, List.setIfInBounds_toArray, List.set_cons_zero, List.set_cons_succ, i64_w, i32_w]; rfl)
                                 refine pure_ (i := 20) (N := some 193) (v := ?_) (a' := ?_) #[true, true, true, true, true, true, true, true, true, true, true, true, true, true, true, true, true, true, true, true, true, false, false, false, false, false, false, false, false, false, false, false, false, false] rfl rfl (any_of HT_.out (by kernel_rfl)) (fun _ _ _ h => h) (Or.inl ⟨by rfl, ?_⟩) ?_ ?_; rotate_left; (intro w'; go_simp; with_reducible rfl); rotate_left; (simp only [Act.put, List.setIfInBounds_toArray, List.set_cons_zero, List.set_cons_succ, i64_w, i32_w]; rfl)
                                 refine pure_ (i := 21) (N := some 194) (v := ?_) (a' := ?_) #[true, true, true, true, true, true, true, true, true, true, true, true, true, true, true, true, true, true, true, true, true, true, false, false, false, false, false, false, false, false, false, false, false, false] rfl rfl (any_of HT_.out (by kernel_rfl)) (fun _ _ _ h => h) (Or.inl ⟨by rfl, ?_⟩) ?_ ?_; rotate_left; (intro w'; go_simp; with_reducible rfl); rotate_left; (simp only [Act.put, List.setIfInBounds_toArray, List.set_cons_zero, List.set_cons_succ, i64_w, i32_w]; rfl)
                                 refine pure_ (i := 22) (N := some 195) (v := ?_) (a' := ?_) #[true, true, true, true, true, true, true, true, true, true, true, true, true, true, true, true, true, true, true, true, true, true, true, false, false, false, false, false, false, false, false, false, false, false] rfl rfl (any_of HT_.out (by kernel_rfl)) (fun _ _ _ h => h) (Or.inl ⟨by rfl, ?_⟩) ?_ ?_; rotate_left; (intro w'; go_simp; with_reducible rfl); rotate_left; (simp only [Act.put, List.setIfInBounds_toArray, List.set_cons_zero, List.set_cons_succ, i64_w, i32_w]; rfl)
                                 refine pure_ (i := 23) (N := some 196) (v := ?_) (a' := ?_) #[true, true, true, true, true, true, true, true, true, true, true, true, true, true, true, true, true, true, true, true, true, true, true, true, false, false, false, false, false, false, false, false, false, false] rfl rfl (any_of HT_.out (by kernel_rfl)) (fun _ _ _ h => h) (Or.inl ⟨by rfl, ?_⟩) ?_ ?_; rotate_left; (intro w'; go_simp; with_reducible rfl); rotate_left; (simp only [Act.put, List.setIfInBounds_toArray, List.set_cons_zero, List.set_cons_succ, i64_w, i32_w]; rfl)
                                 refine pure_ (i := 25) (N := some 198) (v := ?_) (a' := ?_) #[true, true, true, true, true, true, true, true, true, true, true, true, true, true, true, true, true, true, true, true, true, true, true, true, false, true, false, false, false, false, false, false, false, false] rfl rfl (any_of HT_.out (by kernel_rfl)) (fun _ _ _ h => h) (Or.inl ⟨by rfl, ?_⟩) ?_ ?_; rotate_left; (intro w'; go_simp; with_reducible rfl); rotate_left; (simp only [Act.put, List.setIfInBounds_toArray, List.set_cons_zero, List.set_cons_succ, i64_w, i32_w]; rfl)
                                 refine pure_ (i := 26) (N := some 199) (v := ?_) (a' := ?_) #[true, true, true, true, true, true, true, true, true, true, true, true, true, true, true, true, true, true, true, true, true, true, true, true, false, true, true, false, false, false, false, false, false, false] rfl rfl (any_of HT_.out (by kernel_rfl)) (fun _ _ _ h => h) (Or.inl ⟨by rfl, ?_⟩) ?_ ?_; rotate_left; (intro w'; go_simp; with_reducible rfl); rotate_left; (simp only [Act.put, List.setIfInBounds_toArray, List.set_cons_zero, List.set_cons_succ, i64_w, i32_w]; rfl)
                                 refine pure_ (i := 27) (N := some 200) (v := ?_) (a' := ?_) #[true, true, true, true, true, true, true, true, true, true, true, true, true, true, true, true, true, true, true, true, true, true, true, true, false, true, true, true, false, false, false, false, false, false] rfl rfl (any_of HT_.out (by kernel_rfl)) (fun _ _ _ h => h) (Or.inl ⟨by rfl, ?_⟩) ?_ ?_; rotate_left; (intro w'; go_simp; with_reducible rfl); rotate_left; (simp only [Act.put, List.setIfInBounds_toArray, List.set_cons_zero, List.set_cons_succ, i64_w, i32_w]; rfl)
                                 refine pure_ (i := 28) (N := some 201) (v := ?_) (a' := ?_) #[true, true, true, true, true, true, true, true, true, true, true, true, true, true, true, true, true, true, true, true, true, true, true, true, false, true, true, true, true, false, false, false, false, false] rfl rfl (any_of HT_.out (by kernel_rfl)) (fun _ _ _ h => h) (Or.inl ⟨by rfl, ?_⟩) ?_ ?_; rotate_left; (intro w'; go_simp; with_reducible rfl); rotate_left; (simp only [Act.put, List.setIfInBounds_toArray, List.set_cons_zero, List.set_cons_succ, i64_w, i32_w]; rfl)
                                 refine take_ (i := 24) (N := some 197) (v := ?_) (a' := ?_) #[true, true, true, true, true, true, true, true, true, true, true, true, true, true, true, true, true, true, true, true, true, true, true, true, true, true, true, true, true, false, false, false, false, false] rfl rfl (take_ofW HT_.out HW_.out (by kernel_rfl)) (fun _ _ _ h => h) (Or.inl ⟨by rfl, ?_⟩) hHeld ?_ ?_
                                 rotate_left
                                 ·rintro w' ⟨s0, s1, s2, s3, s4, s5, s6⟩
                                  go_simp
                                  with_reducible rfl
                                 rotate_left
                                 ·simp only [Act.put, List.setIfInBounds_toArray, List.set_cons_zero, List.set_cons_succ, i64_w, i32_w]
                                  rfl
                                 refine take_ (i := 29) (N := some 202) (v := ?_) (a' := ?_) #[true, true, true, true, true, true, true, true, true, true, true, true, true, true, true, true, true, true, true, true, true, true, true, true, true, true, true, true, true, true, false, false, false, false] rfl rfl (take_ofW HT_.out HW_.out (by kernel_rfl)) (fun _ _ _ h => h) (Or.inl ⟨by rfl, ?_⟩) hHeld ?_ ?_
                                 rotate_left
                                 ·rintro w' ⟨s0, s1, s2, s3, s4, s5, s6⟩
                                  go_simp
                                  with_reducible rfl
                                 rotate_left
                                 ·simp only [Act.put, List.setIfInBounds_toArray, List.set_cons_zero, List.set_cons_succ, i64_w, i32_w]
                                  rfl
                                 refine pure_ (i := 30) (N := some 203) (v := ?_) (a' := ?_) #[true, true, true, true, true, true, true, true, true, true, true, true, true, true, true, true, true, true, true, true, true, true, true, true, true, true, true, true, true, true, true, false, false, false] rfl rfl (any_of HT_.out (by kernel_rfl)) (fun _ _ _ h => h) (Or.inl ⟨by rfl, ?_⟩) ?_ ?_; rotate_left; (intro w'; go_simp; with_reducible rfl); rotate_left; (simp only [Act.put, List.setIfInBounds_toArray, List.set_cons_zero, List.set_cons_succ, i64_w, i32_w]; rfl)
                                 refine pure_ (i := 31) (N := some 204) (v := ?_) (a' := ?_) #[true, true, true, true, true, true, true, true, true, true, true, true, true, true, true, true, true, true, true, true, true, true, true, true, true, true, true, true, true, true, true, true, false, false] rfl rfl (any_of HT_.out (by kernel_rfl)) (fun _ _ _ h => h) (Or.inl ⟨by rfl, ?_⟩) ?_ ?_; rotate_left; (intro w'; go_simp; with_reducible rfl); rotate_left; (simp only [Act.put, List.setIfInBounds_toArray, List.set_cons_zero, List.set_cons_succ, i64_w, i32_w]; rfl)
                                 refine pure_ (i := 32) (N := some 205) (v := ?_) (a' := ?_) #[true, true, true, true, true, true, true, true, true, true, true, true, true, true, true, true, true, true, true, true, true, true, true, true, true, true, true, true, true, true, true, true, true, false] rfl rfl (any_of HT_.out (by kernel_rfl)) (fun _ _ _ h => h) (Or.inl ⟨by rfl, ?_⟩) ?_ ?_; rotate_left; (intro w'; go_simp; with_reducible rfl); rotate_left; (simp only [Act.put, List.setIfInBounds_toArray, List.set_cons_zero, List.set_cons_succ, i64_w, i32_w]; rfl)
                                 refine pure_ (i := 33) (N := some 206) (v := ?_) (a' := ?_) #[true, true, true, true, true, true, true, true, true, true, true, true, true, true, true, true, true, true, true, true, true, true, true, true, true, true, true, true, true, true, true, true, true, true] rfl rfl (any_of HT_.out (by kernel_rfl)) (fun _ _ _ h => h) (Or.inl ⟨by rfl, ?_⟩) ?_ ?_; rotate_left; (intro w'; go_simp; with_reducible rfl); rotate_left; (simp only [Act.put, List.setIfInBounds_toArray, List.set_cons_zero, List.set_cons_succ, i64_w, i32_w]; rfl)
                                 refine done_ (done_of HT_.out (by kernel_rfl)) ?_
                                 have hcz272_0 : w270.cell? ⟨gb230, 0, none⟩ = some (.int .i64 x231000_14) := (blk_cell BK230.out 0).trans rfl
                                 have hcz272_1 : w270.cell? ⟨gb230, 1, none⟩ = some (.slice Ao267 x231001_14.length co267) := (blk_cell BK230.out 1).trans rfl
                                 have hfz272_0 := blk_frozen BK230.out 0
                                 have hfz272_1 := blk_frozen BK230.out 1
                                 have hcz273_0 : w270.cell? ⟨gb220, 0, none⟩ = some (.int .i64 x221000_1) := (blk_cell BK220.out 0).trans rfl
                                 have hcz273_1 : w270.cell? ⟨gb220, 1, none⟩ = some (.slice Ao16 x221001_1.length co16) := (blk_cell BK220.out 1).trans rfl
                                 have hfz273_0 := blk_frozen BK220.out 0
                                 have hfz273_1 := blk_frozen BK220.out 1
                                 try go_wp2
                                 go_roundg k5
                                 case measure => have := HK1.out; have := HJ8.out; have := HJ14.out; have := HJ33.out; have := HK5.out; omega
                                 case rel => exact ⟨(wrap64 (x7_1 + 1)), (x231000_14), (x231001_14), (.slice Ao267 x231001_14.length co267), (by first | rfl | (simp; done) | (simp [*]; done)), H', ⟨by have := HK1.out; have := HJ8.out; have := HJ14.out; have := HJ33.out; have := HK5.out; omega⟩, ⟨by (with_reducible repeat (first | apply Kd.R_alloc | apply Kd.R_drewN | apply Kd.R_drew)); exact Kd.R_mono (Kd.R_far (p := ⟨gb220, 1, none⟩) (Kd.R_far (p := ⟨gb220, 0, none⟩) (Kd.R_types HO_231001.out BK220.out (by decide)) (fun _ hk => hk.2) (.int .i64 x231000_14)) (fun _ hk => hk.2) (.slice Ao267 x231001_14.length co267)) (fun _ hk => trivial)⟩, ⟨by (with_reducible repeat (first | refine blk_drewN ?_ _ | refine blk_drew ?_ | refine blk_alloc ?_ _)); refine blk_put (cs := #[.int .i64 x231000_14, .slice Ao16 x221001_1.length co16]) ?_ 1 _ rfl; (with_reducible repeat (first | refine blk_drewN ?_ _ | refine blk_drew ?_ | refine blk_alloc ?_ _)); refine blk_put (cs := #[.int .i64 x221000_1, .slice Ao16 x221001_1.length co16]) ?_ 0 _ rfl; (with_reducible repeat (first | refine blk_drewN ?_ _ | refine blk_drew ?_ | refine blk_alloc ?_ _)); exact BK220.out⟩, ⟨by repeat (first | (with_reducible first | exact HB.out | apply below_alloc | apply pw_below_drewN | apply below_drew1 | refine below_set ?_ GE220.out | refine below_set ?_ GE230.out) | exact HB.out)⟩⟩
                               ·rw [if_neg c264] at H
                                cases H
                             ·rw [if_neg c263] at H
                              exact absurd H (by simp)
                           ·rw [if_neg c262] at H
                            cases H
                     ·rw [if_neg c206] at H
                      exact absurd H (by simp)
                   ·rw [if_neg c205] at H
                    exact absurd H (by simp)
           ·rw [if_neg c33] at H
            have c33b0 : (x9_14 == 0) = false := beq_eq_false_iff_ne.mpr c33
            have c33b1 : (x9_14 != 0) = true := bne_iff_ne.mpr c33
            have H' := Aside0.mk H
            clear H
            go_wp2
            go_roundg kj14
            case measure => have := HK1.out; have := HJ8.out; have := HJ14.out; omega
            case rel => exact ⟨(wrap64 (x7_1 + 1)), (x221000_1), (x221001_1), (.slice Ao16 x221001_1.length co16), (by first | rfl | (simp; done) | (simp [*]; done)), H', ⟨by have := HK1.out; have := HJ8.out; have := HJ14.out; omega⟩, ⟨by (with_reducible repeat (first | apply Kd.R_alloc | apply Kd.R_drewN | apply Kd.R_drew)); exact Kd.R_mono HO_221001.out (fun _ hk => trivial)⟩, ⟨by (with_reducible repeat (first | refine blk_drewN ?_ _ | refine blk_drew ?_ | refine blk_alloc ?_ _)); exact BK220.out⟩, ⟨by repeat (first | (with_reducible first | exact HB.out | apply below_alloc | apply pw_below_drewN | apply below_drew1 | refine below_set ?_ GE220.out | refine below_set ?_ GE230.out) | exact HB.out)⟩⟩
        ·rw [if_neg c13] at H
         exact absurd H (by simp)
       ·rw [if_neg c12] at H
        exact absurd H (by simp)
      ·replace c11 := Bool.eq_false_iff.mpr c11
       subst c11
       have H1 : ((caduceuslaw14_awake.f kj8).bind fun t223 => (some t223)) = some r := by rw [if_neg (show ¬ (false = true) by decide)] at H; exact H
       clear H
       have H := H1
       clear H1
       replace H := Option.bind_eq_some_iff.mp H
       obtain ⟨t223, A2880, H⟩ := H
       replace H : (some t223) = some r := H
       have A288 := Aside0.mk A2880
       clear A2880
       obtain rfl := Option.some.inj H
       go_wp2_with (first | ((with_reducible refine gate_callee (f := 8) rfl ?_); refine goesL_ (some 208) rfl rfl Try.func8 (by kernel_rfl) rfl #[] rfl (by (try simp only [List.map_toArray, List.map_cons, List.map_nil]); first | done | rfl | (simp only [List.length_drop, List.length_take]; rfl)) ?_; (with_reducible refine (caduceuslaw14_awake.calls kj8  t223 _ A288.out).mono ?_); rintro e w289 ⟨rfl, hb⟩; refine ⟨_, rfl, ?_⟩; have n0_ := Aside0.mk (Kd.R_below (by (with_reducible repeat (first | apply Kd.R_alloc | apply Kd.R_drewN | apply Kd.R_drew)); exact HO_221001.out) hb); have n1_ := Aside0.mk (blk_below (g := gb220) (o := .cells #[.int .i64 x221000_1, u221001] 24 (0, 0)) (by (with_reducible repeat (first | refine blk_drewN ?_ _ | refine blk_drew ?_ | refine blk_alloc ?_ _)); exact BK220.out) hb); have n2_ := Aside0.mk (below_step (by repeat (first | (with_reducible first | exact HB.out | apply below_alloc | apply pw_below_drewN | apply below_drew1 | refine below_set ?_ GE220.out) | exact HB.out)) hb); clear HO_221001; clear BK220; clear HB; have HO_221001 := n0_; have BK220 := n1_; have HB := n2_; clear n0_ n1_ n2_; (try clear hb); (try clear hb2); (try clear hk); (try clear hi)))
       go_ret
       exact ⟨by first | rfl | (simp [errW_none, errW_some] <;> rfl) | (simp [*, errW_none, errW_some] <;> rfl), by repeat (first | (with_reducible first | exact HB.out | apply below_alloc | apply pw_below_drewN | apply below_drew1 | refine below_set ?_ GE220.out) | exact HB.out)⟩
 ·rw [if_neg c4] at H
  have c4b0 : (t219 == 0) = false := beq_eq_false_iff_ne.mpr c4
  have c4b1 : (t219 != 0) = true := bne_iff_ne.mpr c4
  replace H := Option.bind_eq_some_iff.mp H
  obtain ⟨t221, A2900, H⟩ := H
  replace H : (if t221 = true then ((view_Check.f k t215 t216).bind fun t222 => (some (!t222))) else none) = some r := H
  have A290 := Aside0.mk A2900
  clear A2900
  by_cases c291 : t221 = true
  ·subst c291
   have H1 : ((view_Check.f k t215 t216).bind fun t222 => (some (!t222))) = some r := by rw [if_pos rfl] at H; exact H
   clear H
   have H := H1
   clear H1
   replace H := Option.bind_eq_some_iff.mp H
   obtain ⟨t222, A2920, H⟩ := H
   replace H : (some (!t222)) = some r := H
   have A292 := Aside0.mk A2920
   clear A2920
   obtain rfl := Option.some.inj H
   go_enter Try.func5, Try.ntmps5
   go_wp2_with (first | ((with_reducible refine gate_callee (f := 14) rfl ?_); refine goesL_ (some 16) rfl rfl Try.func14 (by kernel_rfl) rfl #[.slice A0 l0.length c0] rfl (by (try simp only [List.map_toArray, List.map_cons, List.map_nil]); first | done | rfl | (simp only [List.length_drop, List.length_take]; rfl)) ?_; (with_reducible refine (view_First.calls k _ _ l0 t215 t216 t219 _ ?side1 ?side2 A3.out).mono ?_); (case side1 => repeat (first | exact HR0.out | (with_reducible refine Kd.C_alloc ?_ _) | (with_reducible refine Kd.C_drewN ?_ _) | (with_reducible refine Kd.C_drew ?_))); (case side2 => exact HC0.out); rintro e w293 ⟨v217, rfl, ho0, hb⟩; refine ⟨_, rfl, ?_⟩; have n0_ := Aside0.mk (Kd.R_lower ho0 (below_size (by repeat (first | (with_reducible first | exact HB.out | apply below_alloc | apply pw_below_drewN | apply below_drew1) | exact HB.out)))); have n1_ := Aside0.mk (below_step (by repeat (first | (with_reducible first | exact HB.out | apply below_alloc | apply pw_below_drewN | apply below_drew1) | exact HB.out)) hb); clear HB; have HO218 := n0_; have HB := n1_; clear n0_ n1_; (try clear hb); (try clear hb2); (try clear hk); (try clear hi); (try clear ho0)) | ((with_reducible refine gate_dst (N := 5) rfl ?_); (try (refine gate_guard (by rfl) ?_; dsimp only)); refine box_event ?hg (N := 5) ?hd (cs := #[.int .i64 0, .slice none 0 0]) (t := 24) ?hr ?_; (case hd => rfl); (case hg => rfl); (case hr => first | (go_simp; done) | (go_simp; rfl)); intro gb220 hg w294 hbox hb; have n0_ := Aside0.mk (Kd.R_below (by (with_reducible repeat (first | apply Kd.R_alloc | apply Kd.R_drewN | apply Kd.R_drew)); exact HO218.out) hb); have n1_ := Aside0.mk (below_step (by repeat (first | (with_reducible first | exact HB.out | apply below_alloc | apply pw_below_drewN | apply below_drew1) | exact HB.out)) hb); have n2_ := Aside0.mk (hbox); have n3_ := Aside0.mk ((by rw [hg]; exact (below_size (by repeat (first | (with_reducible first | exact HB.out | apply below_alloc | apply pw_below_drewN | apply below_drew1) | exact HB.out))) : w.heap.size ≤ gb220)); have n4_ := Aside0.mk ((by rw [hg]; exact (below_size (by repeat (first | (with_reducible first | exact HB.out | apply below_alloc | apply pw_below_drewN | apply below_drew1) | exact HB.out))) : w.heap.size ≤ gb220)); clear HO218; clear HB; have HO218 := n0_; have HB := n1_; have BK220 := n2_; have GW220 := n3_; have GE220 := n4_; clear n0_ n1_ n2_ n3_ n4_; clear hb hbox hg; have hcz295_0 : w294.cell? ⟨gb220, 0, none⟩ = some (.int .i64 0) := (blk_cell BK220.out 0).trans rfl; have hcz295_1 : w294.cell? ⟨gb220, 1, none⟩ = some (.slice none 0 0) := (blk_cell BK220.out 1).trans rfl; have hfz295_0 := blk_frozen BK220.out 0; have hfz295_1 := blk_frozen BK220.out 1; obtain ⟨Ao296, co296, eo296⟩ := Kd.R_slice HO218.out; subst eo296) | ((with_reducible refine gate_callee (f := 8) rfl ?_); refine goesL_ (some 21) rfl rfl Try.func8 (by kernel_rfl) rfl #[] rfl (by (try simp only [List.map_toArray, List.map_cons, List.map_nil]); first | done | rfl | (simp only [List.length_drop, List.length_take]; rfl)) ?_; (with_reducible refine (caduceuslaw14_awake.calls k  true _ A290.out).mono ?_); rintro e w297 ⟨rfl, hb⟩; refine ⟨_, rfl, ?_⟩; have n0_ := Aside0.mk (Kd.R_below (by (with_reducible repeat (first | apply Kd.R_alloc | apply Kd.R_drewN | apply Kd.R_drew)); exact (Kd.R_mono (Kd.R_far (p := ⟨gb220, 1, none⟩) (Kd.R_far (p := ⟨gb220, 0, none⟩) (Kd.R_types HO218.out BK220.out (by decide)) (fun _ hk => hk.2) (.int .i64 t215)) (fun _ hk => hk.2) (.slice Ao296 t216.length co296)) (fun _ h_ => h_.1))) hb); have n1_ := Aside0.mk (blk_below (g := gb220) (o := .cells #[.int .i64 t215, .slice Ao296 t216.length co296] 24 (0, 0)) (by (with_reducible repeat (first | refine blk_drewN ?_ _ | refine blk_drew ?_ | refine blk_alloc ?_ _)); refine blk_put (cs := #[.int .i64 t215, .slice none 0 0]) ?_ 1 _ rfl; (with_reducible repeat (first | refine blk_drewN ?_ _ | refine blk_drew ?_ | refine blk_alloc ?_ _)); refine blk_put (cs := #[.int .i64 0, .slice none 0 0]) ?_ 0 _ rfl; (with_reducible repeat (first | refine blk_drewN ?_ _ | refine blk_drew ?_ | refine blk_alloc ?_ _)); exact BK220.out) hb); have n2_ := Aside0.mk (below_step (by repeat (first | (with_reducible first | exact HB.out | apply below_alloc | apply pw_below_drewN | apply below_drew1 | refine below_set ?_ GE220.out) | exact HB.out)) hb); clear HO218; clear BK220; clear HB; have HO218 := n0_; have BK220 := n1_; have HB := n2_; clear n0_ n1_ n2_; (try clear hb); (try clear hb2); (try clear hk); (try clear hi); have hcz298_0 : w297.cell? ⟨gb220, 0, none⟩ = some (.int .i64 t215) := (blk_cell BK220.out 0).trans rfl; have hcz298_1 : w297.cell? ⟨gb220, 1, none⟩ = some (.slice Ao296 t216.length co296) := (blk_cell BK220.out 1).trans rfl; have hfz298_0 := blk_frozen BK220.out 0; have hfz298_1 := blk_frozen BK220.out 1) | (go_at_call 17; (with_reducible refine (view_Check.calls k t215 _ _ t216 t222 _ ?side1 ?side2 A292.out).mono ?_); (case side1 => repeat (first | exact (Kd.R_reads' HO218.out).2.2 | (with_reducible refine Kd.C_alloc ?_ _) | (with_reducible refine Kd.C_drewN ?_ _) | (with_reducible refine Kd.C_drew ?_))); (case side2 => exact (Kd.R_reads' HO218.out).2.1); rintro e w299 ⟨rfl, hb⟩; have n0_ := Aside0.mk (Kd.R_below (by (with_reducible repeat (first | apply Kd.R_alloc | apply Kd.R_drewN | apply Kd.R_drew)); exact HO218.out) hb); have n1_ := Aside0.mk (blk_below (g := gb220) (o := .cells #[.int .i64 t215, .slice Ao296 t216.length co296] 24 (0, 0)) (by (with_reducible repeat (first | refine blk_drewN ?_ _ | refine blk_drew ?_ | refine blk_alloc ?_ _)); exact BK220.out) hb); have n2_ := Aside0.mk (below_step (by repeat (first | (with_reducible first | exact HB.out | apply below_alloc | apply pw_below_drewN | apply below_drew1 | refine below_set ?_ GE220.out) | exact HB.out)) hb); clear HO218; clear BK220; clear HB; have HO218 := n0_; have BK220 := n1_; have HB := n2_; clear n0_ n1_ n2_; (try clear hb); (try clear hb2); (try clear hk); (try clear hi)))
   go_ret
   exact ⟨by first | rfl | (simp [errW_none, errW_some] <;> rfl) | (simp [*, errW_none, errW_some] <;> rfl), by repeat (first | (with_reducible first | exact HB.out | apply below_alloc | apply pw_below_drewN | apply below_drew1 | refine below_set ?_ GE220.out) | exact HB.out)⟩
  ·replace c291 := Bool.eq_false_iff.mpr c291
   subst c291
   have H1 : (none : Option _) = some r := by rw [if_neg (show ¬ (false = true) by decide)] at H; exact H
   cases H1
end Go.Proofs.Ytpdalofhekmbeaa.PViewRises
