-- Written by a program of this session over the kit's printer (with contracts of the session's own).
import Derived.Test.YtmcochnofkjhaaaDoorPAllx0
namespace Go.Proofs.YtmcochnofkjhaaaDoor.PAll
open Go.RowKit Go.Proofs.YtmcochnofkjhaaaDoorW.PrintWords Go.Proofs.YtmcochnofkjhaaaDoorW.PrintLast Go.Proofs.YtmcochnofkjhaaaDoorW.PrintMore
attribute [local go_sem] max2_int min2_int max_two min_two max_three min_three max_four min_four   -- for this text's walks alone
set_option linter.unusedVariables false
set_option linter.unusedSimpArgs false

/-! ### caduceusref02_Small: function 89 -/
def caduceusref02_Small.f (a0 : Int) : Option (Int) := if a0 ≥ 65 then (if a0 ≤ 90 then (some (wrap64 (a0 + 32))) else (if a0 ≥ 192 then (if a0 ≤ 222 then (if a0 = 215 then (if a0 ≥ 913 then (if a0 ≤ 937 then (if a0 = 930 then (if a0 ≥ 1040 then (if a0 ≤ 1071 then (some (wrap64 (a0 + 32))) else (some a0)) else (some a0)) else (some (wrap64 (a0 + 32)))) else (if a0 ≥ 1040 then (if a0 ≤ 1071 then (some (wrap64 (a0 + 32))) else (some a0)) else (some a0))) else (if a0 ≥ 1040 then (if a0 ≤ 1071 then (some (wrap64 (a0 + 32))) else (some a0)) else (some a0))) else (some (wrap64 (a0 + 32)))) else (if a0 ≥ 913 then (if a0 ≤ 937 then (if a0 = 930 then (if a0 ≥ 1040 then (if a0 ≤ 1071 then (some (wrap64 (a0 + 32))) else (some a0)) else (some a0)) else (some (wrap64 (a0 + 32)))) else (if a0 ≥ 1040 then (if a0 ≤ 1071 then (some (wrap64 (a0 + 32))) else (some a0)) else (some a0))) else (if a0 ≥ 1040 then (if a0 ≤ 1071 then (some (wrap64 (a0 + 32))) else (some a0)) else (some a0)))) else (if a0 ≥ 913 then (if a0 ≤ 937 then (if a0 = 930 then (if a0 ≥ 1040 then (if a0 ≤ 1071 then (some (wrap64 (a0 + 32))) else (some a0)) else (some a0)) else (some (wrap64 (a0 + 32)))) else (if a0 ≥ 1040 then (if a0 ≤ 1071 then (some (wrap64 (a0 + 32))) else (some a0)) else (some a0))) else (if a0 ≥ 1040 then (if a0 ≤ 1071 then (some (wrap64 (a0 + 32))) else (some a0)) else (some a0))))) else (if a0 ≥ 192 then (if a0 ≤ 222 then (if a0 = 215 then (if a0 ≥ 913 then (if a0 ≤ 937 then (if a0 = 930 then (if a0 ≥ 1040 then (if a0 ≤ 1071 then (some (wrap64 (a0 + 32))) else (some a0)) else (some a0)) else (some (wrap64 (a0 + 32)))) else (if a0 ≥ 1040 then (if a0 ≤ 1071 then (some (wrap64 (a0 + 32))) else (some a0)) else (some a0))) else (if a0 ≥ 1040 then (if a0 ≤ 1071 then (some (wrap64 (a0 + 32))) else (some a0)) else (some a0))) else (some (wrap64 (a0 + 32)))) else (if a0 ≥ 913 then (if a0 ≤ 937 then (if a0 = 930 then (if a0 ≥ 1040 then (if a0 ≤ 1071 then (some (wrap64 (a0 + 32))) else (some a0)) else (some a0)) else (some (wrap64 (a0 + 32)))) else (if a0 ≥ 1040 then (if a0 ≤ 1071 then (some (wrap64 (a0 + 32))) else (some a0)) else (some a0))) else (if a0 ≥ 1040 then (if a0 ≤ 1071 then (some (wrap64 (a0 + 32))) else (some a0)) else (some a0)))) else (if a0 ≥ 913 then (if a0 ≤ 937 then (if a0 = 930 then (if a0 ≥ 1040 then (if a0 ≤ 1071 then (some (wrap64 (a0 + 32))) else (some a0)) else (some a0)) else (some (wrap64 (a0 + 32)))) else (if a0 ≥ 1040 then (if a0 ≤ 1071 then (some (wrap64 (a0 + 32))) else (some a0)) else (some a0))) else (if a0 ≥ 1040 then (if a0 ≤ 1071 then (some (wrap64 (a0 + 32))) else (some a0)) else (some a0))))
set_option maxHeartbeats 8000000 in
set_option maxRecDepth 100000 in
theorem caduceusref02_Small.calls (a0 : Int) (r : Int) (w : World) (h : caduceusref02_Small.f a0 = some r) :
  Calls Tryd.prog 89 #[.int .i64 a0] w fun e w' => e = .returned (.int .i64 r) ∧ Drawn0 w w' := by
 have H : (if a0 ≥ 65 then (if a0 ≤ 90 then (some (wrap64 (a0 + 32))) else (if a0 ≥ 192 then (if a0 ≤ 222 then (if a0 = 215 then (if a0 ≥ 913 then (if a0 ≤ 937 then (if a0 = 930 then (if a0 ≥ 1040 then (if a0 ≤ 1071 then (some (wrap64 (a0 + 32))) else (some a0)) else (some a0)) else (some (wrap64 (a0 + 32)))) else (if a0 ≥ 1040 then (if a0 ≤ 1071 then (some (wrap64 (a0 + 32))) else (some a0)) else (some a0))) else (if a0 ≥ 1040 then (if a0 ≤ 1071 then (some (wrap64 (a0 + 32))) else (some a0)) else (some a0))) else (some (wrap64 (a0 + 32)))) else (if a0 ≥ 913 then (if a0 ≤ 937 then (if a0 = 930 then (if a0 ≥ 1040 then (if a0 ≤ 1071 then (some (wrap64 (a0 + 32))) else (some a0)) else (some a0)) else (some (wrap64 (a0 + 32)))) else (if a0 ≥ 1040 then (if a0 ≤ 1071 then (some (wrap64 (a0 + 32))) else (some a0)) else (some a0))) else (if a0 ≥ 1040 then (if a0 ≤ 1071 then (some (wrap64 (a0 + 32))) else (some a0)) else (some a0)))) else (if a0 ≥ 913 then (if a0 ≤ 937 then (if a0 = 930 then (if a0 ≥ 1040 then (if a0 ≤ 1071 then (some (wrap64 (a0 + 32))) else (some a0)) else (some a0)) else (some (wrap64 (a0 + 32)))) else (if a0 ≥ 1040 then (if a0 ≤ 1071 then (some (wrap64 (a0 + 32))) else (some a0)) else (some a0))) else (if a0 ≥ 1040 then (if a0 ≤ 1071 then (some (wrap64 (a0 + 32))) else (some a0)) else (some a0))))) else (if a0 ≥ 192 then (if a0 ≤ 222 then (if a0 = 215 then (if a0 ≥ 913 then (if a0 ≤ 937 then (if a0 = 930 then (if a0 ≥ 1040 then (if a0 ≤ 1071 then (some (wrap64 (a0 + 32))) else (some a0)) else (some a0)) else (some (wrap64 (a0 + 32)))) else (if a0 ≥ 1040 then (if a0 ≤ 1071 then (some (wrap64 (a0 + 32))) else (some a0)) else (some a0))) else (if a0 ≥ 1040 then (if a0 ≤ 1071 then (some (wrap64 (a0 + 32))) else (some a0)) else (some a0))) else (some (wrap64 (a0 + 32)))) else (if a0 ≥ 913 then (if a0 ≤ 937 then (if a0 = 930 then (if a0 ≥ 1040 then (if a0 ≤ 1071 then (some (wrap64 (a0 + 32))) else (some a0)) else (some a0)) else (some (wrap64 (a0 + 32)))) else (if a0 ≥ 1040 then (if a0 ≤ 1071 then (some (wrap64 (a0 + 32))) else (some a0)) else (some a0))) else (if a0 ≥ 1040 then (if a0 ≤ 1071 then (some (wrap64 (a0 + 32))) else (some a0)) else (some a0)))) else (if a0 ≥ 913 then (if a0 ≤ 937 then (if a0 = 930 then (if a0 ≥ 1040 then (if a0 ≤ 1071 then (some (wrap64 (a0 + 32))) else (some a0)) else (some a0)) else (some (wrap64 (a0 + 32)))) else (if a0 ≥ 1040 then (if a0 ≤ 1071 then (some (wrap64 (a0 + 32))) else (some a0)) else (some a0))) else (if a0 ≥ 1040 then (if a0 ≤ 1071 then (some (wrap64 (a0 + 32))) else (some a0)) else (some a0))))) = some r := h
 clear h
 by_cases c2 : a0 ≥ 65
 ·rw [if_pos c2] at H
  have c2b0 : decide (65 ≤ a0) = true := decide_eq_true c2
  clear c2
  by_cases c3 : a0 ≤ 90
  ·rw [if_pos c3] at H
   have c3b0 : decide (a0 ≤ 90) = true := decide_eq_true c3
   clear c3
   obtain rfl := Option.some.inj H
   go_enter Tryd.func89, Tryd.ntmps89
   go_wp2
   go_ret
   exact ⟨by first | rfl , by repeat (first | exact Drawn0.refl _ )⟩
  ·rw [if_neg c3] at H
   have c3b0 : decide (a0 ≤ 90) = false := decide_eq_false c3
   clear c3
   by_cases c4 : a0 ≥ 192
   ·rw [if_pos c4] at H
    have c4b0 : decide (192 ≤ a0) = true := decide_eq_true c4
    clear c4
    by_cases c5 : a0 ≤ 222
    ·rw [if_pos c5] at H
     have c5b0 : decide (a0 ≤ 222) = true := decide_eq_true c5
     clear c5
     by_cases c6 : a0 = 215
     ·rw [if_pos c6] at H
      have c6b0 : (a0 == 215) = true := beq_iff_eq.mpr c6
      have c6b1 : (a0 != 215) = false := bne_eq_false_iff_eq.mpr c6
      clear c6
      by_cases c7 : a0 ≥ 913
      ·rw [if_pos c7] at H
       have c7b0 : decide (913 ≤ a0) = true := decide_eq_true c7
       clear c7
       by_cases c8 : a0 ≤ 937
       ·rw [if_pos c8] at H
        have c8b0 : decide (a0 ≤ 937) = true := decide_eq_true c8
        clear c8
        by_cases c9 : a0 = 930
        ·rw [if_pos c9] at H
         have c9b0 : (a0 == 930) = true := beq_iff_eq.mpr c9
         have c9b1 : (a0 != 930) = false := bne_eq_false_iff_eq.mpr c9
         clear c9
         by_cases c10 : a0 ≥ 1040
         ·rw [if_pos c10] at H
          have c10b0 : decide (1040 ≤ a0) = true := decide_eq_true c10
          clear c10
          by_cases c11 : a0 ≤ 1071
          ·rw [if_pos c11] at H
           have c11b0 : decide (a0 ≤ 1071) = true := decide_eq_true c11
           clear c11
           obtain rfl := Option.some.inj H
           go_enter Tryd.func89, Tryd.ntmps89
           go_wp2
           go_ret
           exact ⟨by first | rfl , by repeat (first | exact Drawn0.refl _ )⟩
          ·rw [if_neg c11] at H
           have c11b0 : decide (a0 ≤ 1071) = false := decide_eq_false c11
           clear c11
           obtain rfl := Option.some.inj H
           go_enter Tryd.func89, Tryd.ntmps89
           go_wp2
           go_ret
           exact ⟨by first | rfl , by repeat (first | exact Drawn0.refl _ )⟩
         ·rw [if_neg c10] at H
          have c10b0 : decide (1040 ≤ a0) = false := decide_eq_false c10
          clear c10
          obtain rfl := Option.some.inj H
          go_enter Tryd.func89, Tryd.ntmps89
          go_wp2
          go_ret
          exact ⟨by first | rfl , by repeat (first | exact Drawn0.refl _ )⟩
        ·rw [if_neg c9] at H
         have c9b0 : (a0 == 930) = false := beq_eq_false_iff_ne.mpr c9
         have c9b1 : (a0 != 930) = true := bne_iff_ne.mpr c9
         obtain rfl := Option.some.inj H
         go_enter Tryd.func89, Tryd.ntmps89
         go_wp2
         go_ret
         exact ⟨by first | rfl , by repeat (first | exact Drawn0.refl _ )⟩
       ·rw [if_neg c8] at H
        have c8b0 : decide (a0 ≤ 937) = false := decide_eq_false c8
        clear c8
        by_cases c12 : a0 ≥ 1040
        ·rw [if_pos c12] at H
         have c12b0 : decide (1040 ≤ a0) = true := decide_eq_true c12
         clear c12
         by_cases c13 : a0 ≤ 1071
         ·rw [if_pos c13] at H
          have c13b0 : decide (a0 ≤ 1071) = true := decide_eq_true c13
          clear c13
          obtain rfl := Option.some.inj H
          go_enter Tryd.func89, Tryd.ntmps89
          go_wp2
          go_ret
          exact ⟨by first | rfl , by repeat (first | exact Drawn0.refl _ )⟩
         ·rw [if_neg c13] at H
          have c13b0 : decide (a0 ≤ 1071) = false := decide_eq_false c13
          clear c13
          obtain rfl := Option.some.inj H
          go_enter Tryd.func89, Tryd.ntmps89
          go_wp2
          go_ret
          exact ⟨by first | rfl , by repeat (first | exact Drawn0.refl _ )⟩
        ·rw [if_neg c12] at H
         have c12b0 : decide (1040 ≤ a0) = false := decide_eq_false c12
         clear c12
         obtain rfl := Option.some.inj H
         go_enter Tryd.func89, Tryd.ntmps89
         go_wp2
         go_ret
         exact ⟨by first | rfl , by repeat (first | exact Drawn0.refl _ )⟩
      ·rw [if_neg c7] at H
       have c7b0 : decide (913 ≤ a0) = false := decide_eq_false c7
       clear c7
       by_cases c14 : a0 ≥ 1040
       ·rw [if_pos c14] at H
        have c14b0 : decide (1040 ≤ a0) = true := decide_eq_true c14
        clear c14
        by_cases c15 : a0 ≤ 1071
        ·rw [if_pos c15] at H
         have c15b0 : decide (a0 ≤ 1071) = true := decide_eq_true c15
         clear c15
         obtain rfl := Option.some.inj H
         go_enter Tryd.func89, Tryd.ntmps89
         go_wp2
         go_ret
         exact ⟨by first | rfl , by repeat (first | exact Drawn0.refl _ )⟩
        ·rw [if_neg c15] at H
         have c15b0 : decide (a0 ≤ 1071) = false := decide_eq_false c15
         clear c15
         obtain rfl := Option.some.inj H
         go_enter Tryd.func89, Tryd.ntmps89
         go_wp2
         go_ret
         exact ⟨by first | rfl , by repeat (first | exact Drawn0.refl _ )⟩
       ·rw [if_neg c14] at H
        have c14b0 : decide (1040 ≤ a0) = false := decide_eq_false c14
        clear c14
        obtain rfl := Option.some.inj H
        go_enter Tryd.func89, Tryd.ntmps89
        go_wp2
        go_ret
        exact ⟨by first | rfl , by repeat (first | exact Drawn0.refl _ )⟩
     ·rw [if_neg c6] at H
      have c6b0 : (a0 == 215) = false := beq_eq_false_iff_ne.mpr c6
      have c6b1 : (a0 != 215) = true := bne_iff_ne.mpr c6
      obtain rfl := Option.some.inj H
      go_enter Tryd.func89, Tryd.ntmps89
      go_wp2
      go_ret
      exact ⟨by first | rfl , by repeat (first | exact Drawn0.refl _ )⟩
    ·rw [if_neg c5] at H
     have c5b0 : decide (a0 ≤ 222) = false := decide_eq_false c5
     clear c5
     by_cases c16 : a0 ≥ 913
     ·rw [if_pos c16] at H
      have c16b0 : decide (913 ≤ a0) = true := decide_eq_true c16
      clear c16
      by_cases c17 : a0 ≤ 937
      ·rw [if_pos c17] at H
       have c17b0 : decide (a0 ≤ 937) = true := decide_eq_true c17
       clear c17
       by_cases c18 : a0 = 930
       ·rw [if_pos c18] at H
        have c18b0 : (a0 == 930) = true := beq_iff_eq.mpr c18
        have c18b1 : (a0 != 930) = false := bne_eq_false_iff_eq.mpr c18
        clear c18
        by_cases c19 : a0 ≥ 1040
        ·rw [if_pos c19] at H
         have c19b0 : decide (1040 ≤ a0) = true := decide_eq_true c19
         clear c19
         by_cases c20 : a0 ≤ 1071
         ·rw [if_pos c20] at H
          have c20b0 : decide (a0 ≤ 1071) = true := decide_eq_true c20
          clear c20
          obtain rfl := Option.some.inj H
          go_enter Tryd.func89, Tryd.ntmps89
          go_wp2
          go_ret
          exact ⟨by first | rfl , by repeat (first | exact Drawn0.refl _ )⟩
         ·rw [if_neg c20] at H
          have c20b0 : decide (a0 ≤ 1071) = false := decide_eq_false c20
          clear c20
          obtain rfl := Option.some.inj H
          go_enter Tryd.func89, Tryd.ntmps89
          go_wp2
          go_ret
          exact ⟨by first | rfl , by repeat (first | exact Drawn0.refl _ )⟩
        ·rw [if_neg c19] at H
         have c19b0 : decide (1040 ≤ a0) = false := decide_eq_false c19
         clear c19
         obtain rfl := Option.some.inj H
         go_enter Tryd.func89, Tryd.ntmps89
         go_wp2
         go_ret
         exact ⟨by first | rfl , by repeat (first | exact Drawn0.refl _ )⟩
       ·rw [if_neg c18] at H
        have c18b0 : (a0 == 930) = false := beq_eq_false_iff_ne.mpr c18
        have c18b1 : (a0 != 930) = true := bne_iff_ne.mpr c18
        obtain rfl := Option.some.inj H
        go_enter Tryd.func89, Tryd.ntmps89
        go_wp2
        go_ret
        exact ⟨by first | rfl , by repeat (first | exact Drawn0.refl _ )⟩
      ·rw [if_neg c17] at H
       have c17b0 : decide (a0 ≤ 937) = false := decide_eq_false c17
       clear c17
       by_cases c21 : a0 ≥ 1040
       ·rw [if_pos c21] at H
        have c21b0 : decide (1040 ≤ a0) = true := decide_eq_true c21
        clear c21
        by_cases c22 : a0 ≤ 1071
        ·rw [if_pos c22] at H
         have c22b0 : decide (a0 ≤ 1071) = true := decide_eq_true c22
         clear c22
         obtain rfl := Option.some.inj H
         go_enter Tryd.func89, Tryd.ntmps89
         go_wp2
         go_ret
         exact ⟨by first | rfl , by repeat (first | exact Drawn0.refl _ )⟩
        ·rw [if_neg c22] at H
         have c22b0 : decide (a0 ≤ 1071) = false := decide_eq_false c22
         clear c22
         obtain rfl := Option.some.inj H
         go_enter Tryd.func89, Tryd.ntmps89
         go_wp2
         go_ret
         exact ⟨by first | rfl , by repeat (first | exact Drawn0.refl _ )⟩
       ·rw [if_neg c21] at H
        have c21b0 : decide (1040 ≤ a0) = false := decide_eq_false c21
        clear c21
        obtain rfl := Option.some.inj H
        go_enter Tryd.func89, Tryd.ntmps89
        go_wp2
        go_ret
        exact ⟨by first | rfl , by repeat (first | exact Drawn0.refl _ )⟩
     ·rw [if_neg c16] at H
      have c16b0 : decide (913 ≤ a0) = false := decide_eq_false c16
      clear c16
      by_cases c23 : a0 ≥ 1040
      ·rw [if_pos c23] at H
       have c23b0 : decide (1040 ≤ a0) = true := decide_eq_true c23
       clear c23
       by_cases c24 : a0 ≤ 1071
       ·rw [if_pos c24] at H
        have c24b0 : decide (a0 ≤ 1071) = true := decide_eq_true c24
        clear c24
        obtain rfl := Option.some.inj H
        go_enter Tryd.func89, Tryd.ntmps89
        go_wp2
        go_ret
        exact ⟨by first | rfl , by repeat (first | exact Drawn0.refl _ )⟩
       ·rw [if_neg c24] at H
        have c24b0 : decide (a0 ≤ 1071) = false := decide_eq_false c24
        clear c24
        obtain rfl := Option.some.inj H
        go_enter Tryd.func89, Tryd.ntmps89
        go_wp2
        go_ret
        exact ⟨by first | rfl , by repeat (first | exact Drawn0.refl _ )⟩
      ·rw [if_neg c23] at H
       have c23b0 : decide (1040 ≤ a0) = false := decide_eq_false c23
       clear c23
       obtain rfl := Option.some.inj H
       go_enter Tryd.func89, Tryd.ntmps89
       go_wp2
       go_ret
       exact ⟨by first | rfl , by repeat (first | exact Drawn0.refl _ )⟩
   ·rw [if_neg c4] at H
    have c4b0 : decide (192 ≤ a0) = false := decide_eq_false c4
    clear c4
    by_cases c25 : a0 ≥ 913
    ·rw [if_pos c25] at H
     have c25b0 : decide (913 ≤ a0) = true := decide_eq_true c25
     clear c25
     by_cases c26 : a0 ≤ 937
     ·rw [if_pos c26] at H
      have c26b0 : decide (a0 ≤ 937) = true := decide_eq_true c26
      clear c26
      by_cases c27 : a0 = 930
      ·rw [if_pos c27] at H
       have c27b0 : (a0 == 930) = true := beq_iff_eq.mpr c27
       have c27b1 : (a0 != 930) = false := bne_eq_false_iff_eq.mpr c27
       clear c27
       by_cases c28 : a0 ≥ 1040
       ·rw [if_pos c28] at H
        have c28b0 : decide (1040 ≤ a0) = true := decide_eq_true c28
        clear c28
        by_cases c29 : a0 ≤ 1071
        ·rw [if_pos c29] at H
         have c29b0 : decide (a0 ≤ 1071) = true := decide_eq_true c29
         clear c29
         obtain rfl := Option.some.inj H
         go_enter Tryd.func89, Tryd.ntmps89
         go_wp2
         go_ret
         exact ⟨by first | rfl , by repeat (first | exact Drawn0.refl _ )⟩
        ·rw [if_neg c29] at H
         have c29b0 : decide (a0 ≤ 1071) = false := decide_eq_false c29
         clear c29
         obtain rfl := Option.some.inj H
         go_enter Tryd.func89, Tryd.ntmps89
         go_wp2
         go_ret
         exact ⟨by first | rfl , by repeat (first | exact Drawn0.refl _ )⟩
       ·rw [if_neg c28] at H
        have c28b0 : decide (1040 ≤ a0) = false := decide_eq_false c28
        clear c28
        obtain rfl := Option.some.inj H
        go_enter Tryd.func89, Tryd.ntmps89
        go_wp2
        go_ret
        exact ⟨by first | rfl , by repeat (first | exact Drawn0.refl _ )⟩
      ·rw [if_neg c27] at H
       have c27b0 : (a0 == 930) = false := beq_eq_false_iff_ne.mpr c27
       have c27b1 : (a0 != 930) = true := bne_iff_ne.mpr c27
       obtain rfl := Option.some.inj H
       go_enter Tryd.func89, Tryd.ntmps89
       go_wp2
       go_ret
       exact ⟨by first | rfl , by repeat (first | exact Drawn0.refl _ )⟩
     ·rw [if_neg c26] at H
      have c26b0 : decide (a0 ≤ 937) = false := decide_eq_false c26
      clear c26
      by_cases c30 : a0 ≥ 1040
      ·rw [if_pos c30] at H
       have c30b0 : decide (1040 ≤ a0) = true := decide_eq_true c30
       clear c30
       by_cases c31 : a0 ≤ 1071
       ·rw [if_pos c31] at H
        have c31b0 : decide (a0 ≤ 1071) = true := decide_eq_true c31
        clear c31
        obtain rfl := Option.some.inj H
        go_enter Tryd.func89, Tryd.ntmps89
        go_wp2
        go_ret
        exact ⟨by first | rfl , by repeat (first | exact Drawn0.refl _ )⟩
       ·rw [if_neg c31] at H
        have c31b0 : decide (a0 ≤ 1071) = false := decide_eq_false c31
        clear c31
        obtain rfl := Option.some.inj H
        go_enter Tryd.func89, Tryd.ntmps89
        go_wp2
        go_ret
        exact ⟨by first | rfl , by repeat (first | exact Drawn0.refl _ )⟩
      ·rw [if_neg c30] at H
       have c30b0 : decide (1040 ≤ a0) = false := decide_eq_false c30
       clear c30
       obtain rfl := Option.some.inj H
       go_enter Tryd.func89, Tryd.ntmps89
       go_wp2
       go_ret
       exact ⟨by first | rfl , by repeat (first | exact Drawn0.refl _ )⟩
    ·rw [if_neg c25] at H
     have c25b0 : decide (913 ≤ a0) = false := decide_eq_false c25
     clear c25
     by_cases c32 : a0 ≥ 1040
     ·rw [if_pos c32] at H
      have c32b0 : decide (1040 ≤ a0) = true := decide_eq_true c32
      clear c32
      by_cases c33 : a0 ≤ 1071
      ·rw [if_pos c33] at H
       have c33b0 : decide (a0 ≤ 1071) = true := decide_eq_true c33
       clear c33
       obtain rfl := Option.some.inj H
       go_enter Tryd.func89, Tryd.ntmps89
       go_wp2
       go_ret
       exact ⟨by first | rfl , by repeat (first | exact Drawn0.refl _ )⟩
      ·rw [if_neg c33] at H
       have c33b0 : decide (a0 ≤ 1071) = false := decide_eq_false c33
       clear c33
       obtain rfl := Option.some.inj H
       go_enter Tryd.func89, Tryd.ntmps89
       go_wp2
       go_ret
       exact ⟨by first | rfl , by repeat (first | exact Drawn0.refl _ )⟩
     ·rw [if_neg c32] at H
      have c32b0 : decide (1040 ≤ a0) = false := decide_eq_false c32
      clear c32
      obtain rfl := Option.some.inj H
      go_enter Tryd.func89, Tryd.ntmps89
      go_wp2
      go_ret
      exact ⟨by first | rfl , by repeat (first | exact Drawn0.refl _ )⟩
 ·rw [if_neg c2] at H
  have c2b0 : decide (65 ≤ a0) = false := decide_eq_false c2
  clear c2
  by_cases c34 : a0 ≥ 192
  ·rw [if_pos c34] at H
   have c34b0 : decide (192 ≤ a0) = true := decide_eq_true c34
   clear c34
   by_cases c35 : a0 ≤ 222
   ·rw [if_pos c35] at H
    have c35b0 : decide (a0 ≤ 222) = true := decide_eq_true c35
    clear c35
    by_cases c36 : a0 = 215
    ·rw [if_pos c36] at H
     have c36b0 : (a0 == 215) = true := beq_iff_eq.mpr c36
     have c36b1 : (a0 != 215) = false := bne_eq_false_iff_eq.mpr c36
     clear c36
     by_cases c37 : a0 ≥ 913
     ·rw [if_pos c37] at H
      have c37b0 : decide (913 ≤ a0) = true := decide_eq_true c37
      clear c37
      by_cases c38 : a0 ≤ 937
      ·rw [if_pos c38] at H
       have c38b0 : decide (a0 ≤ 937) = true := decide_eq_true c38
       clear c38
       by_cases c39 : a0 = 930
       ·rw [if_pos c39] at H
        have c39b0 : (a0 == 930) = true := beq_iff_eq.mpr c39
        have c39b1 : (a0 != 930) = false := bne_eq_false_iff_eq.mpr c39
        clear c39
        by_cases c40 : a0 ≥ 1040
        ·rw [if_pos c40] at H
         have c40b0 : decide (1040 ≤ a0) = true := decide_eq_true c40
         clear c40
         by_cases c41 : a0 ≤ 1071
         ·rw [if_pos c41] at H
          have c41b0 : decide (a0 ≤ 1071) = true := decide_eq_true c41
          clear c41
          obtain rfl := Option.some.inj H
          go_enter Tryd.func89, Tryd.ntmps89
          go_wp2
          go_ret
          exact ⟨by first | rfl , by repeat (first | exact Drawn0.refl _ )⟩
         ·rw [if_neg c41] at H
          have c41b0 : decide (a0 ≤ 1071) = false := decide_eq_false c41
          clear c41
          obtain rfl := Option.some.inj H
          go_enter Tryd.func89, Tryd.ntmps89
          go_wp2
          go_ret
          exact ⟨by first | rfl , by repeat (first | exact Drawn0.refl _ )⟩
        ·rw [if_neg c40] at H
         have c40b0 : decide (1040 ≤ a0) = false := decide_eq_false c40
         clear c40
         obtain rfl := Option.some.inj H
         go_enter Tryd.func89, Tryd.ntmps89
         go_wp2
         go_ret
         exact ⟨by first | rfl , by repeat (first | exact Drawn0.refl _ )⟩
       ·rw [if_neg c39] at H
        have c39b0 : (a0 == 930) = false := beq_eq_false_iff_ne.mpr c39
        have c39b1 : (a0 != 930) = true := bne_iff_ne.mpr c39
        obtain rfl := Option.some.inj H
        go_enter Tryd.func89, Tryd.ntmps89
        go_wp2
        go_ret
        exact ⟨by first | rfl , by repeat (first | exact Drawn0.refl _ )⟩
      ·rw [if_neg c38] at H
       have c38b0 : decide (a0 ≤ 937) = false := decide_eq_false c38
       clear c38
       by_cases c42 : a0 ≥ 1040
       ·rw [if_pos c42] at H
        have c42b0 : decide (1040 ≤ a0) = true := decide_eq_true c42
        clear c42
        by_cases c43 : a0 ≤ 1071
        ·rw [if_pos c43] at H
         have c43b0 : decide (a0 ≤ 1071) = true := decide_eq_true c43
         clear c43
         obtain rfl := Option.some.inj H
         go_enter Tryd.func89, Tryd.ntmps89
         go_wp2
         go_ret
         exact ⟨by first | rfl , by repeat (first | exact Drawn0.refl _ )⟩
        ·rw [if_neg c43] at H
         have c43b0 : decide (a0 ≤ 1071) = false := decide_eq_false c43
         clear c43
         obtain rfl := Option.some.inj H
         go_enter Tryd.func89, Tryd.ntmps89
         go_wp2
         go_ret
         exact ⟨by first | rfl , by repeat (first | exact Drawn0.refl _ )⟩
       ·rw [if_neg c42] at H
        have c42b0 : decide (1040 ≤ a0) = false := decide_eq_false c42
        clear c42
        obtain rfl := Option.some.inj H
        go_enter Tryd.func89, Tryd.ntmps89
        go_wp2
        go_ret
        exact ⟨by first | rfl , by repeat (first | exact Drawn0.refl _ )⟩
     ·rw [if_neg c37] at H
      have c37b0 : decide (913 ≤ a0) = false := decide_eq_false c37
      clear c37
      by_cases c44 : a0 ≥ 1040
      ·rw [if_pos c44] at H
       have c44b0 : decide (1040 ≤ a0) = true := decide_eq_true c44
       clear c44
       by_cases c45 : a0 ≤ 1071
       ·rw [if_pos c45] at H
        have c45b0 : decide (a0 ≤ 1071) = true := decide_eq_true c45
        clear c45
        obtain rfl := Option.some.inj H
        go_enter Tryd.func89, Tryd.ntmps89
        go_wp2
        go_ret
        exact ⟨by first | rfl , by repeat (first | exact Drawn0.refl _ )⟩
       ·rw [if_neg c45] at H
        have c45b0 : decide (a0 ≤ 1071) = false := decide_eq_false c45
        clear c45
        obtain rfl := Option.some.inj H
        go_enter Tryd.func89, Tryd.ntmps89
        go_wp2
        go_ret
        exact ⟨by first | rfl , by repeat (first | exact Drawn0.refl _ )⟩
      ·rw [if_neg c44] at H
       have c44b0 : decide (1040 ≤ a0) = false := decide_eq_false c44
       clear c44
       obtain rfl := Option.some.inj H
       go_enter Tryd.func89, Tryd.ntmps89
       go_wp2
       go_ret
       exact ⟨by first | rfl , by repeat (first | exact Drawn0.refl _ )⟩
    ·rw [if_neg c36] at H
     have c36b0 : (a0 == 215) = false := beq_eq_false_iff_ne.mpr c36
     have c36b1 : (a0 != 215) = true := bne_iff_ne.mpr c36
     obtain rfl := Option.some.inj H
     go_enter Tryd.func89, Tryd.ntmps89
     go_wp2
     go_ret
     exact ⟨by first | rfl , by repeat (first | exact Drawn0.refl _ )⟩
   ·rw [if_neg c35] at H
    have c35b0 : decide (a0 ≤ 222) = false := decide_eq_false c35
    clear c35
    by_cases c46 : a0 ≥ 913
    ·rw [if_pos c46] at H
     have c46b0 : decide (913 ≤ a0) = true := decide_eq_true c46
     clear c46
     by_cases c47 : a0 ≤ 937
     ·rw [if_pos c47] at H
      have c47b0 : decide (a0 ≤ 937) = true := decide_eq_true c47
      clear c47
      by_cases c48 : a0 = 930
      ·rw [if_pos c48] at H
       have c48b0 : (a0 == 930) = true := beq_iff_eq.mpr c48
       have c48b1 : (a0 != 930) = false := bne_eq_false_iff_eq.mpr c48
       clear c48
       by_cases c49 : a0 ≥ 1040
       ·rw [if_pos c49] at H
        have c49b0 : decide (1040 ≤ a0) = true := decide_eq_true c49
        clear c49
        by_cases c50 : a0 ≤ 1071
        ·rw [if_pos c50] at H
         have c50b0 : decide (a0 ≤ 1071) = true := decide_eq_true c50
         clear c50
         obtain rfl := Option.some.inj H
         go_enter Tryd.func89, Tryd.ntmps89
         go_wp2
         go_ret
         exact ⟨by first | rfl , by repeat (first | exact Drawn0.refl _ )⟩
        ·rw [if_neg c50] at H
         have c50b0 : decide (a0 ≤ 1071) = false := decide_eq_false c50
         clear c50
         obtain rfl := Option.some.inj H
         go_enter Tryd.func89, Tryd.ntmps89
         go_wp2
         go_ret
         exact ⟨by first | rfl , by repeat (first | exact Drawn0.refl _ )⟩
       ·rw [if_neg c49] at H
        have c49b0 : decide (1040 ≤ a0) = false := decide_eq_false c49
        clear c49
        obtain rfl := Option.some.inj H
        go_enter Tryd.func89, Tryd.ntmps89
        go_wp2
        go_ret
        exact ⟨by first | rfl , by repeat (first | exact Drawn0.refl _ )⟩
      ·rw [if_neg c48] at H
       have c48b0 : (a0 == 930) = false := beq_eq_false_iff_ne.mpr c48
       have c48b1 : (a0 != 930) = true := bne_iff_ne.mpr c48
       obtain rfl := Option.some.inj H
       go_enter Tryd.func89, Tryd.ntmps89
       go_wp2
       go_ret
       exact ⟨by first | rfl , by repeat (first | exact Drawn0.refl _ )⟩
     ·rw [if_neg c47] at H
      have c47b0 : decide (a0 ≤ 937) = false := decide_eq_false c47
      clear c47
      by_cases c51 : a0 ≥ 1040
      ·rw [if_pos c51] at H
       have c51b0 : decide (1040 ≤ a0) = true := decide_eq_true c51
       clear c51
       by_cases c52 : a0 ≤ 1071
       ·rw [if_pos c52] at H
        have c52b0 : decide (a0 ≤ 1071) = true := decide_eq_true c52
        clear c52
        obtain rfl := Option.some.inj H
        go_enter Tryd.func89, Tryd.ntmps89
        go_wp2
        go_ret
        exact ⟨by first | rfl , by repeat (first | exact Drawn0.refl _ )⟩
       ·rw [if_neg c52] at H
        have c52b0 : decide (a0 ≤ 1071) = false := decide_eq_false c52
        clear c52
        obtain rfl := Option.some.inj H
        go_enter Tryd.func89, Tryd.ntmps89
        go_wp2
        go_ret
        exact ⟨by first | rfl , by repeat (first | exact Drawn0.refl _ )⟩
      ·rw [if_neg c51] at H
       have c51b0 : decide (1040 ≤ a0) = false := decide_eq_false c51
       clear c51
       obtain rfl := Option.some.inj H
       go_enter Tryd.func89, Tryd.ntmps89
       go_wp2
       go_ret
       exact ⟨by first | rfl , by repeat (first | exact Drawn0.refl _ )⟩
    ·rw [if_neg c46] at H
     have c46b0 : decide (913 ≤ a0) = false := decide_eq_false c46
     clear c46
     by_cases c53 : a0 ≥ 1040
     ·rw [if_pos c53] at H
      have c53b0 : decide (1040 ≤ a0) = true := decide_eq_true c53
      clear c53
      by_cases c54 : a0 ≤ 1071
      ·rw [if_pos c54] at H
       have c54b0 : decide (a0 ≤ 1071) = true := decide_eq_true c54
       clear c54
       obtain rfl := Option.some.inj H
       go_enter Tryd.func89, Tryd.ntmps89
       go_wp2
       go_ret
       exact ⟨by first | rfl , by repeat (first | exact Drawn0.refl _ )⟩
      ·rw [if_neg c54] at H
       have c54b0 : decide (a0 ≤ 1071) = false := decide_eq_false c54
       clear c54
       obtain rfl := Option.some.inj H
       go_enter Tryd.func89, Tryd.ntmps89
       go_wp2
       go_ret
       exact ⟨by first | rfl , by repeat (first | exact Drawn0.refl _ )⟩
     ·rw [if_neg c53] at H
      have c53b0 : decide (1040 ≤ a0) = false := decide_eq_false c53
      clear c53
      obtain rfl := Option.some.inj H
      go_enter Tryd.func89, Tryd.ntmps89
      go_wp2
      go_ret
      exact ⟨by first | rfl , by repeat (first | exact Drawn0.refl _ )⟩
  ·rw [if_neg c34] at H
   have c34b0 : decide (192 ≤ a0) = false := decide_eq_false c34
   clear c34
   by_cases c55 : a0 ≥ 913
   ·rw [if_pos c55] at H
    have c55b0 : decide (913 ≤ a0) = true := decide_eq_true c55
    clear c55
    by_cases c56 : a0 ≤ 937
    ·rw [if_pos c56] at H
     have c56b0 : decide (a0 ≤ 937) = true := decide_eq_true c56
     clear c56
     by_cases c57 : a0 = 930
     ·rw [if_pos c57] at H
      have c57b0 : (a0 == 930) = true := beq_iff_eq.mpr c57
      have c57b1 : (a0 != 930) = false := bne_eq_false_iff_eq.mpr c57
      clear c57
      by_cases c58 : a0 ≥ 1040
      ·rw [if_pos c58] at H
       have c58b0 : decide (1040 ≤ a0) = true := decide_eq_true c58
       clear c58
       by_cases c59 : a0 ≤ 1071
       ·rw [if_pos c59] at H
        have c59b0 : decide (a0 ≤ 1071) = true := decide_eq_true c59
        clear c59
        obtain rfl := Option.some.inj H
        go_enter Tryd.func89, Tryd.ntmps89
        go_wp2
        go_ret
        exact ⟨by first | rfl , by repeat (first | exact Drawn0.refl _ )⟩
       ·rw [if_neg c59] at H
        have c59b0 : decide (a0 ≤ 1071) = false := decide_eq_false c59
        clear c59
        obtain rfl := Option.some.inj H
        go_enter Tryd.func89, Tryd.ntmps89
        go_wp2
        go_ret
        exact ⟨by first | rfl , by repeat (first | exact Drawn0.refl _ )⟩
      ·rw [if_neg c58] at H
       have c58b0 : decide (1040 ≤ a0) = false := decide_eq_false c58
       clear c58
       obtain rfl := Option.some.inj H
       go_enter Tryd.func89, Tryd.ntmps89
       go_wp2
       go_ret
       exact ⟨by first | rfl , by repeat (first | exact Drawn0.refl _ )⟩
     ·rw [if_neg c57] at H
      have c57b0 : (a0 == 930) = false := beq_eq_false_iff_ne.mpr c57
      have c57b1 : (a0 != 930) = true := bne_iff_ne.mpr c57
      obtain rfl := Option.some.inj H
      go_enter Tryd.func89, Tryd.ntmps89
      go_wp2
      go_ret
      exact ⟨by first | rfl , by repeat (first | exact Drawn0.refl _ )⟩
    ·rw [if_neg c56] at H
     have c56b0 : decide (a0 ≤ 937) = false := decide_eq_false c56
     clear c56
     by_cases c60 : a0 ≥ 1040
     ·rw [if_pos c60] at H
      have c60b0 : decide (1040 ≤ a0) = true := decide_eq_true c60
      clear c60
      by_cases c61 : a0 ≤ 1071
      ·rw [if_pos c61] at H
       have c61b0 : decide (a0 ≤ 1071) = true := decide_eq_true c61
       clear c61
       obtain rfl := Option.some.inj H
       go_enter Tryd.func89, Tryd.ntmps89
       go_wp2
       go_ret
       exact ⟨by first | rfl , by repeat (first | exact Drawn0.refl _ )⟩
      ·rw [if_neg c61] at H
       have c61b0 : decide (a0 ≤ 1071) = false := decide_eq_false c61
       clear c61
       obtain rfl := Option.some.inj H
       go_enter Tryd.func89, Tryd.ntmps89
       go_wp2
       go_ret
       exact ⟨by first | rfl , by repeat (first | exact Drawn0.refl _ )⟩
     ·rw [if_neg c60] at H
      have c60b0 : decide (1040 ≤ a0) = false := decide_eq_false c60
      clear c60
      obtain rfl := Option.some.inj H
      go_enter Tryd.func89, Tryd.ntmps89
      go_wp2
      go_ret
      exact ⟨by first | rfl , by repeat (first | exact Drawn0.refl _ )⟩
   ·rw [if_neg c55] at H
    have c55b0 : decide (913 ≤ a0) = false := decide_eq_false c55
    clear c55
    by_cases c62 : a0 ≥ 1040
    ·rw [if_pos c62] at H
     have c62b0 : decide (1040 ≤ a0) = true := decide_eq_true c62
     clear c62
     by_cases c63 : a0 ≤ 1071
     ·rw [if_pos c63] at H
      have c63b0 : decide (a0 ≤ 1071) = true := decide_eq_true c63
      clear c63
      obtain rfl := Option.some.inj H
      go_enter Tryd.func89, Tryd.ntmps89
      go_wp2
      go_ret
      exact ⟨by first | rfl , by repeat (first | exact Drawn0.refl _ )⟩
     ·rw [if_neg c63] at H
      have c63b0 : decide (a0 ≤ 1071) = false := decide_eq_false c63
      clear c63
      obtain rfl := Option.some.inj H
      go_enter Tryd.func89, Tryd.ntmps89
      go_wp2
      go_ret
      exact ⟨by first | rfl , by repeat (first | exact Drawn0.refl _ )⟩
    ·rw [if_neg c62] at H
     have c62b0 : decide (1040 ≤ a0) = false := decide_eq_false c62
     clear c62
     obtain rfl := Option.some.inj H
     go_enter Tryd.func89, Tryd.ntmps89
     go_wp2
     go_ret
     exact ⟨by first | rfl , by repeat (first | exact Drawn0.refl _ )⟩

end Go.Proofs.YtmcochnofkjhaaaDoor.PAll
