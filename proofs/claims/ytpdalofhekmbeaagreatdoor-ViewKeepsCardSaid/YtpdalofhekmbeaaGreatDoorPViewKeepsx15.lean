-- Written by a program of this session over the kit's printer (with contracts of the session's own).
import Derived.Test.YtpdalofhekmbeaaGreatDoorPViewKeepsx0
import Derived.Test.YtpdalofhekmbeaaGreatDoorPViewKeepsx3
import Derived.Test.YtpdalofhekmbeaaGreatDoorPViewKeepsx14
namespace Go.Proofs.YtpdalofhekmbeaaGreatDoor.PViewKeeps
open Go.RowKit Go.Proofs.YtpdalofhekmbeaaGreatDoorW.PrintWords Go.Proofs.YtpdalofhekmbeaaGreatDoorW.PrintLast Go.Proofs.YtpdalofhekmbeaaGreatDoorW.PrintMore
attribute [local go_sem] max2_int min2_int max_two min_two max_three min_three max_four min_four   -- for this text's walks alone
set_option linter.unusedVariables false
set_option linter.unusedSimpArgs false

/-! ### name_Small: function 74 -/
def name_Small.f (a0 : Int) : Option (Int) := (name_between.f a0 65 90).bind fun t312 => (if t312 = true then (some (wrap32 (a0 + 32))) else ((name_between.f a0 192 222).bind fun t313 => (if t313 = true then (if a0 = 215 then ((name_between.f a0 913 937).bind fun t314 => (if t314 = true then (if a0 = 930 then ((name_between.f a0 1040 1071).bind fun t315 => (if t315 = true then (some (wrap32 (a0 + 32))) else (some a0))) else (some (wrap32 (a0 + 32)))) else ((name_between.f a0 1040 1071).bind fun t316 => (if t316 = true then (some (wrap32 (a0 + 32))) else (some a0))))) else (some (wrap32 (a0 + 32)))) else ((name_between.f a0 913 937).bind fun t317 => (if t317 = true then (if a0 = 930 then ((name_between.f a0 1040 1071).bind fun t318 => (if t318 = true then (some (wrap32 (a0 + 32))) else (some a0))) else (some (wrap32 (a0 + 32)))) else ((name_between.f a0 1040 1071).bind fun t319 => (if t319 = true then (some (wrap32 (a0 + 32))) else (some a0))))))))
set_option maxHeartbeats 8000000 in
set_option maxRecDepth 100000 in
theorem name_Small.calls (a0 : Int) (r : Int) (w : World) (h : name_Small.f a0 = some r) :
  Calls Tryz.prog 74 #[.int .i32 a0] w fun e w' => e = .returned (.int .i32 r) ∧ Drawn0 w w' := by
 have H : ((name_between.f a0 65 90).bind fun t312 => (if t312 = true then (some (wrap32 (a0 + 32))) else ((name_between.f a0 192 222).bind fun t313 => (if t313 = true then (if a0 = 215 then ((name_between.f a0 913 937).bind fun t314 => (if t314 = true then (if a0 = 930 then ((name_between.f a0 1040 1071).bind fun t315 => (if t315 = true then (some (wrap32 (a0 + 32))) else (some a0))) else (some (wrap32 (a0 + 32)))) else ((name_between.f a0 1040 1071).bind fun t316 => (if t316 = true then (some (wrap32 (a0 + 32))) else (some a0))))) else (some (wrap32 (a0 + 32)))) else ((name_between.f a0 913 937).bind fun t317 => (if t317 = true then (if a0 = 930 then ((name_between.f a0 1040 1071).bind fun t318 => (if t318 = true then (some (wrap32 (a0 + 32))) else (some a0))) else (some (wrap32 (a0 + 32)))) else ((name_between.f a0 1040 1071).bind fun t319 => (if t319 = true then (some (wrap32 (a0 + 32))) else (some a0))))))))) = some r := h
 clear h
 replace H := Option.bind_eq_some_iff.mp H
 obtain ⟨t312, A20, H⟩ := H
 replace H : (if t312 = true then (some (wrap32 (a0 + 32))) else ((name_between.f a0 192 222).bind fun t313 => (if t313 = true then (if a0 = 215 then ((name_between.f a0 913 937).bind fun t314 => (if t314 = true then (if a0 = 930 then ((name_between.f a0 1040 1071).bind fun t315 => (if t315 = true then (some (wrap32 (a0 + 32))) else (some a0))) else (some (wrap32 (a0 + 32)))) else ((name_between.f a0 1040 1071).bind fun t316 => (if t316 = true then (some (wrap32 (a0 + 32))) else (some a0))))) else (some (wrap32 (a0 + 32)))) else ((name_between.f a0 913 937).bind fun t317 => (if t317 = true then (if a0 = 930 then ((name_between.f a0 1040 1071).bind fun t318 => (if t318 = true then (some (wrap32 (a0 + 32))) else (some a0))) else (some (wrap32 (a0 + 32)))) else ((name_between.f a0 1040 1071).bind fun t319 => (if t319 = true then (some (wrap32 (a0 + 32))) else (some a0)))))))) = some r := H
 have A2 := Aside0.mk A20
 clear A20
 by_cases c3 : t312 = true
 ·subst c3
  have H1 : (some (wrap32 (a0 + 32))) = some r := by rw [if_pos rfl] at H; exact H
  clear H
  have H := H1
  clear H1
  obtain rfl := Option.some.inj H
  go_enter Tryz.func74, Tryz.ntmps74
  go_wp2_with (first | ((with_reducible refine gate_callee (f := 87) rfl ?_); refine goesL_ (some 4) rfl rfl Tryz.func87 (by kernel_rfl) rfl #[.int .i32 a0, .int .i32 65, .int .i32 90] rfl (by (try simp only [List.map_toArray, List.map_cons, List.map_nil]); first | rfl ) ?_; (with_reducible refine (name_between.calls a0 65 90 true _ A2.out).mono ?_); rintro e w' ⟨rfl, ⟨nd, rfl⟩⟩; refine ⟨_, rfl, ?_⟩))
  go_ret
  exact ⟨by first | rfl , by repeat (first | exact Drawn0.refl _ | apply Drawn0.step)⟩
 ·replace c3 := Bool.eq_false_iff.mpr c3
  subst c3
  have H1 : ((name_between.f a0 192 222).bind fun t313 => (if t313 = true then (if a0 = 215 then ((name_between.f a0 913 937).bind fun t314 => (if t314 = true then (if a0 = 930 then ((name_between.f a0 1040 1071).bind fun t315 => (if t315 = true then (some (wrap32 (a0 + 32))) else (some a0))) else (some (wrap32 (a0 + 32)))) else ((name_between.f a0 1040 1071).bind fun t316 => (if t316 = true then (some (wrap32 (a0 + 32))) else (some a0))))) else (some (wrap32 (a0 + 32)))) else ((name_between.f a0 913 937).bind fun t317 => (if t317 = true then (if a0 = 930 then ((name_between.f a0 1040 1071).bind fun t318 => (if t318 = true then (some (wrap32 (a0 + 32))) else (some a0))) else (some (wrap32 (a0 + 32)))) else ((name_between.f a0 1040 1071).bind fun t319 => (if t319 = true then (some (wrap32 (a0 + 32))) else (some a0))))))) = some r := by rw [if_neg (show ¬ (false = true) by decide)] at H; exact H
  clear H
  have H := H1
  clear H1
  replace H := Option.bind_eq_some_iff.mp H
  obtain ⟨t313, A40, H⟩ := H
  replace H : (if t313 = true then (if a0 = 215 then ((name_between.f a0 913 937).bind fun t314 => (if t314 = true then (if a0 = 930 then ((name_between.f a0 1040 1071).bind fun t315 => (if t315 = true then (some (wrap32 (a0 + 32))) else (some a0))) else (some (wrap32 (a0 + 32)))) else ((name_between.f a0 1040 1071).bind fun t316 => (if t316 = true then (some (wrap32 (a0 + 32))) else (some a0))))) else (some (wrap32 (a0 + 32)))) else ((name_between.f a0 913 937).bind fun t317 => (if t317 = true then (if a0 = 930 then ((name_between.f a0 1040 1071).bind fun t318 => (if t318 = true then (some (wrap32 (a0 + 32))) else (some a0))) else (some (wrap32 (a0 + 32)))) else ((name_between.f a0 1040 1071).bind fun t319 => (if t319 = true then (some (wrap32 (a0 + 32))) else (some a0)))))) = some r := H
  have A4 := Aside0.mk A40
  clear A40
  by_cases c5 : t313 = true
  ·subst c5
   have H1 : (if a0 = 215 then ((name_between.f a0 913 937).bind fun t314 => (if t314 = true then (if a0 = 930 then ((name_between.f a0 1040 1071).bind fun t315 => (if t315 = true then (some (wrap32 (a0 + 32))) else (some a0))) else (some (wrap32 (a0 + 32)))) else ((name_between.f a0 1040 1071).bind fun t316 => (if t316 = true then (some (wrap32 (a0 + 32))) else (some a0))))) else (some (wrap32 (a0 + 32)))) = some r := by rw [if_pos rfl] at H; exact H
   clear H
   have H := H1
   clear H1
   by_cases c6 : a0 = 215
   ·rw [if_pos c6] at H
    have c6b0 : (a0 == 215) = true := beq_iff_eq.mpr c6
    have c6b1 : (a0 != 215) = false := bne_eq_false_iff_eq.mpr c6
    clear c6
    replace H := Option.bind_eq_some_iff.mp H
    obtain ⟨t314, A70, H⟩ := H
    replace H : (if t314 = true then (if a0 = 930 then ((name_between.f a0 1040 1071).bind fun t315 => (if t315 = true then (some (wrap32 (a0 + 32))) else (some a0))) else (some (wrap32 (a0 + 32)))) else ((name_between.f a0 1040 1071).bind fun t316 => (if t316 = true then (some (wrap32 (a0 + 32))) else (some a0)))) = some r := H
    have A7 := Aside0.mk A70
    clear A70
    by_cases c8 : t314 = true
    ·subst c8
     have H1 : (if a0 = 930 then ((name_between.f a0 1040 1071).bind fun t315 => (if t315 = true then (some (wrap32 (a0 + 32))) else (some a0))) else (some (wrap32 (a0 + 32)))) = some r := by rw [if_pos rfl] at H; exact H
     clear H
     have H := H1
     clear H1
     by_cases c9 : a0 = 930
     ·rw [if_pos c9] at H
      have c9b0 : (a0 == 930) = true := beq_iff_eq.mpr c9
      have c9b1 : (a0 != 930) = false := bne_eq_false_iff_eq.mpr c9
      clear c9
      replace H := Option.bind_eq_some_iff.mp H
      obtain ⟨t315, A100, H⟩ := H
      replace H : (if t315 = true then (some (wrap32 (a0 + 32))) else (some a0)) = some r := H
      have A10 := Aside0.mk A100
      clear A100
      by_cases c11 : t315 = true
      ·subst c11
       have H1 : (some (wrap32 (a0 + 32))) = some r := by rw [if_pos rfl] at H; exact H
       clear H
       have H := H1
       clear H1
       obtain rfl := Option.some.inj H
       go_enter Tryz.func74, Tryz.ntmps74
       go_wp2_with (first | ((with_reducible refine gate_callee (f := 87) rfl ?_); refine goesL_ (some 4) rfl rfl Tryz.func87 (by kernel_rfl) rfl #[.int .i32 a0, .int .i32 65, .int .i32 90] rfl (by (try simp only [List.map_toArray, List.map_cons, List.map_nil]); first | rfl ) ?_; (with_reducible refine (name_between.calls a0 65 90 false _ A2.out).mono ?_); rintro e w' ⟨rfl, ⟨nd, rfl⟩⟩; refine ⟨_, rfl, ?_⟩) | (go_at_call 87; (with_reducible refine (name_between.calls a0 192 222 true _ A4.out).mono ?_); rintro e w' ⟨rfl, ⟨nd, rfl⟩⟩) | (go_at_call 87; (with_reducible refine (name_between.calls a0 913 937 true _ A7.out).mono ?_); rintro e w' ⟨rfl, ⟨nd, rfl⟩⟩) | (go_at_call 87; (with_reducible refine (name_between.calls a0 1040 1071 true _ A10.out).mono ?_); rintro e w' ⟨rfl, ⟨nd, rfl⟩⟩))
       go_ret
       exact ⟨by first | rfl , by repeat (first | exact Drawn0.refl _ | apply Drawn0.step)⟩
      ·replace c11 := Bool.eq_false_iff.mpr c11
       subst c11
       have H1 : (some a0) = some r := by rw [if_neg (show ¬ (false = true) by decide)] at H; exact H
       clear H
       have H := H1
       clear H1
       obtain rfl := Option.some.inj H
       go_enter Tryz.func74, Tryz.ntmps74
       go_wp2_with (first | ((with_reducible refine gate_callee (f := 87) rfl ?_); refine goesL_ (some 4) rfl rfl Tryz.func87 (by kernel_rfl) rfl #[.int .i32 a0, .int .i32 65, .int .i32 90] rfl (by (try simp only [List.map_toArray, List.map_cons, List.map_nil]); first | rfl ) ?_; (with_reducible refine (name_between.calls a0 65 90 false _ A2.out).mono ?_); rintro e w' ⟨rfl, ⟨nd, rfl⟩⟩; refine ⟨_, rfl, ?_⟩) | (go_at_call 87; (with_reducible refine (name_between.calls a0 192 222 true _ A4.out).mono ?_); rintro e w' ⟨rfl, ⟨nd, rfl⟩⟩) | (go_at_call 87; (with_reducible refine (name_between.calls a0 913 937 true _ A7.out).mono ?_); rintro e w' ⟨rfl, ⟨nd, rfl⟩⟩) | (go_at_call 87; (with_reducible refine (name_between.calls a0 1040 1071 false _ A10.out).mono ?_); rintro e w' ⟨rfl, ⟨nd, rfl⟩⟩))
       go_ret
       exact ⟨by first | rfl , by repeat (first | exact Drawn0.refl _ | apply Drawn0.step)⟩
     ·rw [if_neg c9] at H
      have c9b0 : (a0 == 930) = false := beq_eq_false_iff_ne.mpr c9
      have c9b1 : (a0 != 930) = true := bne_iff_ne.mpr c9
      obtain rfl := Option.some.inj H
      go_enter Tryz.func74, Tryz.ntmps74
      go_wp2_with (first | ((with_reducible refine gate_callee (f := 87) rfl ?_); refine goesL_ (some 4) rfl rfl Tryz.func87 (by kernel_rfl) rfl #[.int .i32 a0, .int .i32 65, .int .i32 90] rfl (by (try simp only [List.map_toArray, List.map_cons, List.map_nil]); first | rfl ) ?_; (with_reducible refine (name_between.calls a0 65 90 false _ A2.out).mono ?_); rintro e w' ⟨rfl, ⟨nd, rfl⟩⟩; refine ⟨_, rfl, ?_⟩) | (go_at_call 87; (with_reducible refine (name_between.calls a0 192 222 true _ A4.out).mono ?_); rintro e w' ⟨rfl, ⟨nd, rfl⟩⟩) | (go_at_call 87; (with_reducible refine (name_between.calls a0 913 937 true _ A7.out).mono ?_); rintro e w' ⟨rfl, ⟨nd, rfl⟩⟩))
      go_ret
      exact ⟨by first | rfl , by repeat (first | exact Drawn0.refl _ | apply Drawn0.step)⟩
    ·replace c8 := Bool.eq_false_iff.mpr c8
     subst c8
     have H1 : ((name_between.f a0 1040 1071).bind fun t316 => (if t316 = true then (some (wrap32 (a0 + 32))) else (some a0))) = some r := by rw [if_neg (show ¬ (false = true) by decide)] at H; exact H
     clear H
     have H := H1
     clear H1
     replace H := Option.bind_eq_some_iff.mp H
     obtain ⟨t316, A120, H⟩ := H
     replace H : (if t316 = true then (some (wrap32 (a0 + 32))) else (some a0)) = some r := H
     have A12 := Aside0.mk A120
     clear A120
     by_cases c13 : t316 = true
     ·subst c13
      have H1 : (some (wrap32 (a0 + 32))) = some r := by rw [if_pos rfl] at H; exact H
      clear H
      have H := H1
      clear H1
      obtain rfl := Option.some.inj H
      go_enter Tryz.func74, Tryz.ntmps74
      go_wp2_with (first | ((with_reducible refine gate_callee (f := 87) rfl ?_); refine goesL_ (some 4) rfl rfl Tryz.func87 (by kernel_rfl) rfl #[.int .i32 a0, .int .i32 65, .int .i32 90] rfl (by (try simp only [List.map_toArray, List.map_cons, List.map_nil]); first | rfl ) ?_; (with_reducible refine (name_between.calls a0 65 90 false _ A2.out).mono ?_); rintro e w' ⟨rfl, ⟨nd, rfl⟩⟩; refine ⟨_, rfl, ?_⟩) | (go_at_call 87; (with_reducible refine (name_between.calls a0 192 222 true _ A4.out).mono ?_); rintro e w' ⟨rfl, ⟨nd, rfl⟩⟩) | (go_at_call 87; (with_reducible refine (name_between.calls a0 913 937 false _ A7.out).mono ?_); rintro e w' ⟨rfl, ⟨nd, rfl⟩⟩) | (go_at_call 87; (with_reducible refine (name_between.calls a0 1040 1071 true _ A12.out).mono ?_); rintro e w' ⟨rfl, ⟨nd, rfl⟩⟩))
      go_ret
      exact ⟨by first | rfl , by repeat (first | exact Drawn0.refl _ | apply Drawn0.step)⟩
     ·replace c13 := Bool.eq_false_iff.mpr c13
      subst c13
      have H1 : (some a0) = some r := by rw [if_neg (show ¬ (false = true) by decide)] at H; exact H
      clear H
      have H := H1
      clear H1
      obtain rfl := Option.some.inj H
      go_enter Tryz.func74, Tryz.ntmps74
      go_wp2_with (first | ((with_reducible refine gate_callee (f := 87) rfl ?_); refine goesL_ (some 4) rfl rfl Tryz.func87 (by kernel_rfl) rfl #[.int .i32 a0, .int .i32 65, .int .i32 90] rfl (by (try simp only [List.map_toArray, List.map_cons, List.map_nil]); first | rfl ) ?_; (with_reducible refine (name_between.calls a0 65 90 false _ A2.out).mono ?_); rintro e w' ⟨rfl, ⟨nd, rfl⟩⟩; refine ⟨_, rfl, ?_⟩) | (go_at_call 87; (with_reducible refine (name_between.calls a0 192 222 true _ A4.out).mono ?_); rintro e w' ⟨rfl, ⟨nd, rfl⟩⟩) | (go_at_call 87; (with_reducible refine (name_between.calls a0 913 937 false _ A7.out).mono ?_); rintro e w' ⟨rfl, ⟨nd, rfl⟩⟩) | (go_at_call 87; (with_reducible refine (name_between.calls a0 1040 1071 false _ A12.out).mono ?_); rintro e w' ⟨rfl, ⟨nd, rfl⟩⟩))
      go_ret
      exact ⟨by first | rfl , by repeat (first | exact Drawn0.refl _ | apply Drawn0.step)⟩
   ·rw [if_neg c6] at H
    have c6b0 : (a0 == 215) = false := beq_eq_false_iff_ne.mpr c6
    have c6b1 : (a0 != 215) = true := bne_iff_ne.mpr c6
    obtain rfl := Option.some.inj H
    go_enter Tryz.func74, Tryz.ntmps74
    go_wp2_with (first | ((with_reducible refine gate_callee (f := 87) rfl ?_); refine goesL_ (some 4) rfl rfl Tryz.func87 (by kernel_rfl) rfl #[.int .i32 a0, .int .i32 65, .int .i32 90] rfl (by (try simp only [List.map_toArray, List.map_cons, List.map_nil]); first | rfl ) ?_; (with_reducible refine (name_between.calls a0 65 90 false _ A2.out).mono ?_); rintro e w' ⟨rfl, ⟨nd, rfl⟩⟩; refine ⟨_, rfl, ?_⟩) | (go_at_call 87; (with_reducible refine (name_between.calls a0 192 222 true _ A4.out).mono ?_); rintro e w' ⟨rfl, ⟨nd, rfl⟩⟩))
    go_ret
    exact ⟨by first | rfl , by repeat (first | exact Drawn0.refl _ | apply Drawn0.step)⟩
  ·replace c5 := Bool.eq_false_iff.mpr c5
   subst c5
   have H1 : ((name_between.f a0 913 937).bind fun t317 => (if t317 = true then (if a0 = 930 then ((name_between.f a0 1040 1071).bind fun t318 => (if t318 = true then (some (wrap32 (a0 + 32))) else (some a0))) else (some (wrap32 (a0 + 32)))) else ((name_between.f a0 1040 1071).bind fun t319 => (if t319 = true then (some (wrap32 (a0 + 32))) else (some a0))))) = some r := by rw [if_neg (show ¬ (false = true) by decide)] at H; exact H
   clear H
   have H := H1
   clear H1
   replace H := Option.bind_eq_some_iff.mp H
   obtain ⟨t317, A140, H⟩ := H
   replace H : (if t317 = true then (if a0 = 930 then ((name_between.f a0 1040 1071).bind fun t318 => (if t318 = true then (some (wrap32 (a0 + 32))) else (some a0))) else (some (wrap32 (a0 + 32)))) else ((name_between.f a0 1040 1071).bind fun t319 => (if t319 = true then (some (wrap32 (a0 + 32))) else (some a0)))) = some r := H
   have A14 := Aside0.mk A140
   clear A140
   by_cases c15 : t317 = true
   ·subst c15
    have H1 : (if a0 = 930 then ((name_between.f a0 1040 1071).bind fun t318 => (if t318 = true then (some (wrap32 (a0 + 32))) else (some a0))) else (some (wrap32 (a0 + 32)))) = some r := by rw [if_pos rfl] at H; exact H
    clear H
    have H := H1
    clear H1
    by_cases c16 : a0 = 930
    ·rw [if_pos c16] at H
     have c16b0 : (a0 == 930) = true := beq_iff_eq.mpr c16
     have c16b1 : (a0 != 930) = false := bne_eq_false_iff_eq.mpr c16
     clear c16
     replace H := Option.bind_eq_some_iff.mp H
     obtain ⟨t318, A170, H⟩ := H
     replace H : (if t318 = true then (some (wrap32 (a0 + 32))) else (some a0)) = some r := H
     have A17 := Aside0.mk A170
     clear A170
     by_cases c18 : t318 = true
     ·subst c18
      have H1 : (some (wrap32 (a0 + 32))) = some r := by rw [if_pos rfl] at H; exact H
      clear H
      have H := H1
      clear H1
      obtain rfl := Option.some.inj H
      go_enter Tryz.func74, Tryz.ntmps74
      go_wp2_with (first | ((with_reducible refine gate_callee (f := 87) rfl ?_); refine goesL_ (some 4) rfl rfl Tryz.func87 (by kernel_rfl) rfl #[.int .i32 a0, .int .i32 65, .int .i32 90] rfl (by (try simp only [List.map_toArray, List.map_cons, List.map_nil]); first | rfl ) ?_; (with_reducible refine (name_between.calls a0 65 90 false _ A2.out).mono ?_); rintro e w' ⟨rfl, ⟨nd, rfl⟩⟩; refine ⟨_, rfl, ?_⟩) | (go_at_call 87; (with_reducible refine (name_between.calls a0 192 222 false _ A4.out).mono ?_); rintro e w' ⟨rfl, ⟨nd, rfl⟩⟩) | (go_at_call 87; (with_reducible refine (name_between.calls a0 913 937 true _ A14.out).mono ?_); rintro e w' ⟨rfl, ⟨nd, rfl⟩⟩) | (go_at_call 87; (with_reducible refine (name_between.calls a0 1040 1071 true _ A17.out).mono ?_); rintro e w' ⟨rfl, ⟨nd, rfl⟩⟩))
      go_ret
      exact ⟨by first | rfl , by repeat (first | exact Drawn0.refl _ | apply Drawn0.step)⟩
     ·replace c18 := Bool.eq_false_iff.mpr c18
      subst c18
      have H1 : (some a0) = some r := by rw [if_neg (show ¬ (false = true) by decide)] at H; exact H
      clear H
      have H := H1
      clear H1
      obtain rfl := Option.some.inj H
      go_enter Tryz.func74, Tryz.ntmps74
      go_wp2_with (first | ((with_reducible refine gate_callee (f := 87) rfl ?_); refine goesL_ (some 4) rfl rfl Tryz.func87 (by kernel_rfl) rfl #[.int .i32 a0, .int .i32 65, .int .i32 90] rfl (by (try simp only [List.map_toArray, List.map_cons, List.map_nil]); first | rfl ) ?_; (with_reducible refine (name_between.calls a0 65 90 false _ A2.out).mono ?_); rintro e w' ⟨rfl, ⟨nd, rfl⟩⟩; refine ⟨_, rfl, ?_⟩) | (go_at_call 87; (with_reducible refine (name_between.calls a0 192 222 false _ A4.out).mono ?_); rintro e w' ⟨rfl, ⟨nd, rfl⟩⟩) | (go_at_call 87; (with_reducible refine (name_between.calls a0 913 937 true _ A14.out).mono ?_); rintro e w' ⟨rfl, ⟨nd, rfl⟩⟩) | (go_at_call 87; (with_reducible refine (name_between.calls a0 1040 1071 false _ A17.out).mono ?_); rintro e w' ⟨rfl, ⟨nd, rfl⟩⟩))
      go_ret
      exact ⟨by first | rfl , by repeat (first | exact Drawn0.refl _ | apply Drawn0.step)⟩
    ·rw [if_neg c16] at H
     have c16b0 : (a0 == 930) = false := beq_eq_false_iff_ne.mpr c16
     have c16b1 : (a0 != 930) = true := bne_iff_ne.mpr c16
     obtain rfl := Option.some.inj H
     go_enter Tryz.func74, Tryz.ntmps74
     go_wp2_with (first | ((with_reducible refine gate_callee (f := 87) rfl ?_); refine goesL_ (some 4) rfl rfl Tryz.func87 (by kernel_rfl) rfl #[.int .i32 a0, .int .i32 65, .int .i32 90] rfl (by (try simp only [List.map_toArray, List.map_cons, List.map_nil]); first | rfl ) ?_; (with_reducible refine (name_between.calls a0 65 90 false _ A2.out).mono ?_); rintro e w' ⟨rfl, ⟨nd, rfl⟩⟩; refine ⟨_, rfl, ?_⟩) | (go_at_call 87; (with_reducible refine (name_between.calls a0 192 222 false _ A4.out).mono ?_); rintro e w' ⟨rfl, ⟨nd, rfl⟩⟩) | (go_at_call 87; (with_reducible refine (name_between.calls a0 913 937 true _ A14.out).mono ?_); rintro e w' ⟨rfl, ⟨nd, rfl⟩⟩))
     go_ret
     exact ⟨by first | rfl , by repeat (first | exact Drawn0.refl _ | apply Drawn0.step)⟩
   ·replace c15 := Bool.eq_false_iff.mpr c15
    subst c15
    have H1 : ((name_between.f a0 1040 1071).bind fun t319 => (if t319 = true then (some (wrap32 (a0 + 32))) else (some a0))) = some r := by rw [if_neg (show ¬ (false = true) by decide)] at H; exact H
    clear H
    have H := H1
    clear H1
    replace H := Option.bind_eq_some_iff.mp H
    obtain ⟨t319, A190, H⟩ := H
    replace H : (if t319 = true then (some (wrap32 (a0 + 32))) else (some a0)) = some r := H
    have A19 := Aside0.mk A190
    clear A190
    by_cases c20 : t319 = true
    ·subst c20
     have H1 : (some (wrap32 (a0 + 32))) = some r := by rw [if_pos rfl] at H; exact H
     clear H
     have H := H1
     clear H1
     obtain rfl := Option.some.inj H
     go_enter Tryz.func74, Tryz.ntmps74
     go_wp2_with (first | ((with_reducible refine gate_callee (f := 87) rfl ?_); refine goesL_ (some 4) rfl rfl Tryz.func87 (by kernel_rfl) rfl #[.int .i32 a0, .int .i32 65, .int .i32 90] rfl (by (try simp only [List.map_toArray, List.map_cons, List.map_nil]); first | rfl ) ?_; (with_reducible refine (name_between.calls a0 65 90 false _ A2.out).mono ?_); rintro e w' ⟨rfl, ⟨nd, rfl⟩⟩; refine ⟨_, rfl, ?_⟩) | (go_at_call 87; (with_reducible refine (name_between.calls a0 192 222 false _ A4.out).mono ?_); rintro e w' ⟨rfl, ⟨nd, rfl⟩⟩) | (go_at_call 87; (with_reducible refine (name_between.calls a0 913 937 false _ A14.out).mono ?_); rintro e w' ⟨rfl, ⟨nd, rfl⟩⟩) | (go_at_call 87; (with_reducible refine (name_between.calls a0 1040 1071 true _ A19.out).mono ?_); rintro e w' ⟨rfl, ⟨nd, rfl⟩⟩))
     go_ret
     exact ⟨by first | rfl , by repeat (first | exact Drawn0.refl _ | apply Drawn0.step)⟩
    ·replace c20 := Bool.eq_false_iff.mpr c20
     subst c20
     have H1 : (some a0) = some r := by rw [if_neg (show ¬ (false = true) by decide)] at H; exact H
     clear H
     have H := H1
     clear H1
     obtain rfl := Option.some.inj H
     go_enter Tryz.func74, Tryz.ntmps74
     go_wp2_with (first | ((with_reducible refine gate_callee (f := 87) rfl ?_); refine goesL_ (some 4) rfl rfl Tryz.func87 (by kernel_rfl) rfl #[.int .i32 a0, .int .i32 65, .int .i32 90] rfl (by (try simp only [List.map_toArray, List.map_cons, List.map_nil]); first | rfl ) ?_; (with_reducible refine (name_between.calls a0 65 90 false _ A2.out).mono ?_); rintro e w' ⟨rfl, ⟨nd, rfl⟩⟩; refine ⟨_, rfl, ?_⟩) | (go_at_call 87; (with_reducible refine (name_between.calls a0 192 222 false _ A4.out).mono ?_); rintro e w' ⟨rfl, ⟨nd, rfl⟩⟩) | (go_at_call 87; (with_reducible refine (name_between.calls a0 913 937 false _ A14.out).mono ?_); rintro e w' ⟨rfl, ⟨nd, rfl⟩⟩) | (go_at_call 87; (with_reducible refine (name_between.calls a0 1040 1071 false _ A19.out).mono ?_); rintro e w' ⟨rfl, ⟨nd, rfl⟩⟩))
     go_ret
     exact ⟨by first | rfl , by repeat (first | exact Drawn0.refl _ | apply Drawn0.step)⟩

/-! ### name_Fold: function 45 (a contract of this session's own) -/
theorem name_Small.is (c : Int) (h0 : -2147483648 ≤ c) (h1 : c ≤ 2147483647) : name_Small.f c = some (NC.smallZ c) := by
  have hw : ∀ x : Int, 0 ≤ x → x ≤ 2000000 → wrap32 x = x := by intro x a b; unfold wrap32; omega
  have hb : ∀ a b : Int, name_between.f c a b = some (decide (a ≤ c ∧ c ≤ b)) := by
    intro a b
    unfold name_between.f
    by_cases h : a ≤ c
    · rw [if_pos (show c ≥ a from h)]; simp [h]
    · rw [if_neg (show ¬ c ≥ a from h)]; simp [h]
  unfold name_Small.f NC.smallZ
  simp only [hb, Option.bind_some, decide_eq_true_eq]
  repeat' split
  all_goals first | (exfalso; omega) | rfl | (rw [hw _ (by omega) (by omega)])
def name_Fold.f (a0 : ByteArray) : Option ByteArray := if a0.size ≤ 17592186044416 then some (NC.foldB a0) else none
theorem name_Fold.conv {W : World} {base : Nat} {ok : Nat → Prop} {v : Value} {xs : List Int} (h : (Kd.int .i32).R 21 W base ok v xs) : (convert 108 9 v).run Tryz.prog W = .ok (.string (runesBytes xs)) W := by
  obtain ⟨A, c, rfl, hc, hr⟩ := Kd.R_reads h
  cases A with
  | none =>
    have hx : xs = [] := by
      rcases Nat.eq_zero_or_pos xs.length with h0 | h0
      · exact List.eq_nil_of_length_eq_zero h0
      · obtain ⟨ad, h, _⟩ := hr.2.2 h0
        cases h
    subst hx
    exact run_convert_runes_nil W _ _ _ _ _ Tryz.underlying108 Tryz.underlying21 Tryz.underlying9
  | some a =>
    have := run_convert_runes W _ _ _ a xs.length c xs (Nat.le_refl _) Tryz.underlying108 Tryz.underlying21 Tryz.underlying9 (fun j hj => by
      obtain ⟨ad, e, hx⟩ := Kd.at_int hr (j : Int) (by omega) (by omega)
      cases e
      simpa [rd] using hx)
    rw [List.take_length] at this
    exact this
set_option maxHeartbeats 4000000 in
set_option maxRecDepth 100000 in
theorem name_Fold.calls (a0 : ByteArray) (r : ByteArray) (w : World) (h : name_Fold.f a0 = some r) (hT : NC.TabW w) :
    Calls Tryz.prog 45 #[.string a0] w fun e w' => e = .returned (.string r) ∧ Below w.heap.size w w' := by
  unfold name_Fold.f at h
  by_cases hs : a0.size ≤ 17592186044416
  case neg => rw [if_neg hs] at h; cases h
  rw [if_pos hs] at h
  obtain rfl := Option.some.inj h
  clear h
  have HS := Aside0.mk hs
  by_cases hv : Lib.validD a0.data.toList = true
  · have HF := Aside0.mk (show NC.foldB a0 = runesBytes ((NC.runes a0).map NC.smallZ) by unfold NC.foldB; rw [if_pos hv])
    have hc1 := utf8_ValidString.calls a0 true w (by unfold utf8_ValidString.f; rw [if_pos (by omega), hv]) hT
    clear hv hs
    go_enter Tryz.func45, Tryz.ntmps45
    go_wp2_with (go_at_call 73; refine hc1.mono ?_; rintro e w1 ⟨rfl, hb1⟩)
    go_loopw [3, 5] (fun v3 _ wr => ∃ (pos fuel : Nat) (acc : List Int), Aside0 ((Kd.int .i32).R 21 wr w.heap.size (fun k => k ≠ w1.heap.size) v3 acc) ∧ Aside0 (wr.heap[w1.heap.size]? = some (.stringIter a0 pos)) ∧ Aside0 (Below w.heap.size w wr) ∧ Aside0 (acc ++ (NC.runesL a0 fuel pos).map NC.smallZ = (NC.runes a0).map NC.smallZ) ∧ Aside0 (a0.size ≤ pos + fuel) ∧ Aside0 (acc.length ≤ pos)) (fun _ _ wr => a0.size - wr.iterPos w1.heap.size)
    case atStart =>
      refine ⟨0, a0.size, [], ⟨Kd.R_nil _ _ _ _ _⟩, ⟨?_⟩, ⟨hb1.trans ((Below.refl _ _).alloc hb1.size _)⟩, ⟨by simp [NC.runes]⟩, ⟨by omega⟩, ⟨by simp⟩⟩
      have := World.iter_heap w1 a0 0
      simpa using this
    case round =>
      obtain ⟨pos, fuel, acc, HR, HI, HB, HA, HFu, HL⟩ := hrel
      have hsz : w1.heap.size < wr.heap.size := (Array.getElem?_eq_some_iff.1 HI.out).1
      have hszw : w.heap.size ≤ w1.heap.size := hb1.size
      by_cases hp : pos < a0.size
      · have hnx : ∀ ty, (Instr.next (.pointer (some ⟨w1.heap.size, 0, none⟩)) true ty).run Tryz.prog wr = _ := fun ty => Lib.run_next_any_at wr w1.heap.size a0 pos ty HI.out hp
        have hwd := Lib.decode_width_pos a0 pos hp
        have hd1 := decode_le a0 pos
        have hfu := HFu.out
        obtain ⟨f, rfl⟩ : ∃ f, fuel = f + 1 := ⟨fuel - 1, by omega⟩
        have HA2 := Aside0.mk (show (acc ++ [NC.smallZ ((Utf8.decode a0 pos).1 : Int)]) ++ (NC.runesL a0 f (pos + (Utf8.decode a0 pos).2)).map NC.smallZ = (NC.runes a0).map NC.smallZ by
          rw [← HA.out]; simp [NC.runesL, hp])
        have HL2 := Aside0.mk (show (acc ++ [NC.smallZ ((Utf8.decode a0 pos).1 : Int)]).length ≤ pos + (Utf8.decode a0 pos).2 by have := HL.out; simp; omega)
        have HF2 := Aside0.mk (show a0.size ≤ (pos + (Utf8.decode a0 pos).2) + f by omega)
        have hlen : (acc.length + 1) * 4 ≤ 140737488355328 := by have := HL.out; have := HS.out; omega
        have HLN := Aside0.mk hlen
        have hnm := name_Small.is ((Utf8.decode a0 pos).1 : Int) (by omega) (by omega)
        have HNM := Aside0.mk hnm
        generalize hcz : NC.smallZ ((Utf8.decode a0 pos).1 : Int) = z at HA2 HL2 HNM
        generalize hcw : pos + (Utf8.decode a0 pos).2 = pos2 at hnx HA2 HL2 HF2
        have HP2 := Aside0.mk (show pos < pos2 by omega)
        generalize hcd : ((Utf8.decode a0 pos).1 : Int) = c at hnx HNM
        obtain ⟨W, hW⟩ : ∃ W, wr.iterAt w1.heap.size a0 pos2 = W := ⟨_, rfl⟩
        have HIW := Aside0.mk (show W.heap[w1.heap.size]? = some (.stringIter a0 pos2) by rw [← hW]; exact Lib.iterAt_heap wr w1.heap.size a0 pos pos2 HI.out)
        have HRW := Aside0.mk (show (Kd.int .i32).R 21 W w.heap.size (fun k => k ≠ w1.heap.size) u3 acc by rw [← hW]; exact Kd.R_step HR.out (fun k hk _ => Lib.iterAt_other wr w1.heap.size k a0 pos2 hk))
        have HBW := Aside0.mk (show Below w.heap.size w W by rw [← hW]; exact Lib.below_iterAt HB.out hszw a0 pos2)
        have HSW := Aside0.mk (show wr.heap.size = W.heap.size by rw [← hW]; exact (Lib.iterAt_size wr w1.heap.size a0 pos2).symm)
        rw [hW] at hnx
        clear hW hcz hcw hcd hnm hlen hfu hd1 hwd HA HL HFu HB HR
        have HSZ := Aside0.mk hsz
        have HSZW := Aside0.mk hszw
        clear hsz hszw
        go_wp2_with (first
          | (go_at_call 74; refine (name_Small.calls c z _ HNM.out).mono ?_; rintro e w2 ⟨rfl, hdr⟩; obtain ⟨nd, rfl⟩ := hdr.out)
          | ((with_reducible refine gate_builtin (b := .append) (xs := #[.tmp 15, .tmp 18]) rfl ?_); at_builtin; refine Kd.R_append (Kd.int .i32) (w0 := w) w.heap.size rfl (.tmp 15) (.tmp 18) 108 21 (.int .i32 0) 4 rfl Tryz.underlying108 NC.infoRune rfl (by decide) (by omega) u3 acc z [.int .i32 z] (fun k => k ≠ w1.heap.size) (fun _ => False) rfl (by first | (go_simp; done) ) ?aP (fun _ hk => hk.elim) ?aF ?aO ?aB ?aS ?aL ?_; (case aP => exact rfl); (case aB => exact (pw_below_drewN HBW.out _)); (case aF => exact (fun k hk => by have h1 := HSW.out; have h2 := HSZ.out; have h3 : W.heap.size ≤ k := hk; omega)); (case aO => exact Kd.R_drewN HRW.out _); (case aS => exact HBW.out.size); (case aL => exact HLN.out); intro v5 w5 ho hb hg hat; have HO5 := Aside0.mk ho; have HB5 := Aside0.mk hb; have HI5 := Aside0.mk ((hg.block w1.heap.size (show w1.heap.size < W.heap.size by have h1 := HSW.out; have h2 := HSZ.out; omega) (fun e => HRW.out.1 _ e.symm rfl)).trans HIW.out); clear ho hb hg hat))
        go_roundw
        case rel => exact ⟨pos2, f, acc ++ [z], HO5, HI5, HB5, HA2, HF2, HL2⟩
        case measure =>
          have h1 := HI5.out
          have h2 := HI.out
          have h3 := HP2.out
          simp only [World.iterPos, h1, h2]
          omega
      · have hnx : ∀ ty, (Instr.next (.pointer (some ⟨w1.heap.size, 0, none⟩)) true ty).run Tryz.prog wr = _ := fun ty => Lib.run_next_end_at wr w1.heap.size a0 pos ty HI.out hp
        have HE := Aside0.mk (show NC.foldB a0 = runesBytes acc by rw [HF.out, ← HA.out, NC.runesL_end a0 fuel pos hp]; simp)
        have hcv := name_Fold.conv HR.out
        clear hp HA HFu HL HR HI HF
        go_wp2
        go_ret
        exact ⟨NC.ret_str HE.out, HB.out⟩
  · have hv2 : Lib.validD a0.data.toList = false := by simpa using hv
    have HF := Aside0.mk (show NC.foldB a0 = a0 by unfold NC.foldB; rw [if_neg hv])
    have hc1 := utf8_ValidString.calls a0 false w (by unfold utf8_ValidString.f; rw [if_pos (by omega), hv2]) hT
    clear hv hv2 hs
    go_enter Tryz.func45, Tryz.ntmps45
    go_wp2_with (go_at_call 73; refine hc1.mono ?_; rintro e w1 ⟨rfl, hb1⟩)
    go_ret
    exact ⟨NC.ret_str HF.out, hb1⟩

/-! ### name_Key: function 24 -/
def name_Key.f (k : Nat) (a0 : ByteArray) : Option (Int) := (name_Fold.f a0).bind fun t320 => ((name_Hash.f k t320).bind fun t321 => (some t321))
theorem name_Key.mono : ∀ a0 k, LeO (name_Key.f k a0) (name_Key.f (k + 1) a0) := by
 intro a0 k
 unfold name_Key.f
 repeat' first
   | (with_reducible exact name_Hash.mono _ _)
   | (with_reducible exact LeO.refl _)
   | (with_reducible refine LeO.bind ?_ (fun _ => ?_))

set_option maxHeartbeats 8000000 in
set_option maxRecDepth 100000 in
theorem name_Key.calls (k : Nat) (a0 : ByteArray) (r : Int) (w : World) (h : name_Key.f k a0 = some r) (hT : NC.TabW w) :
  Calls Tryz.prog 24 #[.string a0] w fun e w' => e = .returned (.int .u64 r) ∧ Below w.heap.size w w' := by
 have HT := Aside0.mk hT
 clear hT
 have HB := Aside0.mk (Below.refl w.heap.size w)
 have H : ((name_Fold.f a0).bind fun t320 => ((name_Hash.f k t320).bind fun t321 => (some t321))) = some r := h
 clear h
 replace H := Option.bind_eq_some_iff.mp H
 obtain ⟨t320, A20, H⟩ := H
 replace H : ((name_Hash.f k t320).bind fun t321 => (some t321)) = some r := H
 have A2 := Aside0.mk A20
 clear A20
 replace H := Option.bind_eq_some_iff.mp H
 obtain ⟨t321, A30, H⟩ := H
 replace H : (some t321) = some r := H
 have A3 := Aside0.mk A30
 clear A30
 obtain rfl := Option.some.inj H
 go_enter Tryz.func24, Tryz.ntmps24
 go_wp2_with (first | ((with_reducible refine gate_callee (f := 45) rfl ?_); refine goesL_ (some 4) rfl rfl Tryz.func45 (by kernel_rfl) rfl #[.string a0] rfl (by (try simp only [List.map_toArray, List.map_cons, List.map_nil]); first | rfl ) ?_; (with_reducible refine (name_Fold.calls a0 t320 _ A2.out (NC.TabW.below HT.out (by repeat (first | (with_reducible first | exact HB.out ) )))).mono ?_); rintro e w4 ⟨rfl, hb⟩; refine ⟨_, rfl, ?_⟩; have n0_ := Aside0.mk (below_step (by repeat (first | (with_reducible first | exact HB.out ) )) hb); clear HB; have HB := n0_; clear n0_; (try clear hb); (try clear hb2); (try clear hk); (try clear hi)) | ((with_reducible refine gate_callee (f := 44) rfl ?_); refine goesL_ (some 5) rfl rfl Tryz.func44 (by kernel_rfl) rfl #[.string t320] rfl (by (try simp only [List.map_toArray, List.map_cons, List.map_nil]); first | rfl ) ?_; (with_reducible refine (name_Hash.calls k t320 t321 _ A3.out).mono ?_); rintro e w' ⟨rfl, ⟨nd, rfl⟩⟩; refine ⟨_, rfl, ?_⟩))
 go_ret
 exact ⟨by first | rfl , by repeat (first | (with_reducible first | exact HB.out | apply pw_below_drewN ) )⟩

/-! ### slices_Clone_int_int: function 63 (a contract of this session's own) -/
theorem C_none_nilR {α : Type} {d : Kd α} {w : World} {n : Nat} {xs : List α} (h : Kd.C d w none n xs) : xs = [] := by
  rcases Nat.eq_zero_or_pos n with h0 | h0
  · subst h0
    exact List.eq_nil_of_length_eq_zero h.1
  · obtain ⟨ad, h, _⟩ := h.2.2 h0
    cases h
theorem R_of_own {w : World} {base : Nat} {v : Value} (xs : List Int) (h : w.ownsRow base 3 1 v xs.length (xs.map (Value.int .i64))) : (Kd.int .i64).R 3 w base (fun _ => True) v xs := by
  refine ⟨fun _ _ => trivial, xs.map (Value.int .i64), h, (by show _ = xs.length * 1; simp), fun j p hj => ?_⟩
  obtain ⟨hlt, rfl⟩ := List.getElem?_eq_some_iff.1 hj
  show ((xs.map (Value.int .i64)).drop (j * 1)).take 1 = [Value.int .i64 xs[j]]
  rw [Nat.mul_one, List.drop_eq_getElem_cons (by simpa using hlt)]
  simp
theorem own_of_R {w : World} {base : Nat} {ok : Nat → Prop} {v : Value} {xs : List Int} (h : (Kd.int .i64).R 3 w base ok v xs) : w.ownsRow base 3 1 v xs.length (xs.map (Value.int .i64)) := by
  obtain ⟨_, inner, ho, hl, hr⟩ := h
  have e : inner = xs.map (Value.int .i64) := by
    have hl2 : inner.length = xs.length := by have : inner.length = xs.length * 1 := hl; omega
    apply List.ext_getElem
    · simp [hl2]
    · intro j h1 h2
      have hj : j < xs.length := by omega
      have := hr j xs[j] (List.getElem?_eq_getElem hj)
      have this : (inner.drop (j * 1)).take 1 = [Value.int .i64 xs[j]] := this
      rw [Nat.mul_one, List.drop_eq_getElem_cons h1] at this
      simp only [List.take_succ_cons, List.take_zero, List.cons.injEq, and_true] at this
      simp [this]
  rw [← e]
  exact ho
theorem spot_none {w : World} {a : Addr} {v : Value} (h : w.cell? a = some v) : a.spot = none := by
  unfold World.cell? at h
  split at h
  · split at h
    · cases h
    · rename_i hs
      simpa using hs
  · cases h
theorem slices_Clone_is (A0 : Option Addr) (c0 : Nat) (l0 : List Int) (w : World) (hr0 : Kd.C (Kd.int .i64) w A0 l0.length l0) (hl : l0.length * 8 ≤ 140737488355328) :
    Calls Tryz.prog 63 #[.slice A0 l0.length c0] w fun e w' => ∃ v0_ : Value, e = .returned (v0_) ∧ Kd.R (Kd.int .i64) 3 w' w.heap.size (fun _ => True) v0_ l0 ∧ Below w.heap.size w w' := by
  cases A0 with
  | none =>
    obtain rfl := C_none_nilR hr0
    refine (Tryz.slices_Clone_int_nil _ c0 w).mono ?_
    rintro e w' ⟨rfl, rfl⟩
    exact ⟨_, rfl, Kd.R_nil _ _ _ _ _, Below.refl _ _⟩
  | some a =>
    by_cases h0 : l0.length = 0
    · obtain rfl := List.eq_nil_of_length_eq_zero h0
      refine (Tryz.slices_Clone_int_zero a c0 w).mono ?_
      rintro e w' ⟨v, rfl, h1, _, h2⟩
      exact ⟨_, rfl, R_of_own [] h1, h2⟩
    · have hc : ∀ j, j < l0.length → w.cell? (a.add j) = some (.int .i64 (l0.getD j 0)) := by
        intro j hj
        obtain ⟨ad, e, hx⟩ := Kd.at_int hr0 (j : Int) (by omega) (by omega)
        cases e
        simpa [rd] using hx
      have hs : a.spot = none := by
        have := spot_none (hc 0 (by omega))
        simpa [Addr.add] using this
      obtain ⟨b, off, s⟩ := a
      obtain rfl : s = none := hs
      have h2 := Tryz.slices_Clone_int b off l0.length c0 l0 w (Nat.le_refl _) hl (fun j hj => by have := hc j hj; rw [Addr.add_lit] at this; exact this)
      refine h2.mono ?_
      rintro e w' ⟨v, rfl, h1, _, h3⟩
      rw [List.take_length] at h1
      exact ⟨_, rfl, R_of_own l0 h1, h3⟩
def slices_Clone_int_int.f (l0 : List Int) : Option (List Int) := if l0.length * 8 ≤ 140737488355328 then some l0 else none
theorem slices_Clone_int_int.calls (A0 : Option Addr) (c0 : Nat) (l0 : List Int) (r : List Int) (w : World) (hr0 : Kd.C (Kd.int .i64) w A0 l0.length l0) (hc0 : l0.length ≤ c0) (h : slices_Clone_int_int.f l0 = some r) :
    Calls Tryz.prog 63 #[.slice A0 l0.length c0] w fun e w' => ∃ v0_ : Value, e = .returned (v0_) ∧ Kd.R (Kd.int .i64) 3 w' w.heap.size (fun _ => True) v0_ r ∧ Below w.heap.size w w' := by
  unfold slices_Clone_int_int.f at h
  by_cases hl : l0.length * 8 ≤ 140737488355328
  · rw [if_pos hl] at h
    obtain rfl := Option.some.inj h
    exact slices_Clone_is A0 c0 l0 w hr0 hl
  · rw [if_neg hl] at h
    cases h

/-! ### cmp_Or_int: function 66 -/
def cmp_Or_int.l0 : Nat → Int → List Int → Int → Int → Option (Int)
 | 0, _, _, _, _ => none
 | k + 1, x3, x6, x7, x8 => if x8 < x7 then (if 0 ≤ x8 then (if x8 < (x6.length : Int) then (if (rd x6 x8) = x3 then (cmp_Or_int.l0 k x3 x6 x7 (wrap64 (x8 + 1))) else (some (rd x6 x8))) else (none)) else (none)) else (some x3)
def cmp_Or_int.f (k : Nat) (l0 : List Int) : Option (Int) := cmp_Or_int.l0 k 0 l0 (l0.length : Int) 0
theorem cmp_Or_int.mono_l : ∀ k, (∀ y0 y1 y2 y3, LeO (cmp_Or_int.l0 k y0 y1 y2 y3) (cmp_Or_int.l0 (k + 1) y0 y1 y2 y3))
 | 0 => fun _ _ _ _ r h => by simp [cmp_Or_int.l0] at h
 | k + 1 => by
  have ih0 := cmp_Or_int.mono_l k
  ·intro y0 y1 y2 y3
   unfold cmp_Or_int.l0
   repeat' first
   | (with_reducible exact ih0 _ _ _ _)
   | (with_reducible exact LeO.refl _)
   | (with_reducible refine LeO.ite ?_ ?_)

theorem cmp_Or_int.mono : ∀ a0 k, LeO (cmp_Or_int.f k a0) (cmp_Or_int.f (k + 1) a0) := by
 intro a0 k
 have ih0 := cmp_Or_int.mono_l k
 unfold cmp_Or_int.f
 repeat' first
   | (with_reducible exact ih0 _ _ _ _)

set_option maxHeartbeats 8000000 in
set_option maxRecDepth 100000 in
theorem cmp_Or_int.calls (k : Nat) (A0 : Option Addr) (c0 : Nat) (l0 : List Int) (r : Int) (w : World) (hr0 : Kd.C (Kd.int .i64) w A0 l0.length l0) (hc0 : l0.length ≤ c0) (h : cmp_Or_int.f k l0 = some r) :
  Calls Tryz.prog 66 #[.slice A0 l0.length c0] w fun e w' => e = .returned (.int .i64 r) ∧ Drawn0 w w' := by
 have HR0 := Aside0.mk hr0
 have HC0 := Aside0.mk hc0
 clear hr0 hc0
 have H : (cmp_Or_int.l0 k 0 l0 (l0.length : Int) 0) = some r := h
 clear h
 have H' := Aside0.mk H
 clear H
 go_enter Tryz.func66, Tryz.ntmps66
 go_wp2
 go_loopg [8] k (fun kq v8 w' => ∃ (x8_1 : Int), v8 = .int .i64 x8_1 ∧ Aside0 (cmp_Or_int.l0 kq 0 l0 (l0.length : Int) x8_1 = some r) ∧ Aside0 (kq ≤ k) ∧ Drawn0 w w')
 case atStart => exact ⟨(0), (by first | rfl ), H', ⟨Nat.le_refl _⟩, by repeat (first | exact Drawn0.refl _ )⟩
 case round =>
  clear H'
  obtain ⟨x8_1, rfl, HA, HK1, ⟨m1, rfl⟩⟩ := hrel
  cases gk with
  | zero => exact absurd HA.out (by simp [cmp_Or_int.l0])
  | succ k1 =>
   have H := HA.out
   clear HA
   simp only [cmp_Or_int.l0] at H
   by_cases c2 : x8_1 < (l0.length : Int)
   ·rw [if_pos c2] at H
    have c2b0 : decide (x8_1 < (l0.length : Int)) = true := decide_eq_true c2
    clear c2
    by_cases c3 : 0 ≤ x8_1
    ·rw [if_pos c3] at H
     have c3b0 : decide (0 ≤ x8_1) = true := decide_eq_true c3
     clear c3
     by_cases c4 : x8_1 < (l0.length : Int)
     ·rw [if_pos c4] at H
      have c4b0 : decide (x8_1 < (l0.length : Int)) = true := decide_eq_true c4
      clear c4
      by_cases c5 : (rd l0 x8_1) = 0
      ·rw [if_pos c5] at H
       have c5b0 : ((rd l0 x8_1) == 0) = true := beq_iff_eq.mpr c5
       have c5b1 : ((rd l0 x8_1) != 0) = false := bne_eq_false_iff_eq.mpr c5
       clear c5
       have H' := Aside0.mk H
       clear H
       have p322 : 0 ≤ (x8_1 : Int) := of_decide_eq_true (by first | (with_reducible assumption) )
       have q322 : x8_1 < (l0.length : Int) := of_decide_eq_true (by first | (with_reducible assumption) )
       obtain ⟨ad322, e322, hx322_0⟩ := Kd.at_int HR0.out x8_1 p322 q322
       cases e322
       replace p322 := eq_true p322
       replace q322 := eq_true q322
       go_wp2
       go_roundg k1
       case measure => have := HK1.out; omega
       case rel => exact ⟨(wrap64 (x8_1 + 1)), (by first | rfl ), H', ⟨by have := HK1.out; omega⟩, by repeat (first | exact Drawn0.refl _ | apply Drawn0.step)⟩
      ·rw [if_neg c5] at H
       have c5b0 : ((rd l0 x8_1) == 0) = false := beq_eq_false_iff_ne.mpr c5
       have c5b1 : ((rd l0 x8_1) != 0) = true := bne_iff_ne.mpr c5
       obtain rfl := Option.some.inj H
       have p322 : 0 ≤ (x8_1 : Int) := of_decide_eq_true (by first | (with_reducible assumption) )
       have q322 : x8_1 < (l0.length : Int) := of_decide_eq_true (by first | (with_reducible assumption) )
       obtain ⟨ad322, e322, hx322_0⟩ := Kd.at_int HR0.out x8_1 p322 q322
       cases e322
       replace p322 := eq_true p322
       replace q322 := eq_true q322
       go_wp2
       go_ret
       exact ⟨by first | rfl , by repeat (first | exact Drawn0.refl _ | apply Drawn0.step)⟩
     ·rw [if_neg c4] at H
      exact absurd H (by simp)
    ·rw [if_neg c3] at H
     exact absurd H (by simp)
   ·rw [if_neg c2] at H
    have c2b0 : decide (x8_1 < (l0.length : Int)) = false := decide_eq_false c2
    clear c2
    obtain rfl := Option.some.inj H
    go_wp2
    go_ret
    exact ⟨by first | rfl , by repeat (first | exact Drawn0.refl _ | apply Drawn0.step)⟩

/-! ### strconv_Itoa: function 84 (a contract of this session's own) -/
def strconv_Itoa.f (a0 : Int) : Option ByteArray := if 0 ≤ a0 ∧ a0 < 100 then some ⟨(Lib.decDigits a0.toNat).toArray⟩ else none
theorem strconv_Itoa.calls (a0 : Int) (r : ByteArray) (w : World) (h : strconv_Itoa.f a0 = some r) :
    Calls Tryz.prog 84 #[.int .i64 a0] w fun e w' => e = .returned (.string r) ∧ Drawn0 w w' := by
  unfold strconv_Itoa.f at h
  by_cases hs : 0 ≤ a0 ∧ a0 < 100
  · rw [if_pos hs] at h
    obtain rfl := Option.some.inj h
    have h2 := Tryz.strconv_Itoa_small a0.toNat (by omega) w
    rw [Int.toNat_of_nonneg hs.1] at h2
    refine h2.mono ?_
    rintro e w' ⟨rfl, rfl⟩
    exact ⟨rfl, Drawn0.refl _⟩
  · rw [if_neg hs] at h
    cases h

/-! ### ring_Point: function 68 -/
def ring_Point.f (k : Nat) (a0 : Int) : Option (Int) := (ring_node.f a0).bind fun t323 => (if t323 = true then ((strconv_Itoa.f a0).bind fun t324 => (if 5 + t324.size ≤ 9223372036854775807 then ((name_Hash.f k ((⟨#[110, 111, 100, 101, 32]⟩ : ByteArray) ++ t324)).bind fun t325 => (some t325)) else (none))) else (some 0))
theorem ring_Point.mono : ∀ a0 k, LeO (ring_Point.f k a0) (ring_Point.f (k + 1) a0) := by
 intro a0 k
 unfold ring_Point.f
 repeat' first
   | (with_reducible exact name_Hash.mono _ _)
   | (with_reducible exact LeO.refl _)
   | (with_reducible refine LeO.ite ?_ ?_)
   | (with_reducible refine LeO.bind ?_ (fun _ => ?_))

set_option maxHeartbeats 8000000 in
set_option maxRecDepth 100000 in
theorem ring_Point.calls (k : Nat) (a0 : Int) (r : Int) (w : World) (h : ring_Point.f k a0 = some r) :
  Calls Tryz.prog 68 #[.int .i64 a0] w fun e w' => e = .returned (.int .u64 r) ∧ Drawn0 w w' := by
 have H : ((ring_node.f a0).bind fun t323 => (if t323 = true then ((strconv_Itoa.f a0).bind fun t324 => (if 5 + t324.size ≤ 9223372036854775807 then ((name_Hash.f k ((⟨#[110, 111, 100, 101, 32]⟩ : ByteArray) ++ t324)).bind fun t325 => (some t325)) else (none))) else (some 0))) = some r := h
 clear h
 replace H := Option.bind_eq_some_iff.mp H
 obtain ⟨t323, A20, H⟩ := H
 replace H : (if t323 = true then ((strconv_Itoa.f a0).bind fun t324 => (if 5 + t324.size ≤ 9223372036854775807 then ((name_Hash.f k ((⟨#[110, 111, 100, 101, 32]⟩ : ByteArray) ++ t324)).bind fun t325 => (some t325)) else (none))) else (some 0)) = some r := H
 have A2 := Aside0.mk A20
 clear A20
 by_cases c3 : t323 = true
 ·subst c3
  have H1 : ((strconv_Itoa.f a0).bind fun t324 => (if 5 + t324.size ≤ 9223372036854775807 then ((name_Hash.f k ((⟨#[110, 111, 100, 101, 32]⟩ : ByteArray) ++ t324)).bind fun t325 => (some t325)) else (none))) = some r := by rw [if_pos rfl] at H; exact H
  clear H
  have H := H1
  clear H1
  replace H := Option.bind_eq_some_iff.mp H
  obtain ⟨t324, A40, H⟩ := H
  replace H : (if 5 + t324.size ≤ 9223372036854775807 then ((name_Hash.f k ((⟨#[110, 111, 100, 101, 32]⟩ : ByteArray) ++ t324)).bind fun t325 => (some t325)) else (none)) = some r := H
  have A4 := Aside0.mk A40
  clear A40
  by_cases c5 : 5 + t324.size ≤ 9223372036854775807
  ·rw [if_pos c5] at H
   have c5b0 := eq_true c5
   have c5b1 : decide (5 + t324.size ≤ 9223372036854775807) = true := decide_eq_true c5
   try have c5b2 : (9223372036854775807 < 5 + t324.size) = False := eq_false (Nat.not_lt.2 c5)
   replace H := Option.bind_eq_some_iff.mp H
   obtain ⟨t325, A60, H⟩ := H
   replace H : (some t325) = some r := H
   have A6 := Aside0.mk A60
   clear A60
   obtain rfl := Option.some.inj H
   go_enter Tryz.func68, Tryz.ntmps68
   go_wp2_with (first | ((with_reducible refine gate_callee (f := 52) rfl ?_); refine goesL_ (some 4) rfl rfl Tryz.func52 (by kernel_rfl) rfl #[.int .i64 a0] rfl (by (try simp only [List.map_toArray, List.map_cons, List.map_nil]); first | rfl ) ?_; (with_reducible refine (ring_node.calls a0 true _ A2.out).mono ?_); rintro e w' ⟨rfl, ⟨nd, rfl⟩⟩; refine ⟨_, rfl, ?_⟩) | ((with_reducible refine gate_callee (f := 84) rfl ?_); refine goesL_ (some 7) rfl rfl Tryz.func84 (by kernel_rfl) rfl #[.int .i64 a0] rfl (by (try simp only [List.map_toArray, List.map_cons, List.map_nil]); first | rfl ) ?_; (with_reducible refine (strconv_Itoa.calls a0 t324 _ A4.out).mono ?_); rintro e w' ⟨rfl, ⟨nd, rfl⟩⟩; refine ⟨_, rfl, ?_⟩) | ((with_reducible refine gate_callee (f := 44) rfl ?_); refine goesL_ (some 9) rfl rfl Tryz.func44 (by kernel_rfl) rfl #[.string ((⟨#[110, 111, 100, 101, 32]⟩ : ByteArray) ++ t324)] rfl (by (try simp only [List.map_toArray, List.map_cons, List.map_nil]); first | rfl ) ?_; (with_reducible refine (name_Hash.calls k ((⟨#[110, 111, 100, 101, 32]⟩ : ByteArray) ++ t324) t325 _ A6.out).mono ?_); rintro e w' ⟨rfl, ⟨nd, rfl⟩⟩; refine ⟨_, rfl, ?_⟩))
   go_ret
   exact ⟨by first | rfl , by repeat (first | exact Drawn0.refl _ | apply Drawn0.step)⟩
  ·rw [if_neg c5] at H
   exact absurd H (by simp)
 ·replace c3 := Bool.eq_false_iff.mpr c3
  subst c3
  have H1 : (some 0) = some r := by rw [if_neg (show ¬ (false = true) by decide)] at H; exact H
  clear H
  have H := H1
  clear H1
  obtain rfl := Option.some.inj H
  go_enter Tryz.func68, Tryz.ntmps68
  go_wp2_with (first | ((with_reducible refine gate_callee (f := 52) rfl ?_); refine goesL_ (some 4) rfl rfl Tryz.func52 (by kernel_rfl) rfl #[.int .i64 a0] rfl (by (try simp only [List.map_toArray, List.map_cons, List.map_nil]); first | rfl ) ?_; (with_reducible refine (ring_node.calls a0 false _ A2.out).mono ?_); rintro e w' ⟨rfl, ⟨nd, rfl⟩⟩; refine ⟨_, rfl, ?_⟩))
  go_ret
  exact ⟨by first | rfl , by repeat (first | exact Drawn0.refl _ | apply Drawn0.step)⟩

/-! ### ring_Ring_1: function 65 (a contract of this session's own) -/
/-- A node's point. -/
def pointZ (n : Int) : Int := (ring_Point.f 40 n).getD 0
theorem point_some (n : Int) : ring_Point.f 40 n = some (pointZ n) := by
  have key : (ring_Point.f 40 n).isSome = true := by
    by_cases h : 1 ≤ n ∧ n ≤ 15
    · obtain ⟨h1, h2⟩ := h
      have : n = 1 ∨ n = 2 ∨ n = 3 ∨ n = 4 ∨ n = 5 ∨ n = 6 ∨ n = 7 ∨ n = 8 ∨ n = 9 ∨ n = 10 ∨ n = 11 ∨ n = 12 ∨ n = 13 ∨ n = 14 ∨ n = 15 := by omega
      rcases this with rfl | rfl | rfl | rfl | rfl | rfl | rfl | rfl | rfl | rfl | rfl | rfl | rfl | rfl | rfl <;> exact Eq.trans (b := true) (by kernel_rfl) rfl
    · have : ring_node.f n = some false := by
        unfold ring_node.f
        by_cases h1 : n ≥ 1
        · rw [if_pos h1, decide_eq_false (by omega)]
        · rw [if_neg h1]
      unfold ring_Point.f
      rw [this]
      rfl
  unfold pointZ
  cases hq : ring_Point.f 40 n with
  | none => rw [hq] at key; cases key
  | some r => rfl
/-- The first place of an element for which p holds, or -1. -/
def idxFR (p : Int → Bool) : List Int → Int → Int
  | [], _ => -1
  | x :: l, i => if p x then i else idxFR p l (i + 1)
/-- How two nodes stand on the ring. -/
def cmpZ (a b : Int) : Int := if pointZ a < pointZ b then -1 else if pointZ b < pointZ a then 1 else Lib.compareInt a b

def sortZ (l : List Int) : List Int := l.mergeSort fun x y => !(ltOf cmpZ y x)
set_option maxHeartbeats 1000000 in
theorem isNaN_u64 (x : Int) (w : World) : Calls Tryz.prog 83 #[.int .u64 x] w fun e w' => e = .returned (.bool false) ∧ w' = w := by
  go_enter Tryz.func83, Tryz.ntmps83
  go_wp2
  go_ret
  exact ⟨by first | rfl , rfl⟩
set_option maxHeartbeats 1000000 in
theorem compare_u64 (x y : Int) (w : World) : Calls Tryz.prog 67 #[.int .u64 x, .int .u64 y] w fun e w' => e = .returned (.int .i64 (Lib.compareInt x y)) ∧ w' = w := by
  go_enter Tryz.func67, Tryz.ntmps67
  go_wp2_with (go_at_call 83; refine (isNaN_u64 _ _).mono ?_; rintro e w' ⟨rfl, hw⟩; rw [hw])
  all_goals (go_ret; refine ⟨?_, rfl⟩; unfold Lib.compareInt; (repeat' split) <;> first | rfl | (exfalso; omega))
theorem or_cmp (a b : Int) : cmp_Or_int.f 3 [Lib.compareInt (pointZ a) (pointZ b), Lib.compareInt a b] = some (cmpZ a b) := by
  unfold cmp_Or_int.f cmpZ Lib.compareInt
  simp only [cmp_Or_int.l0]
  by_cases h1 : pointZ a < pointZ b
  · simp [h1, rd]
  · by_cases h2 : pointZ b < pointZ a
    · simp [h1, h2, rd]
    · simp only [h1, h2, rd]
      by_cases h3 : a < b
      · simp [h3, wrap64]
      · by_cases h4 : b < a
        · simp [h3, h4, wrap64]
        · simp [h3, h4, wrap64]
theorem pair_C (w : World) (x y : Int) (n : Nat) : (Kd.int .i64).C ((w.drewN n).alloc (.cells #[.int .i64 x, .int .i64 y] 3)) (some ⟨w.heap.size, 0, none⟩) 2 [x, y] := by
  refine Kd.C_of_reads (d := (0 : Int)) ⟨rfl, by decide, fun _ => ⟨_, rfl, fun j hj => ?_⟩⟩
  rw [Addr.add_lit, Nat.zero_add]
  have : j = 0 ∨ j = 1 := by omega
  rcases this with rfl | rfl
  · refine (cell_of_row _ w.heap.size 0 _ _ (0, 0) (heap_alloc_new (w.drewN n) _)).trans ?_
    simp
  · refine (cell_of_row _ w.heap.size 1 _ _ (0, 0) (heap_alloc_new (w.drewN n) _)).trans ?_
    simp
set_option maxHeartbeats 4000000 in
set_option maxRecDepth 100000 in
theorem ring_Ring_1.calls (a b : Int) (w : World) :
    Calls Tryz.prog 65 #[.int .i64 a, .int .i64 b] w fun e w' => e = .returned (.int .i64 (cmpZ a b)) ∧ ∃ q os', w' = Sort.grow (w.drewN q) os' := by
  have HO := Aside0.mk (or_cmp a b)
  generalize hx : Lib.compareInt (pointZ a) (pointZ b) = x at HO
  generalize hy : Lib.compareInt a b = y at HO
  have HX := Aside0.mk hx
  have HY := Aside0.mk hy
  have HPA := Aside0.mk (point_some a)
  have HPB := Aside0.mk (point_some b)
  clear hx hy
  have HOR := Aside0.mk (fun (W : World) (hr : Kd.C (Kd.int .i64) W (some ⟨w.heap.size, 0, none⟩) 2 [x, y]) => (show Calls Tryz.prog 66 #[.slice (some ⟨w.heap.size, 0, none⟩) 2 2] W _ from cmp_Or_int.calls 3 (some ⟨w.heap.size, 0, none⟩) 2 [x, y] (cmpZ a b) W hr (Nat.le_refl 2) HO.out))
  go_enter Tryz.func65, Tryz.ntmps65
  go_wp2_with (first
    | ((with_reducible refine gate_callee (f := 68) rfl ?_); refine goesL_ (some 6) rfl rfl Tryz.func68 (by kernel_rfl) rfl #[.int .i64 a] rfl (by (try simp only [List.map_toArray, List.map_cons, List.map_nil]); first | rfl) ?_; (with_reducible refine (ring_Point.calls 40 a _ _ HPA.out).mono ?_); rintro e w1 ⟨rfl, ⟨n1, rfl⟩⟩; refine ⟨_, rfl, ?_⟩)
    | ((with_reducible refine gate_callee (f := 68) rfl ?_); refine goesL_ (some 8) rfl rfl Tryz.func68 (by kernel_rfl) rfl #[.int .i64 b] rfl (by (try simp only [List.map_toArray, List.map_cons, List.map_nil]); first | rfl) ?_; (with_reducible refine (ring_Point.calls 40 b _ _ HPB.out).mono ?_); rintro e w2 ⟨rfl, ⟨n2, rfl⟩⟩; refine ⟨_, rfl, ?_⟩)
    | ((with_reducible refine gate_callee (f := 67) rfl ?_); refine goesL_ (some 9) rfl rfl Tryz.func67 (by kernel_rfl) rfl #[.int .u64 (pointZ a), .int .u64 (pointZ b)] rfl (by (try simp only [List.map_toArray, List.map_cons, List.map_nil]); first | rfl) ?_; (with_reducible refine (compare_u64 (pointZ a) (pointZ b) _).mono ?_); rintro e w3 ⟨rfl, rfl⟩; rw [HX.out]; refine ⟨_, rfl, ?_⟩)
    | ((with_reducible refine gate_callee (f := 69) rfl ?_); refine goesL_ (some 12) rfl rfl Tryz.func69 (by kernel_rfl) rfl #[.int .i64 a, .int .i64 b] rfl (by (try simp only [List.map_toArray, List.map_cons, List.map_nil]); first | rfl) ?_; (with_reducible refine (Tryz.cmp_Compare_int a b _).mono ?_); rintro e w4 ⟨rfl, rfl⟩; rw [HY.out]; refine ⟨_, rfl, ?_⟩)
    | ((with_reducible refine gate_callee (f := 66) rfl ?_); refine goesL_ (some 14) rfl rfl Tryz.func66 (by kernel_rfl) rfl #[.slice (some ⟨w.heap.size, 0, none⟩) 2 2] rfl (by (try simp only [List.map_toArray, List.map_cons, List.map_nil]); first | rfl) ?_; (with_reducible refine (HOR.out _ ?hC).mono ?_); (case hC => exact pair_C w x y _); rintro e w5 ⟨rfl, ⟨n5, rfl⟩⟩; refine ⟨_, rfl, ?_⟩))
  go_ret
  exact ⟨rfl, n1 + n2 + n5, _, by rw [Sort.alloc_eq_grow]; show Sort.grow ((w.drewN (n1 + n2)).drewN n5) _ = _; rw [World.drewN_drewN]⟩

/-! ### ring_Ring: function 41 (a contract of this session's own) -/
theorem own_le' {w : World} {base : Nat} {v : Value} {n : Nat} {xs : List Value} (h : w.ownsRow base 3 1 v n xs) : (v = .slice none 0 0 ∧ n = 0) ∨ ∃ g cap cur, v = .slice (some ⟨g, 0, none⟩) n cap ∧ base ≤ g ∧ g < w.heap.size ∧ w.heap[g]? = some (.cells cur 3 (0, 0)) ∧ n ≤ cap ∧ cap ≤ maxLen ∧ cur.size = cap ∧ cur.toList.take n = xs := by
  obtain ⟨_, h | ⟨g, cap, cur, rfl, hb, hh, h1, h2, h3, h4⟩⟩ := h
  · exact .inl h
  · exact .inr ⟨g, cap, cur, rfl, hb, (Array.getElem?_eq_some_iff.1 hh).1, hh, h1, h2, by omega, by rw [Nat.mul_one] at h4; exact h4⟩
theorem own_sorted {w : World} {base g n cap : Nat} {cur : Array Value} (hb : base ≤ g) (hh : w.heap[g]? = some (.cells cur 3 (0, 0))) (h1 : n ≤ cap) (h2 : cap ≤ maxLen) (h3 : cur.size = cap) (ys : List Int) (hy : ys.length = n) (m : Nat) (os : Array Obj) :
    (sortWorld (Value.int .i64) w g 0 m ys.toArray os).ownsRow base 3 1 (.slice (some ⟨g, 0, none⟩) n cap) n (ys.map (Value.int .i64)) := by
  have hlt := (Array.getElem?_eq_some_iff.1 hh).1
  refine ⟨by simp [hy], .inr ⟨g, cap, Sort.putCells (Value.int .i64) 0 ys.toArray cur, rfl, hb, ?_, h1, h2, ?_, ?_⟩⟩
  · unfold sortWorld
    rw [Sort.heap_grow_old _ _ (by rw [Sort.size_putRow]; exact hlt)]
    show (w.heap.modify g _)[g]? = _
    rw [Array.getElem?_modify, if_pos rfl, hh]
    rfl
  · simp [Sort.putCells, h3]
  · apply List.ext_getElem?
    intro j
    rw [Nat.mul_one, List.getElem?_take]
    by_cases hj : j < n
    · have hjc : j < cur.size := by omega
      have hjy : j < ys.length := by omega
      rw [if_pos hj]
      simp [Sort.putCells, Array.getElem?_mapIdx, hjc, hjy]
    · rw [if_neg hj, List.getElem?_eq_none (by simp; omega)]
theorem below_sorted {w : World} {B g m : Nat} {ys : Array Int} {os : Array Obj} (hB : B ≤ g) (hlt : g < w.heap.size) : Below B w (sortWorld (Value.int .i64) w g 0 m ys os) := by
  refine ⟨rfl, rfl, rfl, ?_, fun k hk => ?_⟩
  · show w.heap.size ≤ (_ ++ os).size
    rw [Array.size_append]
    have : (Sort.putRow (Value.int .i64) (Sort.ahead w m) g 0 ys).heap.size = w.heap.size := Sort.size_putRow _ _ _ _ _
    omega
  · unfold sortWorld
    rw [Sort.heap_grow_old _ _ (by rw [Sort.size_putRow]; show k < w.heap.size; omega)]
    show (w.heap.modify g _)[k]? = _
    rw [Array.getElem?_modify, if_neg (by omega)]
theorem holds_own {w : World} {g n : Nat} {cur : Array Value} (hh : w.heap[g]? = some (.cells cur 3 (0, 0))) (xs : List Int) (hx : cur.toList.take n = xs.map (Value.int .i64)) : Sort.Holds (Value.int .i64) w g 0 xs.toArray := by
  intro j hj
  have hj' : j < xs.length := by simpa using hj
  have hg : cur[j]? = some (Value.int .i64 xs[j]) := by
    have := congrArg (fun l => l[j]?) hx
    simp only [List.getElem?_take, List.getElem?_map, List.getElem?_eq_getElem hj', Option.map_some] at this
    split at this
    · simpa using this
    · cases this
  refine ⟨?_, ?_⟩
  · unfold World.cell?
    simp only [hh, Nat.zero_add]
    simp [hg, hj']
  · unfold World.frozen?
    simp only [hh]
    simp
def ring_Ring.f (k : Nat) (l0 : List Int) : Option (List Int) := (ring_Nodes.f k l0).bind fun t => if t = true then (if l0.length * 8 ≤ 140737488355328 then some (sortZ l0) else none) else some []
theorem ring_Ring.mono : ∀ a0 k, LeO (ring_Ring.f k a0) (ring_Ring.f (k + 1) a0) := by
  intro a0 k
  unfold ring_Ring.f
  exact LeO.bind (ring_Nodes.mono _ _) fun _ => LeO.refl _
theorem lt_iff (a b : Int) : ltOf cmpZ a b = true ↔ pointZ a < pointZ b ∨ (pointZ a = pointZ b ∧ a < b) := by
  unfold ltOf cmpZ Lib.compareInt
  rw [decide_eq_true_eq]
  repeat' split
  all_goals omega
theorem lt_niff (a b : Int) : ltOf cmpZ a b = false ↔ ¬ (pointZ a < pointZ b ∨ (pointZ a = pointZ b ∧ a < b)) := by
  rw [← lt_iff, Bool.not_eq_true]
theorem swo_cmp : Sort.SWO (ltOf cmpZ) where
  irrefl x := by rw [lt_niff]; omega
  trans x y z h1 h2 := by rw [lt_iff] at *; omega
  ntrans x y z h1 h2 := by rw [lt_niff] at *; omega
theorem tot_cmp (x y : Int) (h1 : ltOf cmpZ x y = false) (h2 : ltOf cmpZ y x = false) : x = y := by rw [lt_niff] at *; omega
theorem sortZ_len (l : List Int) : (sortZ l).length = l.length := by unfold sortZ; exact List.length_mergeSort l
theorem sort_calls (w : World) (base : Nat) (ok : Nat → Prop) (v : Value) (xs : List Int) (hok : ∀ k, ok k) (h : (Kd.int .i64).R 3 w base ok v xs) (B : Nat) (hB : B ≤ base) (hl : xs.length < 4611686018427387904) :
    Calls Tryz.prog 64 #[v, .func (.func 65) #[] #[]] w fun e w' => e = .returned (.tuple #[]) ∧ (Kd.int .i64).R 3 w' base (fun _ => True) v (sortZ xs) ∧ Below B w w' := by
  have ho := own_of_R h
  rcases own_le' ho with ⟨rfl, h0⟩ | ⟨g, cap, cur, rfl, hb, hlt, hh, h1, h2, h3, h4⟩
  · obtain rfl := List.eq_nil_of_length_eq_zero h0
    refine (Tryz.slices_SortFunc_none (α := Int) none 0 _ w).mono ?_
    rintro e w' ⟨rfl, rfl⟩
    refine ⟨rfl, ?_, Below.refl _ _⟩
    have : sortZ [] = [] := by simp [sortZ]
    rw [this]
    exact Kd.R_nil _ _ _ _ _
  · have eg : ∀ args w, (callFunc 65 args).run Tryz.prog w = .ok (.enter 65 args) w := enters_of Tryz.func65 (by kernel_rfl) rfl
    have hc : CmpLays1 Tryz.prog 65 #[] (Value.int .i64) cmpZ g 0 xs.toArray.size w := fun m os dk _ x y => ring_Ring_1.calls x y _
    have := Tryz.slices_SortFunc_total (Value.int .i64) (fun _ => rfl) cmpZ swo_cmp 65 #[] g 0 cap xs.toArray w eg hc (holds_own hh xs h4) hlt (by simpa using hl) tot_cmp
    refine (show Calls Tryz.prog 64 #[.slice (some ⟨g, 0, none⟩) xs.length cap, .func (.func 65) #[] #[]] w _ from this).mono ?_
    rintro e w' ⟨rfl, n, os, rfl⟩
    refine ⟨rfl, R_of_own _ ?_, below_sorted (by omega) hlt⟩
    have := own_sorted (w := w) hb hh h1 h2 h3 (sortZ xs) (sortZ_len xs) n os
    rw [sortZ_len]
    exact this
set_option maxHeartbeats 4000000 in
set_option maxRecDepth 100000 in
theorem ring_Ring.calls (k : Nat) (A0 : Option Addr) (c0 : Nat) (l0 : List Int) (r : List Int) (w : World) (hr0 : Kd.C (Kd.int .i64) w A0 l0.length l0) (hc0 : l0.length ≤ c0) (h : ring_Ring.f k l0 = some r) :
    Calls Tryz.prog 41 #[.slice A0 l0.length c0] w fun e w' => ∃ v0_ : Value, e = .returned (v0_) ∧ Kd.R (Kd.int .i64) 3 w' w.heap.size (fun _ => True) v0_ r ∧ Below w.heap.size w w' := by
  obtain ⟨t, hN, h⟩ := Option.bind_eq_some_iff.1 h
  have HN := Aside0.mk hN
  have HR := Aside0.mk hr0
  have HC := Aside0.mk hc0
  have HB := Aside0.mk (Below.refl w.heap.size w)
  cases t with
  | false =>
    obtain rfl := Option.some.inj h
    clear h hN hr0 hc0
    go_enter Tryz.func41, Tryz.ntmps41
    go_wp2_with (first
      | ((with_reducible refine gate_callee (f := 29) rfl ?_); refine goesL_ (some 5) rfl rfl Tryz.func29 (by kernel_rfl) rfl #[.slice A0 l0.length c0] rfl (by (try simp only [List.map_toArray, List.map_cons, List.map_nil]); first | rfl) ?_; (with_reducible refine (ring_Nodes.calls k A0 c0 l0 false _ HR.out HC.out HN.out).mono ?_); rintro e w1 ⟨rfl, ⟨n1, rfl⟩⟩; refine ⟨_, rfl, ?_⟩))
    go_ret
    exact ⟨_, rfl, Kd.R_nil _ _ _ _ _, pw_below_drewN HB.out _⟩
  | true =>
    have h : (if l0.length * 8 ≤ 140737488355328 then some (sortZ l0) else none) = some r := h
    by_cases hl : l0.length * 8 ≤ 140737488355328
    · rw [if_pos hl] at h
      obtain rfl := Option.some.inj h
      have HL := Aside0.mk hl
      clear h hN hr0 hc0 hl
      go_enter Tryz.func41, Tryz.ntmps41
      go_wp2_with (first
        | ((with_reducible refine gate_callee (f := 29) rfl ?_); refine goesL_ (some 5) rfl rfl Tryz.func29 (by kernel_rfl) rfl #[.slice A0 l0.length c0] rfl (by (try simp only [List.map_toArray, List.map_cons, List.map_nil]); first | rfl) ?_; (with_reducible refine (ring_Nodes.calls k A0 c0 l0 true _ HR.out HC.out HN.out).mono ?_); rintro e w1 ⟨rfl, ⟨n1, rfl⟩⟩; refine ⟨_, rfl, ?_⟩)
        | ((with_reducible refine gate_callee (f := 63) rfl ?_); refine goesL_ (some 8) rfl rfl Tryz.func63 (by kernel_rfl) rfl #[.slice A0 l0.length c0] rfl (by (try simp only [List.map_toArray, List.map_cons, List.map_nil]); first | rfl) ?_; (with_reducible refine (slices_Clone_is A0 c0 l0 _ (Kd.C_below HR.out (pw_below_drewN HB.out _)) HL.out).mono ?_); rintro e w2 ⟨v2, rfl, hv2, hb2⟩; refine ⟨_, rfl, ?_⟩; have HV := Aside0.mk hv2; have HB2 := Aside0.mk hb2; clear hv2 hb2)
        | ((with_reducible refine gate_callee (f := 64) rfl ?_); refine goesL_ (some 10) rfl rfl Tryz.func64 (by kernel_rfl) rfl #[v2, .func (.func 65) #[] #[]] rfl (by (try simp only [List.map_toArray, List.map_cons, List.map_nil]); first | rfl) ?_; (with_reducible refine (sort_calls _ _ _ v2 l0 (fun _ => trivial) HV.out w.heap.size (Nat.le_refl _) (by have := HL.out; omega)).mono ?_); rintro e w3 ⟨rfl, hv3, hb3⟩; refine ⟨_, rfl, ?_⟩; have HV3 := Aside0.mk hv3; have HB3 := Aside0.mk hb3; clear hv3 hb3))
      go_ret
      exact ⟨_, rfl, HV3.out, (pw_below_drewN HB.out _).trans (Below.trans HB2.out HB3.out)⟩
    · rw [if_neg hl] at h
      cases h

/-! ### ring_first_1: function 71 (a contract of this session's own) -/
set_option maxHeartbeats 4000000 in
set_option maxRecDepth 100000 in
theorem ring_first_1.calls (x : Int) (b : Nat) (key : Int) (w : World) (hc : w.cell? ⟨b, 0, none⟩ = some (.int .u64 key)) :
    Calls Tryz.prog 71 #[.int .i64 x, .pointer (some ⟨b, 0, none⟩)] w fun e w' => e = .returned (.bool (decide (key ≤ pointZ x))) ∧ Drawn0 w w' := by
  have HP := Aside0.mk (point_some x)
  have HCN := fun n => (World.cell?_drewN w n ⟨b, 0, none⟩).trans hc
  go_enter Tryz.func71, Tryz.ntmps71
  go_wp2
  repeat (go_quiet (first | (go_at_call 68; (with_reducible refine (ring_Point.calls 40 x _ _ HP.out).mono ?_); rintro e w' ⟨rfl, ⟨nd, rfl⟩⟩; (try first | exact ⟨rfl, _, World.drewN_drewN _ _ _⟩ ))); try go_wp2)
  go_ret
  exact ⟨by first | rfl , by repeat (first | exact Drawn0.refl _ | apply Drawn0.step)⟩

end Go.Proofs.YtpdalofhekmbeaaGreatDoor.PViewKeeps
