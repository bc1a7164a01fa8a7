-- Written by a program of this session over the kit's printer (with contracts of the session's own).
import Derived.Test.YtiaacpjibhnhiaaDoorPAllx0
namespace Go.Proofs.YtiaacpjibhnhiaaDoor.PAll
open Go.RowKit Go.Proofs.YtiaacpjibhnhiaaDoorW.PrintWords Go.Proofs.YtiaacpjibhnhiaaDoorW.PrintLast Go.Proofs.YtiaacpjibhnhiaaDoorW.PrintMore
attribute [local go_sem] max2_int min2_int max_two min_two max_three min_three max_four min_four   -- for this text's walks alone
set_option linter.unusedVariables false
set_option linter.unusedSimpArgs false

/-! ### name_between: function 36 -/
def name_between.f (a0 : Int) (a1 : Int) (a2 : Int) : Option (Bool) := if a0 ≥ a1 then (some (decide (a0 ≤ a2))) else (some false)
set_option maxHeartbeats 8000000 in
set_option maxRecDepth 100000 in
theorem name_between.calls (a0 : Int) (a1 : Int) (a2 : Int) (r : Bool) (w : World) (h : name_between.f a0 a1 a2 = some r) :
    Calls Tryd.prog 36 #[.int .i32 a0, .int .i32 a1, .int .i32 a2] w fun e w' => e = .returned (.bool r) ∧ Drawn0 w w' := by
  have H : (if a0 ≥ a1 then (some (decide (a0 ≤ a2))) else (some false)) = some r := h
  clear h
  by_cases c4 : a0 ≥ a1
  · rw [if_pos c4] at H
    have c4b0 : decide (a1 ≤ a0) = true := decide_eq_true c4
    clear c4
    obtain rfl := Option.some.inj H
    go_enter Tryd.func36, Tryd.ntmps36
    go_wp2
    go_ret
    exact ⟨by first | rfl | (simp; done) | (simp [*]; done), by repeat (first | exact Drawn0.refl _ | apply Drawn0.step)⟩
  · rw [if_neg c4] at H
    have c4b0 : decide (a1 ≤ a0) = false := decide_eq_false c4
    clear c4
    obtain rfl := Option.some.inj H
    go_enter Tryd.func36, Tryd.ntmps36
    go_wp2
    go_ret
    exact ⟨by first | rfl | (simp; done) | (simp [*]; done), by repeat (first | exact Drawn0.refl _ | apply Drawn0.step)⟩

/-! ### name_Small: function 20 -/
def name_Small.f (a0 : Int) : Option (Int) := (name_between.f a0 65 90).bind fun t101 => (if t101 = true then (some (wrap32 (a0 + 32))) else ((name_between.f a0 192 222).bind fun t102 => (if t102 = true then (if a0 = 215 then ((name_between.f a0 913 937).bind fun t103 => (if t103 = true then (if a0 = 930 then ((name_between.f a0 1040 1071).bind fun t104 => (if t104 = true then (some (wrap32 (a0 + 32))) else (some a0))) else (some (wrap32 (a0 + 32)))) else ((name_between.f a0 1040 1071).bind fun t105 => (if t105 = true then (some (wrap32 (a0 + 32))) else (some a0))))) else (some (wrap32 (a0 + 32)))) else ((name_between.f a0 913 937).bind fun t106 => (if t106 = true then (if a0 = 930 then ((name_between.f a0 1040 1071).bind fun t107 => (if t107 = true then (some (wrap32 (a0 + 32))) else (some a0))) else (some (wrap32 (a0 + 32)))) else ((name_between.f a0 1040 1071).bind fun t108 => (if t108 = true then (some (wrap32 (a0 + 32))) else (some a0))))))))
set_option maxHeartbeats 8000000 in
set_option maxRecDepth 100000 in
theorem name_Small.calls (a0 : Int) (r : Int) (w : World) (h : name_Small.f a0 = some r) :
    Calls Tryd.prog 20 #[.int .i32 a0] w fun e w' => e = .returned (.int .i32 r) ∧ Drawn0 w w' := by
  have H : ((name_between.f a0 65 90).bind fun t101 => (if t101 = true then (some (wrap32 (a0 + 32))) else ((name_between.f a0 192 222).bind fun t102 => (if t102 = true then (if a0 = 215 then ((name_between.f a0 913 937).bind fun t103 => (if t103 = true then (if a0 = 930 then ((name_between.f a0 1040 1071).bind fun t104 => (if t104 = true then (some (wrap32 (a0 + 32))) else (some a0))) else (some (wrap32 (a0 + 32)))) else ((name_between.f a0 1040 1071).bind fun t105 => (if t105 = true then (some (wrap32 (a0 + 32))) else (some a0))))) else (some (wrap32 (a0 + 32)))) else ((name_between.f a0 913 937).bind fun t106 => (if t106 = true then (if a0 = 930 then ((name_between.f a0 1040 1071).bind fun t107 => (if t107 = true then (some (wrap32 (a0 + 32))) else (some a0))) else (some (wrap32 (a0 + 32)))) else ((name_between.f a0 1040 1071).bind fun t108 => (if t108 = true then (some (wrap32 (a0 + 32))) else (some a0))))))))) = some r := h
  clear h
  replace H := Option.bind_eq_some_iff.mp H
  obtain ⟨t101, A20, H⟩ := H
  replace H : (if t101 = true then (some (wrap32 (a0 + 32))) else ((name_between.f a0 192 222).bind fun t102 => (if t102 = true then (if a0 = 215 then ((name_between.f a0 913 937).bind fun t103 => (if t103 = true then (if a0 = 930 then ((name_between.f a0 1040 1071).bind fun t104 => (if t104 = true then (some (wrap32 (a0 + 32))) else (some a0))) else (some (wrap32 (a0 + 32)))) else ((name_between.f a0 1040 1071).bind fun t105 => (if t105 = true then (some (wrap32 (a0 + 32))) else (some a0))))) else (some (wrap32 (a0 + 32)))) else ((name_between.f a0 913 937).bind fun t106 => (if t106 = true then (if a0 = 930 then ((name_between.f a0 1040 1071).bind fun t107 => (if t107 = true then (some (wrap32 (a0 + 32))) else (some a0))) else (some (wrap32 (a0 + 32)))) else ((name_between.f a0 1040 1071).bind fun t108 => (if t108 = true then (some (wrap32 (a0 + 32))) else (some a0)))))))) = some r := H
  have A2 := Aside0.mk A20
  clear A20
  by_cases c3 : t101 = true
  · subst c3
    have H1 : (some (wrap32 (a0 + 32))) = some r := by rw [if_pos rfl] at H; exact H
    clear H
    have H := H1
    clear H1
    obtain rfl := Option.some.inj H
    go_enter Tryd.func20, Tryd.ntmps20
    go_wp2_with (first | ((with_reducible refine gate_callee (f := 36) rfl ?_); refine goesL_ (some 4) rfl rfl Tryd.func36 (by kernel_rfl) rfl #[.int .i32 a0, .int .i32 65, .int .i32 90] rfl (by (try simp only [List.map_toArray, List.map_cons, List.map_nil]); first | done | rfl | (simp only [List.length_drop, List.length_take]; rfl)) ?_; (with_reducible refine (name_between.calls a0 65 90 true _ A2.out).mono ?_); rintro e w' ⟨rfl, ⟨nd, rfl⟩⟩; refine ⟨_, rfl, ?_⟩))
    go_ret
    exact ⟨by first | rfl | (simp; done) | (simp [*]; done), by repeat (first | exact Drawn0.refl _ | apply Drawn0.step)⟩
  · replace c3 := Bool.eq_false_iff.mpr c3
    subst c3
    have H1 : ((name_between.f a0 192 222).bind fun t102 => (if t102 = true then (if a0 = 215 then ((name_between.f a0 913 937).bind fun t103 => (if t103 = true then (if a0 = 930 then ((name_between.f a0 1040 1071).bind fun t104 => (if t104 = true then (some (wrap32 (a0 + 32))) else (some a0))) else (some (wrap32 (a0 + 32)))) else ((name_between.f a0 1040 1071).bind fun t105 => (if t105 = true then (some (wrap32 (a0 + 32))) else (some a0))))) else (some (wrap32 (a0 + 32)))) else ((name_between.f a0 913 937).bind fun t106 => (if t106 = true then (if a0 = 930 then ((name_between.f a0 1040 1071).bind fun t107 => (if t107 = true then (some (wrap32 (a0 + 32))) else (some a0))) else (some (wrap32 (a0 + 32)))) else ((name_between.f a0 1040 1071).bind fun t108 => (if t108 = true then (some (wrap32 (a0 + 32))) else (some a0))))))) = some r := by rw [if_neg (show ¬ (false = true) by decide)] at H; exact H
    clear H
    have H := H1
    clear H1
    replace H := Option.bind_eq_some_iff.mp H
    obtain ⟨t102, A40, H⟩ := H
    replace H : (if t102 = true then (if a0 = 215 then ((name_between.f a0 913 937).bind fun t103 => (if t103 = true then (if a0 = 930 then ((name_between.f a0 1040 1071).bind fun t104 => (if t104 = true then (some (wrap32 (a0 + 32))) else (some a0))) else (some (wrap32 (a0 + 32)))) else ((name_between.f a0 1040 1071).bind fun t105 => (if t105 = true then (some (wrap32 (a0 + 32))) else (some a0))))) else (some (wrap32 (a0 + 32)))) else ((name_between.f a0 913 937).bind fun t106 => (if t106 = true then (if a0 = 930 then ((name_between.f a0 1040 1071).bind fun t107 => (if t107 = true then (some (wrap32 (a0 + 32))) else (some a0))) else (some (wrap32 (a0 + 32)))) else ((name_between.f a0 1040 1071).bind fun t108 => (if t108 = true then (some (wrap32 (a0 + 32))) else (some a0)))))) = some r := H
    have A4 := Aside0.mk A40
    clear A40
    by_cases c5 : t102 = true
    · subst c5
      have H1 : (if a0 = 215 then ((name_between.f a0 913 937).bind fun t103 => (if t103 = true then (if a0 = 930 then ((name_between.f a0 1040 1071).bind fun t104 => (if t104 = true then (some (wrap32 (a0 + 32))) else (some a0))) else (some (wrap32 (a0 + 32)))) else ((name_between.f a0 1040 1071).bind fun t105 => (if t105 = true then (some (wrap32 (a0 + 32))) else (some a0))))) else (some (wrap32 (a0 + 32)))) = some r := by rw [if_pos rfl] at H; exact H
      clear H
      have H := H1
      clear H1
      by_cases c6 : a0 = 215
      · rw [if_pos c6] at H
        have c6b0 : (a0 == 215) = true := beq_iff_eq.mpr c6
        have c6b1 : (a0 != 215) = false := bne_eq_false_iff_eq.mpr c6
        clear c6
        replace H := Option.bind_eq_some_iff.mp H
        obtain ⟨t103, A70, H⟩ := H
        replace H : (if t103 = true then (if a0 = 930 then ((name_between.f a0 1040 1071).bind fun t104 => (if t104 = true then (some (wrap32 (a0 + 32))) else (some a0))) else (some (wrap32 (a0 + 32)))) else ((name_between.f a0 1040 1071).bind fun t105 => (if t105 = true then (some (wrap32 (a0 + 32))) else (some a0)))) = some r := H
        have A7 := Aside0.mk A70
        clear A70
        by_cases c8 : t103 = true
        · subst c8
          have H1 : (if a0 = 930 then ((name_between.f a0 1040 1071).bind fun t104 => (if t104 = true then (some (wrap32 (a0 + 32))) else (some a0))) else (some (wrap32 (a0 + 32)))) = some r := by rw [if_pos rfl] at H; exact H
          clear H
          have H := H1
          clear H1
          by_cases c9 : a0 = 930
          · rw [if_pos c9] at H
            have c9b0 : (a0 == 930) = true := beq_iff_eq.mpr c9
            have c9b1 : (a0 != 930) = false := bne_eq_false_iff_eq.mpr c9
            clear c9
            replace H := Option.bind_eq_some_iff.mp H
            obtain ⟨t104, A100, H⟩ := H
            replace H : (if t104 = true then (some (wrap32 (a0 + 32))) else (some a0)) = some r := H
            have A10 := Aside0.mk A100
            clear A100
            by_cases c11 : t104 = true
            · subst c11
              have H1 : (some (wrap32 (a0 + 32))) = some r := by rw [if_pos rfl] at H; exact H
              clear H
              have H := H1
              clear H1
              obtain rfl := Option.some.inj H
              go_enter Tryd.func20, Tryd.ntmps20
              go_wp2_with (first | ((with_reducible refine gate_callee (f := 36) rfl ?_); refine goesL_ (some 4) rfl rfl Tryd.func36 (by kernel_rfl) rfl #[.int .i32 a0, .int .i32 65, .int .i32 90] rfl (by (try simp only [List.map_toArray, List.map_cons, List.map_nil]); first | done | rfl | (simp only [List.length_drop, List.length_take]; rfl)) ?_; (with_reducible refine (name_between.calls a0 65 90 false _ A2.out).mono ?_); rintro e w' ⟨rfl, ⟨nd, rfl⟩⟩; refine ⟨_, rfl, ?_⟩) | (go_at_call 36; (with_reducible refine (name_between.calls a0 192 222 true _ A4.out).mono ?_); rintro e w' ⟨rfl, ⟨nd, rfl⟩⟩) | (go_at_call 36; (with_reducible refine (name_between.calls a0 913 937 true _ A7.out).mono ?_); rintro e w' ⟨rfl, ⟨nd, rfl⟩⟩) | (go_at_call 36; (with_reducible refine (name_between.calls a0 1040 1071 true _ A10.out).mono ?_); rintro e w' ⟨rfl, ⟨nd, rfl⟩⟩))
              go_ret
              exact ⟨by first | rfl | (simp; done) | (simp [*]; done), by repeat (first | exact Drawn0.refl _ | apply Drawn0.step)⟩
            · replace c11 := Bool.eq_false_iff.mpr c11
              subst c11
              have H1 : (some a0) = some r := by rw [if_neg (show ¬ (false = true) by decide)] at H; exact H
              clear H
              have H := H1
              clear H1
              obtain rfl := Option.some.inj H
              go_enter Tryd.func20, Tryd.ntmps20
              go_wp2_with (first | ((with_reducible refine gate_callee (f := 36) rfl ?_); refine goesL_ (some 4) rfl rfl Tryd.func36 (by kernel_rfl) rfl #[.int .i32 a0, .int .i32 65, .int .i32 90] rfl (by (try simp only [List.map_toArray, List.map_cons, List.map_nil]); first | done | rfl | (simp only [List.length_drop, List.length_take]; rfl)) ?_; (with_reducible refine (name_between.calls a0 65 90 false _ A2.out).mono ?_); rintro e w' ⟨rfl, ⟨nd, rfl⟩⟩; refine ⟨_, rfl, ?_⟩) | (go_at_call 36; (with_reducible refine (name_between.calls a0 192 222 true _ A4.out).mono ?_); rintro e w' ⟨rfl, ⟨nd, rfl⟩⟩) | (go_at_call 36; (with_reducible refine (name_between.calls a0 913 937 true _ A7.out).mono ?_); rintro e w' ⟨rfl, ⟨nd, rfl⟩⟩) | (go_at_call 36; (with_reducible refine (name_between.calls a0 1040 1071 false _ A10.out).mono ?_); rintro e w' ⟨rfl, ⟨nd, rfl⟩⟩))
              go_ret
              exact ⟨by first | rfl | (simp; done) | (simp [*]; done), by repeat (first | exact Drawn0.refl _ | apply Drawn0.step)⟩
          · rw [if_neg c9] at H
            have c9b0 : (a0 == 930) = false := beq_eq_false_iff_ne.mpr c9
            have c9b1 : (a0 != 930) = true := bne_iff_ne.mpr c9
            obtain rfl := Option.some.inj H
            go_enter Tryd.func20, Tryd.ntmps20
            go_wp2_with (first | ((with_reducible refine gate_callee (f := 36) rfl ?_); refine goesL_ (some 4) rfl rfl Tryd.func36 (by kernel_rfl) rfl #[.int .i32 a0, .int .i32 65, .int .i32 90] rfl (by (try simp only [List.map_toArray, List.map_cons, List.map_nil]); first | done | rfl | (simp only [List.length_drop, List.length_take]; rfl)) ?_; (with_reducible refine (name_between.calls a0 65 90 false _ A2.out).mono ?_); rintro e w' ⟨rfl, ⟨nd, rfl⟩⟩; refine ⟨_, rfl, ?_⟩) | (go_at_call 36; (with_reducible refine (name_between.calls a0 192 222 true _ A4.out).mono ?_); rintro e w' ⟨rfl, ⟨nd, rfl⟩⟩) | (go_at_call 36; (with_reducible refine (name_between.calls a0 913 937 true _ A7.out).mono ?_); rintro e w' ⟨rfl, ⟨nd, rfl⟩⟩))
            go_ret
            exact ⟨by first | rfl | (simp; done) | (simp [*]; done), by repeat (first | exact Drawn0.refl _ | apply Drawn0.step)⟩
        · replace c8 := Bool.eq_false_iff.mpr c8
          subst c8
          have H1 : ((name_between.f a0 1040 1071).bind fun t105 => (if t105 = true then (some (wrap32 (a0 + 32))) else (some a0))) = some r := by rw [if_neg (show ¬ (false = true) by decide)] at H; exact H
          clear H
          have H := H1
          clear H1
          replace H := Option.bind_eq_some_iff.mp H
          obtain ⟨t105, A120, H⟩ := H
          replace H : (if t105 = true then (some (wrap32 (a0 + 32))) else (some a0)) = some r := H
          have A12 := Aside0.mk A120
          clear A120
          by_cases c13 : t105 = true
          · subst c13
            have H1 : (some (wrap32 (a0 + 32))) = some r := by rw [if_pos rfl] at H; exact H
            clear H
            have H := H1
            clear H1
            obtain rfl := Option.some.inj H
            go_enter Tryd.func20, Tryd.ntmps20
            go_wp2_with (first | ((with_reducible refine gate_callee (f := 36) rfl ?_); refine goesL_ (some 4) rfl rfl Tryd.func36 (by kernel_rfl) rfl #[.int .i32 a0, .int .i32 65, .int .i32 90] rfl (by (try simp only [List.map_toArray, List.map_cons, List.map_nil]); first | done | rfl | (simp only [List.length_drop, List.length_take]; rfl)) ?_; (with_reducible refine (name_between.calls a0 65 90 false _ A2.out).mono ?_); rintro e w' ⟨rfl, ⟨nd, rfl⟩⟩; refine ⟨_, rfl, ?_⟩) | (go_at_call 36; (with_reducible refine (name_between.calls a0 192 222 true _ A4.out).mono ?_); rintro e w' ⟨rfl, ⟨nd, rfl⟩⟩) | (go_at_call 36; (with_reducible refine (name_between.calls a0 913 937 false _ A7.out).mono ?_); rintro e w' ⟨rfl, ⟨nd, rfl⟩⟩) | (go_at_call 36; (with_reducible refine (name_between.calls a0 1040 1071 true _ A12.out).mono ?_); rintro e w' ⟨rfl, ⟨nd, rfl⟩⟩))
            go_ret
            exact ⟨by first | rfl | (simp; done) | (simp [*]; done), by repeat (first | exact Drawn0.refl _ | apply Drawn0.step)⟩
          · replace c13 := Bool.eq_false_iff.mpr c13
            subst c13
            have H1 : (some a0) = some r := by rw [if_neg (show ¬ (false = true) by decide)] at H; exact H
            clear H
            have H := H1
            clear H1
            obtain rfl := Option.some.inj H
            go_enter Tryd.func20, Tryd.ntmps20
            go_wp2_with (first | ((with_reducible refine gate_callee (f := 36) rfl ?_); refine goesL_ (some 4) rfl rfl Tryd.func36 (by kernel_rfl) rfl #[.int .i32 a0, .int .i32 65, .int .i32 90] rfl (by (try simp only [List.map_toArray, List.map_cons, List.map_nil]); first | done | rfl | (simp only [List.length_drop, List.length_take]; rfl)) ?_; (with_reducible refine (name_between.calls a0 65 90 false _ A2.out).mono ?_); rintro e w' ⟨rfl, ⟨nd, rfl⟩⟩; refine ⟨_, rfl, ?_⟩) | (go_at_call 36; (with_reducible refine (name_between.calls a0 192 222 true _ A4.out).mono ?_); rintro e w' ⟨rfl, ⟨nd, rfl⟩⟩) | (go_at_call 36; (with_reducible refine (name_between.calls a0 913 937 false _ A7.out).mono ?_); rintro e w' ⟨rfl, ⟨nd, rfl⟩⟩) | (go_at_call 36; (with_reducible refine (name_between.calls a0 1040 1071 false _ A12.out).mono ?_); rintro e w' ⟨rfl, ⟨nd, rfl⟩⟩))
            go_ret
            exact ⟨by first | rfl | (simp; done) | (simp [*]; done), by repeat (first | exact Drawn0.refl _ | apply Drawn0.step)⟩
      · rw [if_neg c6] at H
        have c6b0 : (a0 == 215) = false := beq_eq_false_iff_ne.mpr c6
        have c6b1 : (a0 != 215) = true := bne_iff_ne.mpr c6
        obtain rfl := Option.some.inj H
        go_enter Tryd.func20, Tryd.ntmps20
        go_wp2_with (first | ((with_reducible refine gate_callee (f := 36) rfl ?_); refine goesL_ (some 4) rfl rfl Tryd.func36 (by kernel_rfl) rfl #[.int .i32 a0, .int .i32 65, .int .i32 90] rfl (by (try simp only [List.map_toArray, List.map_cons, List.map_nil]); first | done | rfl | (simp only [List.length_drop, List.length_take]; rfl)) ?_; (with_reducible refine (name_between.calls a0 65 90 false _ A2.out).mono ?_); rintro e w' ⟨rfl, ⟨nd, rfl⟩⟩; refine ⟨_, rfl, ?_⟩) | (go_at_call 36; (with_reducible refine (name_between.calls a0 192 222 true _ A4.out).mono ?_); rintro e w' ⟨rfl, ⟨nd, rfl⟩⟩))
        go_ret
        exact ⟨by first | rfl | (simp; done) | (simp [*]; done), by repeat (first | exact Drawn0.refl _ | apply Drawn0.step)⟩
    · replace c5 := Bool.eq_false_iff.mpr c5
      subst c5
      have H1 : ((name_between.f a0 913 937).bind fun t106 => (if t106 = true then (if a0 = 930 then ((name_between.f a0 1040 1071).bind fun t107 => (if t107 = true then (some (wrap32 (a0 + 32))) else (some a0))) else (some (wrap32 (a0 + 32)))) else ((name_between.f a0 1040 1071).bind fun t108 => (if t108 = true then (some (wrap32 (a0 + 32))) else (some a0))))) = some r := by rw [if_neg (show ¬ (false = true) by decide)] at H; exact H
      clear H
      have H := H1
      clear H1
      replace H := Option.bind_eq_some_iff.mp H
      obtain ⟨t106, A140, H⟩ := H
      replace H : (if t106 = true then (if a0 = 930 then ((name_between.f a0 1040 1071).bind fun t107 => (if t107 = true then (some (wrap32 (a0 + 32))) else (some a0))) else (some (wrap32 (a0 + 32)))) else ((name_between.f a0 1040 1071).bind fun t108 => (if t108 = true then (some (wrap32 (a0 + 32))) else (some a0)))) = some r := H
      have A14 := Aside0.mk A140
      clear A140
      by_cases c15 : t106 = true
      · subst c15
        have H1 : (if a0 = 930 then ((name_between.f a0 1040 1071).bind fun t107 => (if t107 = true then (some (wrap32 (a0 + 32))) else (some a0))) else (some (wrap32 (a0 + 32)))) = some r := by rw [if_pos rfl] at H; exact H
        clear H
        have H := H1
        clear H1
        by_cases c16 : a0 = 930
        · rw [if_pos c16] at H
          have c16b0 : (a0 == 930) = true := beq_iff_eq.mpr c16
          have c16b1 : (a0 != 930) = false := bne_eq_false_iff_eq.mpr c16
          clear c16
          replace H := Option.bind_eq_some_iff.mp H
          obtain ⟨t107, A170, H⟩ := H
          replace H : (if t107 = true then (some (wrap32 (a0 + 32))) else (some a0)) = some r := H
          have A17 := Aside0.mk A170
          clear A170
          by_cases c18 : t107 = true
          · subst c18
            have H1 : (some (wrap32 (a0 + 32))) = some r := by rw [if_pos rfl] at H; exact H
            clear H
            have H := H1
            clear H1
            obtain rfl := Option.some.inj H
            go_enter Tryd.func20, Tryd.ntmps20
            go_wp2_with (first | ((with_reducible refine gate_callee (f := 36) rfl ?_); refine goesL_ (some 4) rfl rfl Tryd.func36 (by kernel_rfl) rfl #[.int .i32 a0, .int .i32 65, .int .i32 90] rfl (by (try simp only [List.map_toArray, List.map_cons, List.map_nil]); first | done | rfl | (simp only [List.length_drop, List.length_take]; rfl)) ?_; (with_reducible refine (name_between.calls a0 65 90 false _ A2.out).mono ?_); rintro e w' ⟨rfl, ⟨nd, rfl⟩⟩; refine ⟨_, rfl, ?_⟩) | (go_at_call 36; (with_reducible refine (name_between.calls a0 192 222 false _ A4.out).mono ?_); rintro e w' ⟨rfl, ⟨nd, rfl⟩⟩) | (go_at_call 36; (with_reducible refine (name_between.calls a0 913 937 true _ A14.out).mono ?_); rintro e w' ⟨rfl, ⟨nd, rfl⟩⟩) | (go_at_call 36; (with_reducible refine (name_between.calls a0 1040 1071 true _ A17.out).mono ?_); rintro e w' ⟨rfl, ⟨nd, rfl⟩⟩))
            go_ret
            exact ⟨by first | rfl | (simp; done) | (simp [*]; done), by repeat (first | exact Drawn0.refl _ | apply Drawn0.step)⟩
          · replace c18 := Bool.eq_false_iff.mpr c18
            subst c18
            have H1 : (some a0) = some r := by rw [if_neg (show ¬ (false = true) by decide)] at H; exact H
            clear H
            have H := H1
            clear H1
            obtain rfl := Option.some.inj H
            go_enter Tryd.func20, Tryd.ntmps20
            go_wp2_with (first | ((with_reducible refine gate_callee (f := 36) rfl ?_); refine goesL_ (some 4) rfl rfl Tryd.func36 (by kernel_rfl) rfl #[.int .i32 a0, .int .i32 65, .int .i32 90] rfl (by (try simp only [List.map_toArray, List.map_cons, List.map_nil]); first | done | rfl | (simp only [List.length_drop, List.length_take]; rfl)) ?_; (with_reducible refine (name_between.calls a0 65 90 false _ A2.out).mono ?_); rintro e w' ⟨rfl, ⟨nd, rfl⟩⟩; refine ⟨_, rfl, ?_⟩) | (go_at_call 36; (with_reducible refine (name_between.calls a0 192 222 false _ A4.out).mono ?_); rintro e w' ⟨rfl, ⟨nd, rfl⟩⟩) | (go_at_call 36; (with_reducible refine (name_between.calls a0 913 937 true _ A14.out).mono ?_); rintro e w' ⟨rfl, ⟨nd, rfl⟩⟩) | (go_at_call 36; (with_reducible refine (name_between.calls a0 1040 1071 false _ A17.out).mono ?_); rintro e w' ⟨rfl, ⟨nd, rfl⟩⟩))
            go_ret
            exact ⟨by first | rfl | (simp; done) | (simp [*]; done), by repeat (first | exact Drawn0.refl _ | apply Drawn0.step)⟩
        · rw [if_neg c16] at H
          have c16b0 : (a0 == 930) = false := beq_eq_false_iff_ne.mpr c16
          have c16b1 : (a0 != 930) = true := bne_iff_ne.mpr c16
          obtain rfl := Option.some.inj H
          go_enter Tryd.func20, Tryd.ntmps20
          go_wp2_with (first | ((with_reducible refine gate_callee (f := 36) rfl ?_); refine goesL_ (some 4) rfl rfl Tryd.func36 (by kernel_rfl) rfl #[.int .i32 a0, .int .i32 65, .int .i32 90] rfl (by (try simp only [List.map_toArray, List.map_cons, List.map_nil]); first | done | rfl | (simp only [List.length_drop, List.length_take]; rfl)) ?_; (with_reducible refine (name_between.calls a0 65 90 false _ A2.out).mono ?_); rintro e w' ⟨rfl, ⟨nd, rfl⟩⟩; refine ⟨_, rfl, ?_⟩) | (go_at_call 36; (with_reducible refine (name_between.calls a0 192 222 false _ A4.out).mono ?_); rintro e w' ⟨rfl, ⟨nd, rfl⟩⟩) | (go_at_call 36; (with_reducible refine (name_between.calls a0 913 937 true _ A14.out).mono ?_); rintro e w' ⟨rfl, ⟨nd, rfl⟩⟩))
          go_ret
          exact ⟨by first | rfl | (simp; done) | (simp [*]; done), by repeat (first | exact Drawn0.refl _ | apply Drawn0.step)⟩
      · replace c15 := Bool.eq_false_iff.mpr c15
        subst c15
        have H1 : ((name_between.f a0 1040 1071).bind fun t108 => (if t108 = true then (some (wrap32 (a0 + 32))) else (some a0))) = some r := by rw [if_neg (show ¬ (false = true) by decide)] at H; exact H
        clear H
        have H := H1
        clear H1
        replace H := Option.bind_eq_some_iff.mp H
        obtain ⟨t108, A190, H⟩ := H
        replace H : (if t108 = true then (some (wrap32 (a0 + 32))) else (some a0)) = some r := H
        have A19 := Aside0.mk A190
        clear A190
        by_cases c20 : t108 = true
        · subst c20
          have H1 : (some (wrap32 (a0 + 32))) = some r := by rw [if_pos rfl] at H; exact H
          clear H
          have H := H1
          clear H1
          obtain rfl := Option.some.inj H
          go_enter Tryd.func20, Tryd.ntmps20
          go_wp2_with (first | ((with_reducible refine gate_callee (f := 36) rfl ?_); refine goesL_ (some 4) rfl rfl Tryd.func36 (by kernel_rfl) rfl #[.int .i32 a0, .int .i32 65, .int .i32 90] rfl (by (try simp only [List.map_toArray, List.map_cons, List.map_nil]); first | done | rfl | (simp only [List.length_drop, List.length_take]; rfl)) ?_; (with_reducible refine (name_between.calls a0 65 90 false _ A2.out).mono ?_); rintro e w' ⟨rfl, ⟨nd, rfl⟩⟩; refine ⟨_, rfl, ?_⟩) | (go_at_call 36; (with_reducible refine (name_between.calls a0 192 222 false _ A4.out).mono ?_); rintro e w' ⟨rfl, ⟨nd, rfl⟩⟩) | (go_at_call 36; (with_reducible refine (name_between.calls a0 913 937 false _ A14.out).mono ?_); rintro e w' ⟨rfl, ⟨nd, rfl⟩⟩) | (go_at_call 36; (with_reducible refine (name_between.calls a0 1040 1071 true _ A19.out).mono ?_); rintro e w' ⟨rfl, ⟨nd, rfl⟩⟩))
          go_ret
          exact ⟨by first | rfl | (simp; done) | (simp [*]; done), by repeat (first | exact Drawn0.refl _ | apply Drawn0.step)⟩
        · replace c20 := Bool.eq_false_iff.mpr c20
          subst c20
          have H1 : (some a0) = some r := by rw [if_neg (show ¬ (false = true) by decide)] at H; exact H
          clear H
          have H := H1
          clear H1
          obtain rfl := Option.some.inj H
          go_enter Tryd.func20, Tryd.ntmps20
          go_wp2_with (first | ((with_reducible refine gate_callee (f := 36) rfl ?_); refine goesL_ (some 4) rfl rfl Tryd.func36 (by kernel_rfl) rfl #[.int .i32 a0, .int .i32 65, .int .i32 90] rfl (by (try simp only [List.map_toArray, List.map_cons, List.map_nil]); first | done | rfl | (simp only [List.length_drop, List.length_take]; rfl)) ?_; (with_reducible refine (name_between.calls a0 65 90 false _ A2.out).mono ?_); rintro e w' ⟨rfl, ⟨nd, rfl⟩⟩; refine ⟨_, rfl, ?_⟩) | (go_at_call 36; (with_reducible refine (name_between.calls a0 192 222 false _ A4.out).mono ?_); rintro e w' ⟨rfl, ⟨nd, rfl⟩⟩) | (go_at_call 36; (with_reducible refine (name_between.calls a0 913 937 false _ A14.out).mono ?_); rintro e w' ⟨rfl, ⟨nd, rfl⟩⟩) | (go_at_call 36; (with_reducible refine (name_between.calls a0 1040 1071 false _ A19.out).mono ?_); rintro e w' ⟨rfl, ⟨nd, rfl⟩⟩))
          go_ret
          exact ⟨by first | rfl | (simp; done) | (simp [*]; done), by repeat (first | exact Drawn0.refl _ | apply Drawn0.step)⟩

/-! ### utf8_ValidString: function 34 (a contract of this session's own) -/
def utf8_ValidString.f (a0 : ByteArray) : Option Bool := if a0.size ≤ 140737488351232 then some (Lib.validD a0.data.toList) else none
theorem utf8_ValidString.calls (a0 : ByteArray) (r : Bool) (w : World) (h : utf8_ValidString.f a0 = some r) (hT : NC.TabW w) :
    Calls Tryd.prog 34 #[.string a0] w fun e w' => e = .returned (.bool r) ∧ Below w.heap.size w w' := by
  unfold utf8_ValidString.f at h
  by_cases hs : a0.size ≤ 140737488351232
  · rw [if_pos hs] at h
    obtain rfl := Option.some.inj h
    exact Any.utf8_ValidString Tryd.lays196 a0 w (by omega) hT.1
  · rw [if_neg hs] at h
    cases h

/-! ### name_Fold: function 12 (a contract of this session's own) -/
theorem name_Small.is (c : Int) (h0 : -2147483648 ≤ c) (h1 : c ≤ 2147483647) : name_Small.f c = some (NC.smallZ c) := by
  have hw : ∀ x : Int, 0 ≤ x → x ≤ 2000000 → wrap32 x = x := by intro x a b; unfold wrap32; omega
  have hb : ∀ a b : Int, name_between.f c a b = some (decide (a ≤ c ∧ c ≤ b)) := by
    intro a b
    unfold name_between.f
    by_cases h : a ≤ c
    · rw [if_pos (show c ≥ a from h)]; simp [h]
    · rw [if_neg (show ¬ c ≥ a from h)]; simp [h]
  unfold name_Small.f NC.smallZ
  simp only [hb, Option.bind_some, decide_eq_true_eq]
  repeat' split
  all_goals first | (exfalso; omega) | rfl | (rw [hw _ (by omega) (by omega)])
def name_Fold.f (a0 : ByteArray) : Option ByteArray := if a0.size ≤ 17592186044416 then some (NC.foldB a0) else none
theorem name_Fold.conv {W : World} {base : Nat} {ok : Nat → Prop} {v : Value} {xs : List Int} (h : (Kd.int .i32).R 21 W base ok v xs) : (convert 44 9 v).run Tryd.prog W = .ok (.string (runesBytes xs)) W := by
  obtain ⟨A, c, rfl, hc, hr⟩ := Kd.R_reads h
  cases A with
  | none =>
    have hx : xs = [] := by
      rcases Nat.eq_zero_or_pos xs.length with h0 | h0
      · exact List.eq_nil_of_length_eq_zero h0
      · obtain ⟨ad, h, _⟩ := hr.2.2 h0
        cases h
    subst hx
    exact run_convert_runes_nil W _ _ _ _ _ Tryd.underlying44 Tryd.underlying21 Tryd.underlying9
  | some a =>
    have := run_convert_runes W _ _ _ a xs.length c xs (Nat.le_refl _) Tryd.underlying44 Tryd.underlying21 Tryd.underlying9 (fun j hj => by
      obtain ⟨ad, e, hx⟩ := Kd.at_int hr (j : Int) (by omega) (by omega)
      cases e
      simpa [rd] using hx)
    rw [List.take_length] at this
    exact this
set_option maxHeartbeats 4000000 in
set_option maxRecDepth 100000 in
theorem name_Fold.calls (a0 : ByteArray) (r : ByteArray) (w : World) (h : name_Fold.f a0 = some r) (hT : NC.TabW w) :
    Calls Tryd.prog 12 #[.string a0] w fun e w' => e = .returned (.string r) ∧ Below w.heap.size w w' := by
  unfold name_Fold.f at h
  by_cases hs : a0.size ≤ 17592186044416
  case neg => rw [if_neg hs] at h; cases h
  rw [if_pos hs] at h
  obtain rfl := Option.some.inj h
  clear h
  have HS := Aside0.mk hs
  by_cases hv : Lib.validD a0.data.toList = true
  · have HF := Aside0.mk (show NC.foldB a0 = runesBytes ((NC.runes a0).map NC.smallZ) by unfold NC.foldB; rw [if_pos hv])
    have hc1 := utf8_ValidString.calls a0 true w (by unfold utf8_ValidString.f; rw [if_pos (by omega), hv]) hT
    clear hv hs
    go_enter Tryd.func12, Tryd.ntmps12
    go_wp2_with (go_at_call 34; refine hc1.mono ?_; rintro e w1 ⟨rfl, hb1⟩)
    go_loopw [3, 5] (fun v3 _ wr => ∃ (pos fuel : Nat) (acc : List Int), Aside0 ((Kd.int .i32).R 21 wr w.heap.size (fun k => k ≠ w1.heap.size) v3 acc) ∧ Aside0 (wr.heap[w1.heap.size]? = some (.stringIter a0 pos)) ∧ Aside0 (Below w.heap.size w wr) ∧ Aside0 (acc ++ (NC.runesL a0 fuel pos).map NC.smallZ = (NC.runes a0).map NC.smallZ) ∧ Aside0 (a0.size ≤ pos + fuel) ∧ Aside0 (acc.length ≤ pos)) (fun _ _ wr => a0.size - wr.iterPos w1.heap.size)
    case atStart =>
      refine ⟨0, a0.size, [], ⟨Kd.R_nil _ _ _ _ _⟩, ⟨?_⟩, ⟨hb1.trans ((Below.refl _ _).alloc hb1.size _)⟩, ⟨by simp [NC.runes]⟩, ⟨by omega⟩, ⟨by simp⟩⟩
      have := World.iter_heap w1 a0 0
      simpa using this
    case round =>
      obtain ⟨pos, fuel, acc, HR, HI, HB, HA, HFu, HL⟩ := hrel
      have hsz : w1.heap.size < wr.heap.size := (Array.getElem?_eq_some_iff.1 HI.out).1
      have hszw : w.heap.size ≤ w1.heap.size := hb1.size
      by_cases hp : pos < a0.size
      · have hnx : ∀ ty, (Instr.next (.pointer (some ⟨w1.heap.size, 0, none⟩)) true ty).run Tryd.prog wr = _ := fun ty => Lib.run_next_any_at wr w1.heap.size a0 pos ty HI.out hp
        have hwd := Lib.decode_width_pos a0 pos hp
        have hd1 := decode_le a0 pos
        have hfu := HFu.out
        obtain ⟨f, rfl⟩ : ∃ f, fuel = f + 1 := ⟨fuel - 1, by omega⟩
        have HA2 := Aside0.mk (show (acc ++ [NC.smallZ ((Utf8.decode a0 pos).1 : Int)]) ++ (NC.runesL a0 f (pos + (Utf8.decode a0 pos).2)).map NC.smallZ = (NC.runes a0).map NC.smallZ by
          rw [← HA.out]; simp [NC.runesL, hp])
        have HL2 := Aside0.mk (show (acc ++ [NC.smallZ ((Utf8.decode a0 pos).1 : Int)]).length ≤ pos + (Utf8.decode a0 pos).2 by have := HL.out; simp; omega)
        have HF2 := Aside0.mk (show a0.size ≤ (pos + (Utf8.decode a0 pos).2) + f by omega)
        have hlen : (acc.length + 1) * 4 ≤ 140737488355328 := by have := HL.out; have := HS.out; omega
        have HLN := Aside0.mk hlen
        have hnm := name_Small.is ((Utf8.decode a0 pos).1 : Int) (by omega) (by omega)
        have HNM := Aside0.mk hnm
        generalize hcz : NC.smallZ ((Utf8.decode a0 pos).1 : Int) = z at HA2 HL2 HNM
        generalize hcw : pos + (Utf8.decode a0 pos).2 = pos2 at hnx HA2 HL2 HF2
        have HP2 := Aside0.mk (show pos < pos2 by omega)
        generalize hcd : ((Utf8.decode a0 pos).1 : Int) = c at hnx HNM
        obtain ⟨W, hW⟩ : ∃ W, wr.iterAt w1.heap.size a0 pos2 = W := ⟨_, rfl⟩
        have HIW := Aside0.mk (show W.heap[w1.heap.size]? = some (.stringIter a0 pos2) by rw [← hW]; exact Lib.iterAt_heap wr w1.heap.size a0 pos pos2 HI.out)
        have HRW := Aside0.mk (show (Kd.int .i32).R 21 W w.heap.size (fun k => k ≠ w1.heap.size) u3 acc by rw [← hW]; exact Kd.R_step HR.out (fun k hk _ => Lib.iterAt_other wr w1.heap.size k a0 pos2 hk))
        have HBW := Aside0.mk (show Below w.heap.size w W by rw [← hW]; exact Lib.below_iterAt HB.out hszw a0 pos2)
        have HSW := Aside0.mk (show wr.heap.size = W.heap.size by rw [← hW]; exact (Lib.iterAt_size wr w1.heap.size a0 pos2).symm)
        rw [hW] at hnx
        clear hW hcz hcw hcd hnm hlen hfu hd1 hwd HA HL HFu HB HR
        have HSZ := Aside0.mk hsz
        have HSZW := Aside0.mk hszw
        clear hsz hszw
        go_wp2_with (first
          | (go_at_call 20; refine (name_Small.calls c z _ HNM.out).mono ?_; rintro e w2 ⟨rfl, hdr⟩; obtain ⟨nd, rfl⟩ := hdr.out)
          | ((with_reducible refine gate_builtin (b := .append) (xs := #[.tmp 15, .tmp 18]) rfl ?_); at_builtin; refine Kd.R_append (Kd.int .i32) (w0 := w) w.heap.size rfl (.tmp 15) (.tmp 18) 44 21 (.int .i32 0) 4 rfl Tryd.underlying44 NC.infoRune rfl (by decide) (by omega) u3 acc z [.int .i32 z] (fun k => k ≠ w1.heap.size) (fun _ => False) rfl (by first | (go_simp; done) | (go_simp; rfl)) ?aP (fun _ hk => hk.elim) ?aF ?aO ?aB ?aS ?aL ?_; (case aP => exact rfl); (case aB => exact (pw_below_drewN HBW.out _)); (case aF => exact (fun k hk => by have h1 := HSW.out; have h2 := HSZ.out; have h3 : W.heap.size ≤ k := hk; omega)); (case aO => exact Kd.R_drewN HRW.out _); (case aS => exact HBW.out.size); (case aL => exact HLN.out); intro v5 w5 ho hb hg hat; have HO5 := Aside0.mk ho; have HB5 := Aside0.mk hb; have HI5 := Aside0.mk ((hg.block w1.heap.size (show w1.heap.size < W.heap.size by have h1 := HSW.out; have h2 := HSZ.out; omega) (fun e => HRW.out.1 _ e.symm rfl)).trans HIW.out); clear ho hb hg hat))
        go_roundw
        case rel => exact ⟨pos2, f, acc ++ [z], HO5, HI5, HB5, HA2, HF2, HL2⟩
        case measure =>
          have h1 := HI5.out
          have h2 := HI.out
          have h3 := HP2.out
          simp only [World.iterPos, h1, h2]
          omega
      · have hnx : ∀ ty, (Instr.next (.pointer (some ⟨w1.heap.size, 0, none⟩)) true ty).run Tryd.prog wr = _ := fun ty => Lib.run_next_end_at wr w1.heap.size a0 pos ty HI.out hp
        have HE := Aside0.mk (show NC.foldB a0 = runesBytes acc by rw [HF.out, ← HA.out, NC.runesL_end a0 fuel pos hp]; simp)
        have hcv := name_Fold.conv HR.out
        clear hp HA HFu HL HR HI HF
        go_wp2
        go_ret
        exact ⟨NC.ret_str HE.out, HB.out⟩
  · have hv2 : Lib.validD a0.data.toList = false := by simpa using hv
    have HF := Aside0.mk (show NC.foldB a0 = a0 by unfold NC.foldB; rw [if_neg hv])
    have hc1 := utf8_ValidString.calls a0 false w (by unfold utf8_ValidString.f; rw [if_pos (by omega), hv2]) hT
    clear hv hv2 hs
    go_enter Tryd.func12, Tryd.ntmps12
    go_wp2_with (go_at_call 34; refine hc1.mono ?_; rintro e w1 ⟨rfl, hb1⟩)
    go_ret
    exact ⟨NC.ret_str HF.out, hb1⟩

/-! ### name_Hash: function 13 -/
def name_Hash.l0 : Nat → ByteArray → Int → Int → Int → Option (Int)
  | 0, _, _, _, _ => none
  | k + 1, x0, x3, x6, x7 => if x7 < x6 then (if 0 ≤ x7 then (if x7 < (x0.size : Int) then (name_Hash.l0 k x0 (IntKind.u64.wrap ((Go.bits .xor .u64 x3 (IntKind.u64.wrap (bt x0 x7))) * 1099511628211)) x6 (wrap64 (x7 + 1))) else (none)) else (none)) else (some x3)
def name_Hash.f (k : Nat) (a0 : ByteArray) : Option (Int) := name_Hash.l0 k a0 14695981039346656037 (a0.size : Int) 0
theorem name_Hash.mono_l : ∀ k, (∀ y0 y1 y2 y3, LeO (name_Hash.l0 k y0 y1 y2 y3) (name_Hash.l0 (k + 1) y0 y1 y2 y3))
  | 0 => fun _ _ _ _ r h => by simp [name_Hash.l0] at h
  | k + 1 => by
    have ih0 := name_Hash.mono_l k
    · intro y0 y1 y2 y3
      unfold name_Hash.l0
      repeat' first
      | (with_reducible exact ih0 _ _ _ _)
      | (with_reducible exact LeO.refl _)
      | (with_reducible exact LeO.none _)
      | (with_reducible refine LeO.ite ?_ ?_)
      | (with_reducible refine LeO.bind ?_ (fun _ => ?_))
      | exact ih0 _ _ _ _
      | exact LeO.none _
      | refine LeO.ite ?_ ?_
      | refine LeO.bind ?_ (fun _ => ?_)
theorem name_Hash.mono : ∀ a0 k, LeO (name_Hash.f k a0) (name_Hash.f (k + 1) a0) := by
  intro a0 k
  have ih0 := name_Hash.mono_l k
  unfold name_Hash.f
  repeat' first
      | (with_reducible exact ih0 _ _ _ _)
      | (with_reducible exact LeO.refl _)
      | (with_reducible exact LeO.none _)
      | (with_reducible refine LeO.ite ?_ ?_)
      | (with_reducible refine LeO.bind ?_ (fun _ => ?_))
      | exact ih0 _ _ _ _
      | exact LeO.none _
      | refine LeO.ite ?_ ?_
      | refine LeO.bind ?_ (fun _ => ?_)
set_option maxHeartbeats 8000000 in
set_option maxRecDepth 100000 in
theorem name_Hash.calls (k : Nat) (a0 : ByteArray) (r : Int) (w : World) (h : name_Hash.f k a0 = some r) :
    Calls Tryd.prog 13 #[.string a0] w fun e w' => e = .returned (.int .u64 r) ∧ Drawn0 w w' := by
  have H : (name_Hash.l0 k a0 14695981039346656037 (a0.size : Int) 0) = some r := h
  clear h
  have H' := Aside0.mk H
  clear H
  go_enter Tryd.func13, Tryd.ntmps13
  go_wp2
  go_loopg [3, 7] k (fun kq v3 v7 w' => ∃ (x3_1 : Int) (x7_1 : Int), v3 = .int .u64 x3_1 ∧ v7 = .int .i64 x7_1 ∧ Aside0 (name_Hash.l0 kq a0 x3_1 (a0.size : Int) x7_1 = some r) ∧ Aside0 (kq ≤ k) ∧ Drawn0 w w')
  case atStart => exact ⟨(14695981039346656037), (0), (by first | rfl | (simp; done) | (simp [*]; done)), (by first | rfl | (simp; done) | (simp [*]; done)), H', ⟨Nat.le_refl _⟩, by repeat (first | exact Drawn0.refl _ | apply Drawn0.step)⟩
  case round =>
    clear H'
    try clear c1
    obtain ⟨x3_1, x7_1, rfl, rfl, HA, HK1, ⟨m1, rfl⟩⟩ := hrel
    cases gk with
    | zero => exact absurd HA.out (by simp [name_Hash.l0])
    | succ k1 =>
      have H := HA.out
      clear HA
      simp only [name_Hash.l0] at H
      by_cases c2 : x7_1 < (a0.size : Int)
      · rw [if_pos c2] at H
        have c2b0 : decide (x7_1 < (a0.size : Int)) = true := decide_eq_true c2
        clear c2
        by_cases c3 : 0 ≤ x7_1
        · rw [if_pos c3] at H
          have c3b0 : decide (0 ≤ x7_1) = true := decide_eq_true c3
          clear c3
          by_cases c4 : x7_1 < (a0.size : Int)
          · rw [if_pos c4] at H
            have c4b0 : decide (x7_1 < (a0.size : Int)) = true := decide_eq_true c4
            clear c4
            have H' := Aside0.mk H
            clear H
            have p5 : 0 ≤ (x7_1 : Int) := of_decide_eq_true (by first | (with_reducible assumption) | assumption)
            have q5 : x7_1 < (a0.size : Int) := of_decide_eq_true (by first | (with_reducible assumption) | assumption)
            have hx5 := bt_at a0 x7_1
            replace p5 := eq_true p5
            replace q5 := eq_true q5
            go_wp2
            go_roundg k1
            case measure => have := HK1.out; omega
            case rel => exact ⟨(IntKind.u64.wrap ((Go.bits .xor .u64 x3_1 (IntKind.u64.wrap (bt a0 x7_1))) * 1099511628211)), (wrap64 (x7_1 + 1)), (by first | rfl | (simp; done) | (simp [*]; done)), (by first | rfl | (simp; done) | (simp [*]; done)), H', ⟨by have := HK1.out; omega⟩, by repeat (first | exact Drawn0.refl _ | apply Drawn0.step)⟩
          · rw [if_neg c4] at H
            exact absurd H (by simp)
        · rw [if_neg c3] at H
          exact absurd H (by simp)
      · rw [if_neg c2] at H
        have c2b0 : decide (x7_1 < (a0.size : Int)) = false := decide_eq_false c2
        clear c2
        obtain rfl := Option.some.inj H
        go_wp2
        go_ret
        exact ⟨by first | rfl | (simp; done) | (simp [*]; done), by repeat (first | exact Drawn0.refl _ | apply Drawn0.step)⟩

/-! ### name_Key: function 15 -/
def name_Key.f (k : Nat) (a0 : ByteArray) : Option (Int) := (name_Fold.f a0).bind fun t109 => ((name_Hash.f k t109).bind fun t110 => (some t110))
theorem name_Key.mono : ∀ a0 k, LeO (name_Key.f k a0) (name_Key.f (k + 1) a0) := by
  intro a0 k
  unfold name_Key.f
  repeat' first
      | (with_reducible exact name_Hash.mono _ _)
      | (with_reducible exact LeO.refl _)
      | (with_reducible exact LeO.none _)
      | (with_reducible refine LeO.ite ?_ ?_)
      | (with_reducible refine LeO.bind ?_ (fun _ => ?_))
      | exact name_Hash.mono _ _
      | exact LeO.none _
      | refine LeO.ite ?_ ?_
      | refine LeO.bind ?_ (fun _ => ?_)
set_option maxHeartbeats 8000000 in
set_option maxRecDepth 100000 in
theorem name_Key.calls (k : Nat) (a0 : ByteArray) (r : Int) (w : World) (h : name_Key.f k a0 = some r) (hT : NC.TabW w) :
    Calls Tryd.prog 15 #[.string a0] w fun e w' => e = .returned (.int .u64 r) ∧ Below w.heap.size w w' := by
  have HT := Aside0.mk hT
  clear hT
  have HB := Aside0.mk (Below.refl w.heap.size w)
  have H : ((name_Fold.f a0).bind fun t109 => ((name_Hash.f k t109).bind fun t110 => (some t110))) = some r := h
  clear h
  replace H := Option.bind_eq_some_iff.mp H
  obtain ⟨t109, A20, H⟩ := H
  replace H : ((name_Hash.f k t109).bind fun t110 => (some t110)) = some r := H
  have A2 := Aside0.mk A20
  clear A20
  replace H := Option.bind_eq_some_iff.mp H
  obtain ⟨t110, A30, H⟩ := H
  replace H : (some t110) = some r := H
  have A3 := Aside0.mk A30
  clear A30
  obtain rfl := Option.some.inj H
  go_enter Tryd.func15, Tryd.ntmps15
  go_wp2_with (first | ((with_reducible refine gate_callee (f := 12) rfl ?_); refine goesL_ (some 4) rfl rfl Tryd.func12 (by kernel_rfl) rfl #[.string a0] rfl (by (try simp only [List.map_toArray, List.map_cons, List.map_nil]); first | done | rfl | (simp only [List.length_drop, List.length_take]; rfl)) ?_; (with_reducible refine (name_Fold.calls a0 t109 _ A2.out (NC.TabW.below HT.out (by repeat (first | (with_reducible first | exact HB.out | apply below_alloc | apply pw_below_drewN | apply below_drew1) | exact HB.out)))).mono ?_); rintro e w4 ⟨rfl, hb⟩; refine ⟨_, rfl, ?_⟩; have n0_ := Aside0.mk (below_step (by repeat (first | (with_reducible first | exact HB.out | apply below_alloc | apply pw_below_drewN | apply below_drew1) | exact HB.out)) hb); clear HB; have HB := n0_; clear n0_; (try clear hb); (try clear hb2); (try clear hk); (try clear hi)) | ((with_reducible refine gate_callee (f := 13) rfl ?_); refine goesL_ (some 5) rfl rfl Tryd.func13 (by kernel_rfl) rfl #[.string t109] rfl (by (try simp only [List.map_toArray, List.map_cons, List.map_nil]); first | done | rfl | (simp only [List.length_drop, List.length_take]; rfl)) ?_; (with_reducible refine (name_Hash.calls k t109 t110 _ A3.out).mono ?_); rintro e w' ⟨rfl, ⟨nd, rfl⟩⟩; refine ⟨_, rfl, ?_⟩))
  go_ret
  exact ⟨by first | rfl | (simp [errW_none, errW_some] <;> rfl) | (simp [*, errW_none, errW_some] <;> rfl), by repeat (first | (with_reducible first | exact HB.out | apply below_alloc | apply pw_below_drewN | apply below_drew1) | exact HB.out)⟩

/-! ### utf8_RuneCountInString: function 37 (a contract of this session's own) -/
def utf8_RuneCountInString.f (a0 : ByteArray) : Option Int := if a0.size ≤ 140737488351232 then some (Lib.runeCount a0) else none
theorem utf8_RuneCountInString.calls (a0 : ByteArray) (r : Int) (w : World) (h : utf8_RuneCountInString.f a0 = some r) :
    Calls Tryd.prog 37 #[.string a0] w fun e w' => e = .returned (.int .i64 r) ∧ Below w.heap.size w w' := by
  unfold utf8_RuneCountInString.f at h
  by_cases hs : a0.size ≤ 140737488351232
  · rw [if_pos hs] at h
    obtain rfl := Option.some.inj h
    refine (Tryd.utf8_RuneCountInString a0 w (by omega)).mono ?_
    rintro e w' ⟨he, pos, rfl⟩
    exact ⟨he, below_alloc (Below.refl _ _) _⟩
  · rw [if_neg hs] at h
    cases h

/-! ### name_Letter: function 18 -/
def name_Letter.j0 : Nat → Int → Bool → Option (Bool)
  | 0, _, _ => none
  | k + 1, x0, x3 => if x3 = true then (some true) else ((name_between.f x0 192 591).bind fun t113 => (if t113 = true then (if x0 = 215 then (some false) else (some (x0 != 247))) else ((name_between.f x0 913 937).bind fun t114 => (if t114 = true then (some (x0 != 930)) else ((name_between.f x0 945 969).bind fun t115 => (if t115 = true then (some true) else ((name_between.f x0 1040 1103).bind fun t116 => (if t116 = true then (some true) else ((name_between.f x0 19968 40959).bind fun t117 => (some t117))))))))))
def name_Letter.f (k : Nat) (a0 : Int) : Option (Bool) := (name_between.f a0 65 90).bind fun t111 => (if t111 = true then (name_Letter.j0 k a0 t111) else ((name_between.f a0 97 122).bind fun t112 => (name_Letter.j0 k a0 t112)))
theorem name_Letter.mono_l : ∀ k, (∀ y0 y1, LeO (name_Letter.j0 k y0 y1) (name_Letter.j0 (k + 1) y0 y1))
  | 0 => fun _ _ r h => by simp [name_Letter.j0] at h
  | k + 1 => by
    have ih0 := name_Letter.mono_l k
    · intro y0 y1
      unfold name_Letter.j0
      repeat' first
      | (with_reducible exact ih0 _ _)
      | (with_reducible exact LeO.refl _)
      | (with_reducible exact LeO.none _)
      | (with_reducible refine LeO.ite ?_ ?_)
      | (with_reducible refine LeO.bind ?_ (fun _ => ?_))
      | exact ih0 _ _
      | exact LeO.none _
      | refine LeO.ite ?_ ?_
      | refine LeO.bind ?_ (fun _ => ?_)
theorem name_Letter.mono : ∀ a0 k, LeO (name_Letter.f k a0) (name_Letter.f (k + 1) a0) := by
  intro a0 k
  have ih0 := name_Letter.mono_l k
  unfold name_Letter.f
  repeat' first
      | (with_reducible exact ih0 _ _)
      | (with_reducible exact LeO.refl _)
      | (with_reducible exact LeO.none _)
      | (with_reducible refine LeO.ite ?_ ?_)
      | (with_reducible refine LeO.bind ?_ (fun _ => ?_))
      | exact ih0 _ _
      | exact LeO.none _
      | refine LeO.ite ?_ ?_
      | refine LeO.bind ?_ (fun _ => ?_)
set_option maxHeartbeats 8000000 in
set_option maxRecDepth 100000 in
theorem name_Letter.calls (k : Nat) (a0 : Int) (r : Bool) (w : World) (h : name_Letter.f k a0 = some r) :
    Calls Tryd.prog 18 #[.int .i32 a0] w fun e w' => e = .returned (.bool r) ∧ Drawn0 w w' := by
  have H : ((name_between.f a0 65 90).bind fun t111 => (if t111 = true then (name_Letter.j0 k a0 t111) else ((name_between.f a0 97 122).bind fun t112 => (name_Letter.j0 k a0 t112)))) = some r := h
  clear h
  replace H := Option.bind_eq_some_iff.mp H
  obtain ⟨t111, A20, H⟩ := H
  replace H : (if t111 = true then (name_Letter.j0 k a0 t111) else ((name_between.f a0 97 122).bind fun t112 => (name_Letter.j0 k a0 t112))) = some r := H
  have A2 := Aside0.mk A20
  clear A20
  have HC3 := Aside0.mk H
  clear H
  go_enter Tryd.func18, Tryd.ntmps18
  go_upto_if 3 with (first | ((with_reducible refine gate_callee (f := 36) rfl ?_); refine goesL_ (some 5) rfl rfl Tryd.func36 (by kernel_rfl) rfl #[.int .i32 a0, .int .i32 65, .int .i32 90] rfl (by (try simp only [List.map_toArray, List.map_cons, List.map_nil]); first | done | rfl | (simp only [List.length_drop, List.length_take]; rfl)) ?_; (with_reducible refine (name_between.calls a0 65 90 t111 _ A2.out).mono ?_); rintro e w' ⟨rfl, ⟨nd, rfl⟩⟩; refine ⟨_, rfl, ?_⟩))
  (try simp only [Act.put, List.setIfInBounds_toArray, List.set_cons_zero, List.set_cons_succ])
  go_cut [3] (fun v3 wc => ∃ (kq : Nat) (x3_2 : Bool), v3 = .bool x3_2 ∧ Aside0 (name_Letter.j0 kq a0 x3_2 = some r) ∧ Aside0 (kq ≤ k) ∧ Drawn0 w wc)
  case first =>
    have H := HC3.out
    clear HC3
    by_cases c4 : t111 = true
    · subst c4
      have H1 : (name_Letter.j0 k a0 true) = some r := by rw [if_pos rfl] at H; exact H
      clear H
      have H := H1
      clear H1
      have H' := Aside0.mk H
      clear H
      go_wp2
      go_meet
      case rel => exact ⟨_, (true), (by first | rfl | (simp; done) | (simp [*]; done)), H', ⟨by first | omega | exact Nat.le_refl _⟩, by repeat (first | exact Drawn0.refl _ | apply Drawn0.step)⟩
    · replace c4 := Bool.eq_false_iff.mpr c4
      subst c4
      have H1 : ((name_between.f a0 97 122).bind fun t112 => (name_Letter.j0 k a0 t112)) = some r := by rw [if_neg (show ¬ (false = true) by decide)] at H; exact H
      clear H
      have H := H1
      clear H1
      replace H := Option.bind_eq_some_iff.mp H
      obtain ⟨t112, A50, H⟩ := H
      replace H : (name_Letter.j0 k a0 t112) = some r := H
      have A5 := Aside0.mk A50
      clear A50
      have H' := Aside0.mk H
      clear H
      go_wp2_with (first | ((with_reducible refine gate_callee (f := 36) rfl ?_); refine goesL_ (some 7) rfl rfl Tryd.func36 (by kernel_rfl) rfl #[.int .i32 a0, .int .i32 97, .int .i32 122] rfl (by (try simp only [List.map_toArray, List.map_cons, List.map_nil]); first | done | rfl | (simp only [List.length_drop, List.length_take]; rfl)) ?_; (with_reducible refine (name_between.calls a0 97 122 t112 _ A5.out).mono ?_); rintro e w' ⟨rfl, ⟨nd, rfl⟩⟩; refine ⟨_, rfl, ?_⟩))
      go_meet
      case rel => exact ⟨_, (t112), (by first | rfl | (simp; done) | (simp [*]; done)), H', ⟨by first | omega | exact Nat.le_refl _⟩, by repeat (first | exact Drawn0.refl _ | apply Drawn0.step)⟩
  case rest =>
    clear HC3
    try clear c1
    try clear p2
    try clear c3
    try clear c4
    obtain ⟨kq, x3_2, rfl, HA, HJ2, ⟨mc2, rfl⟩⟩ := hcut
    cases kq with
    | zero => exact absurd HA.out (by simp [name_Letter.j0])
    | succ kj2 =>
      have H := HA.out
      clear HA
      simp only [name_Letter.j0] at H
      by_cases c6 : x3_2 = true
      · subst c6
        have H1 : (some true) = some r := by rw [if_pos rfl] at H; exact H
        clear H
        have H := H1
        clear H1
        obtain rfl := Option.some.inj H
        go_wp2
        go_ret
        exact ⟨by first | rfl | (simp; done) | (simp [*]; done), by repeat (first | exact Drawn0.refl _ | apply Drawn0.step)⟩
      · replace c6 := Bool.eq_false_iff.mpr c6
        subst c6
        have H1 : ((name_between.f a0 192 591).bind fun t113 => (if t113 = true then (if a0 = 215 then (some false) else (some (a0 != 247))) else ((name_between.f a0 913 937).bind fun t114 => (if t114 = true then (some (a0 != 930)) else ((name_between.f a0 945 969).bind fun t115 => (if t115 = true then (some true) else ((name_between.f a0 1040 1103).bind fun t116 => (if t116 = true then (some true) else ((name_between.f a0 19968 40959).bind fun t117 => (some t117)))))))))) = some r := by rw [if_neg (show ¬ (false = true) by decide)] at H; exact H
        clear H
        have H := H1
        clear H1
        replace H := Option.bind_eq_some_iff.mp H
        obtain ⟨t113, A70, H⟩ := H
        replace H : (if t113 = true then (if a0 = 215 then (some false) else (some (a0 != 247))) else ((name_between.f a0 913 937).bind fun t114 => (if t114 = true then (some (a0 != 930)) else ((name_between.f a0 945 969).bind fun t115 => (if t115 = true then (some true) else ((name_between.f a0 1040 1103).bind fun t116 => (if t116 = true then (some true) else ((name_between.f a0 19968 40959).bind fun t117 => (some t117))))))))) = some r := H
        have A7 := Aside0.mk A70
        clear A70
        by_cases c8 : t113 = true
        · subst c8
          have H1 : (if a0 = 215 then (some false) else (some (a0 != 247))) = some r := by rw [if_pos rfl] at H; exact H
          clear H
          have H := H1
          clear H1
          by_cases c9 : a0 = 215
          · rw [if_pos c9] at H
            have c9b0 : (a0 == 215) = true := beq_iff_eq.mpr c9
            have c9b1 : (a0 != 215) = false := bne_eq_false_iff_eq.mpr c9
            clear c9
            obtain rfl := Option.some.inj H
            go_wp2_with (first | ((with_reducible refine gate_callee (f := 36) rfl ?_); refine goesL_ (some 10) rfl rfl Tryd.func36 (by kernel_rfl) rfl #[.int .i32 a0, .int .i32 192, .int .i32 591] rfl (by (try simp only [List.map_toArray, List.map_cons, List.map_nil]); first | done | rfl | (simp only [List.length_drop, List.length_take]; rfl)) ?_; (with_reducible refine (name_between.calls a0 192 591 true _ A7.out).mono ?_); rintro e w' ⟨rfl, ⟨nd, rfl⟩⟩; refine ⟨_, rfl, ?_⟩))
            go_ret
            exact ⟨by first | rfl | (simp; done) | (simp [*]; done), by repeat (first | exact Drawn0.refl _ | apply Drawn0.step)⟩
          · rw [if_neg c9] at H
            have c9b0 : (a0 == 215) = false := beq_eq_false_iff_ne.mpr c9
            have c9b1 : (a0 != 215) = true := bne_iff_ne.mpr c9
            obtain rfl := Option.some.inj H
            go_wp2_with (first | ((with_reducible refine gate_callee (f := 36) rfl ?_); refine goesL_ (some 10) rfl rfl Tryd.func36 (by kernel_rfl) rfl #[.int .i32 a0, .int .i32 192, .int .i32 591] rfl (by (try simp only [List.map_toArray, List.map_cons, List.map_nil]); first | done | rfl | (simp only [List.length_drop, List.length_take]; rfl)) ?_; (with_reducible refine (name_between.calls a0 192 591 true _ A7.out).mono ?_); rintro e w' ⟨rfl, ⟨nd, rfl⟩⟩; refine ⟨_, rfl, ?_⟩))
            go_ret
            exact ⟨by first | rfl | (simp; done) | (simp [*]; done), by repeat (first | exact Drawn0.refl _ | apply Drawn0.step)⟩
        · replace c8 := Bool.eq_false_iff.mpr c8
          subst c8
          have H1 : ((name_between.f a0 913 937).bind fun t114 => (if t114 = true then (some (a0 != 930)) else ((name_between.f a0 945 969).bind fun t115 => (if t115 = true then (some true) else ((name_between.f a0 1040 1103).bind fun t116 => (if t116 = true then (some true) else ((name_between.f a0 19968 40959).bind fun t117 => (some t117)))))))) = some r := by rw [if_neg (show ¬ (false = true) by decide)] at H; exact H
          clear H
          have H := H1
          clear H1
          replace H := Option.bind_eq_some_iff.mp H
          obtain ⟨t114, A100, H⟩ := H
          replace H : (if t114 = true then (some (a0 != 930)) else ((name_between.f a0 945 969).bind fun t115 => (if t115 = true then (some true) else ((name_between.f a0 1040 1103).bind fun t116 => (if t116 = true then (some true) else ((name_between.f a0 19968 40959).bind fun t117 => (some t117))))))) = some r := H
          have A10 := Aside0.mk A100
          clear A100
          by_cases c11 : t114 = true
          · subst c11
            have H1 : (some (a0 != 930)) = some r := by rw [if_pos rfl] at H; exact H
            clear H
            have H := H1
            clear H1
            obtain rfl := Option.some.inj H
            go_wp2_with (first | ((with_reducible refine gate_callee (f := 36) rfl ?_); refine goesL_ (some 10) rfl rfl Tryd.func36 (by kernel_rfl) rfl #[.int .i32 a0, .int .i32 192, .int .i32 591] rfl (by (try simp only [List.map_toArray, List.map_cons, List.map_nil]); first | done | rfl | (simp only [List.length_drop, List.length_take]; rfl)) ?_; (with_reducible refine (name_between.calls a0 192 591 false _ A7.out).mono ?_); rintro e w' ⟨rfl, ⟨nd, rfl⟩⟩; refine ⟨_, rfl, ?_⟩) | ((with_reducible refine gate_callee (f := 36) rfl ?_); refine goesL_ (some 19) rfl rfl Tryd.func36 (by kernel_rfl) rfl #[.int .i32 a0, .int .i32 913, .int .i32 937] rfl (by (try simp only [List.map_toArray, List.map_cons, List.map_nil]); first | done | rfl | (simp only [List.length_drop, List.length_take]; rfl)) ?_; (with_reducible refine (name_between.calls a0 913 937 true _ A10.out).mono ?_); rintro e w' ⟨rfl, ⟨nd, rfl⟩⟩; refine ⟨_, rfl, ?_⟩))
            go_ret
            exact ⟨by first | rfl | (simp; done) | (simp [*]; done), by repeat (first | exact Drawn0.refl _ | apply Drawn0.step)⟩
          · replace c11 := Bool.eq_false_iff.mpr c11
            subst c11
            have H1 : ((name_between.f a0 945 969).bind fun t115 => (if t115 = true then (some true) else ((name_between.f a0 1040 1103).bind fun t116 => (if t116 = true then (some true) else ((name_between.f a0 19968 40959).bind fun t117 => (some t117)))))) = some r := by rw [if_neg (show ¬ (false = true) by decide)] at H; exact H
            clear H
            have H := H1
            clear H1
            replace H := Option.bind_eq_some_iff.mp H
            obtain ⟨t115, A120, H⟩ := H
            replace H : (if t115 = true then (some true) else ((name_between.f a0 1040 1103).bind fun t116 => (if t116 = true then (some true) else ((name_between.f a0 19968 40959).bind fun t117 => (some t117))))) = some r := H
            have A12 := Aside0.mk A120
            clear A120
            by_cases c13 : t115 = true
            · subst c13
              have H1 : (some true) = some r := by rw [if_pos rfl] at H; exact H
              clear H
              have H := H1
              clear H1
              obtain rfl := Option.some.inj H
              go_wp2_with (first | ((with_reducible refine gate_callee (f := 36) rfl ?_); refine goesL_ (some 10) rfl rfl Tryd.func36 (by kernel_rfl) rfl #[.int .i32 a0, .int .i32 192, .int .i32 591] rfl (by (try simp only [List.map_toArray, List.map_cons, List.map_nil]); first | done | rfl | (simp only [List.length_drop, List.length_take]; rfl)) ?_; (with_reducible refine (name_between.calls a0 192 591 false _ A7.out).mono ?_); rintro e w' ⟨rfl, ⟨nd, rfl⟩⟩; refine ⟨_, rfl, ?_⟩) | ((with_reducible refine gate_callee (f := 36) rfl ?_); refine goesL_ (some 19) rfl rfl Tryd.func36 (by kernel_rfl) rfl #[.int .i32 a0, .int .i32 913, .int .i32 937] rfl (by (try simp only [List.map_toArray, List.map_cons, List.map_nil]); first | done | rfl | (simp only [List.length_drop, List.length_take]; rfl)) ?_; (with_reducible refine (name_between.calls a0 913 937 false _ A10.out).mono ?_); rintro e w' ⟨rfl, ⟨nd, rfl⟩⟩; refine ⟨_, rfl, ?_⟩) | ((with_reducible refine gate_callee (f := 36) rfl ?_); refine goesL_ (some 23) rfl rfl Tryd.func36 (by kernel_rfl) rfl #[.int .i32 a0, .int .i32 945, .int .i32 969] rfl (by (try simp only [List.map_toArray, List.map_cons, List.map_nil]); first | done | rfl | (simp only [List.length_drop, List.length_take]; rfl)) ?_; (with_reducible refine (name_between.calls a0 945 969 true _ A12.out).mono ?_); rintro e w' ⟨rfl, ⟨nd, rfl⟩⟩; refine ⟨_, rfl, ?_⟩))
              go_ret
              exact ⟨by first | rfl | (simp; done) | (simp [*]; done), by repeat (first | exact Drawn0.refl _ | apply Drawn0.step)⟩
            · replace c13 := Bool.eq_false_iff.mpr c13
              subst c13
              have H1 : ((name_between.f a0 1040 1103).bind fun t116 => (if t116 = true then (some true) else ((name_between.f a0 19968 40959).bind fun t117 => (some t117)))) = some r := by rw [if_neg (show ¬ (false = true) by decide)] at H; exact H
              clear H
              have H := H1
              clear H1
              replace H := Option.bind_eq_some_iff.mp H
              obtain ⟨t116, A140, H⟩ := H
              replace H : (if t116 = true then (some true) else ((name_between.f a0 19968 40959).bind fun t117 => (some t117))) = some r := H
              have A14 := Aside0.mk A140
              clear A140
              by_cases c15 : t116 = true
              · subst c15
                have H1 : (some true) = some r := by rw [if_pos rfl] at H; exact H
                clear H
                have H := H1
                clear H1
                obtain rfl := Option.some.inj H
                go_wp2_with (first | ((with_reducible refine gate_callee (f := 36) rfl ?_); refine goesL_ (some 10) rfl rfl Tryd.func36 (by kernel_rfl) rfl #[.int .i32 a0, .int .i32 192, .int .i32 591] rfl (by (try simp only [List.map_toArray, List.map_cons, List.map_nil]); first | done | rfl | (simp only [List.length_drop, List.length_take]; rfl)) ?_; (with_reducible refine (name_between.calls a0 192 591 false _ A7.out).mono ?_); rintro e w' ⟨rfl, ⟨nd, rfl⟩⟩; refine ⟨_, rfl, ?_⟩) | ((with_reducible refine gate_callee (f := 36) rfl ?_); refine goesL_ (some 19) rfl rfl Tryd.func36 (by kernel_rfl) rfl #[.int .i32 a0, .int .i32 913, .int .i32 937] rfl (by (try simp only [List.map_toArray, List.map_cons, List.map_nil]); first | done | rfl | (simp only [List.length_drop, List.length_take]; rfl)) ?_; (with_reducible refine (name_between.calls a0 913 937 false _ A10.out).mono ?_); rintro e w' ⟨rfl, ⟨nd, rfl⟩⟩; refine ⟨_, rfl, ?_⟩) | ((with_reducible refine gate_callee (f := 36) rfl ?_); refine goesL_ (some 23) rfl rfl Tryd.func36 (by kernel_rfl) rfl #[.int .i32 a0, .int .i32 945, .int .i32 969] rfl (by (try simp only [List.map_toArray, List.map_cons, List.map_nil]); first | done | rfl | (simp only [List.length_drop, List.length_take]; rfl)) ?_; (with_reducible refine (name_between.calls a0 945 969 false _ A12.out).mono ?_); rintro e w' ⟨rfl, ⟨nd, rfl⟩⟩; refine ⟨_, rfl, ?_⟩) | (go_at_call 36; (with_reducible refine (name_between.calls a0 1040 1103 true _ A14.out).mono ?_); rintro e w' ⟨rfl, ⟨nd, rfl⟩⟩))
                go_ret
                exact ⟨by first | rfl | (simp; done) | (simp [*]; done), by repeat (first | exact Drawn0.refl _ | apply Drawn0.step)⟩
              · replace c15 := Bool.eq_false_iff.mpr c15
                subst c15
                have H1 : ((name_between.f a0 19968 40959).bind fun t117 => (some t117)) = some r := by rw [if_neg (show ¬ (false = true) by decide)] at H; exact H
                clear H
                have H := H1
                clear H1
                replace H := Option.bind_eq_some_iff.mp H
                obtain ⟨t117, A160, H⟩ := H
                replace H : (some t117) = some r := H
                have A16 := Aside0.mk A160
                clear A160
                obtain rfl := Option.some.inj H
                go_wp2_with (first | ((with_reducible refine gate_callee (f := 36) rfl ?_); refine goesL_ (some 10) rfl rfl Tryd.func36 (by kernel_rfl) rfl #[.int .i32 a0, .int .i32 192, .int .i32 591] rfl (by (try simp only [List.map_toArray, List.map_cons, List.map_nil]); first | done | rfl | (simp only [List.length_drop, List.length_take]; rfl)) ?_; (with_reducible refine (name_between.calls a0 192 591 false _ A7.out).mono ?_); rintro e w' ⟨rfl, ⟨nd, rfl⟩⟩; refine ⟨_, rfl, ?_⟩) | ((with_reducible refine gate_callee (f := 36) rfl ?_); refine goesL_ (some 19) rfl rfl Tryd.func36 (by kernel_rfl) rfl #[.int .i32 a0, .int .i32 913, .int .i32 937] rfl (by (try simp only [List.map_toArray, List.map_cons, List.map_nil]); first | done | rfl | (simp only [List.length_drop, List.length_take]; rfl)) ?_; (with_reducible refine (name_between.calls a0 913 937 false _ A10.out).mono ?_); rintro e w' ⟨rfl, ⟨nd, rfl⟩⟩; refine ⟨_, rfl, ?_⟩) | ((with_reducible refine gate_callee (f := 36) rfl ?_); refine goesL_ (some 23) rfl rfl Tryd.func36 (by kernel_rfl) rfl #[.int .i32 a0, .int .i32 945, .int .i32 969] rfl (by (try simp only [List.map_toArray, List.map_cons, List.map_nil]); first | done | rfl | (simp only [List.length_drop, List.length_take]; rfl)) ?_; (with_reducible refine (name_between.calls a0 945 969 false _ A12.out).mono ?_); rintro e w' ⟨rfl, ⟨nd, rfl⟩⟩; refine ⟨_, rfl, ?_⟩) | (go_at_call 36; (with_reducible refine (name_between.calls a0 1040 1103 false _ A14.out).mono ?_); rintro e w' ⟨rfl, ⟨nd, rfl⟩⟩) | (go_at_call 36; (with_reducible refine (name_between.calls a0 19968 40959 t117 _ A16.out).mono ?_); rintro e w' ⟨rfl, ⟨nd, rfl⟩⟩))
                go_ret
                exact ⟨by first | rfl | (simp; done) | (simp [*]; done), by repeat (first | exact Drawn0.refl _ | apply Drawn0.step)⟩

/-! ### name_digit: function 50 -/
def name_digit.f (a0 : Int) : Option (Bool) := (name_between.f a0 48 57).bind fun t118 => (some t118)
set_option maxHeartbeats 8000000 in
set_option maxRecDepth 100000 in
theorem name_digit.calls (a0 : Int) (r : Bool) (w : World) (h : name_digit.f a0 = some r) :
    Calls Tryd.prog 50 #[.int .i32 a0] w fun e w' => e = .returned (.bool r) ∧ Drawn0 w w' := by
  have H : ((name_between.f a0 48 57).bind fun t118 => (some t118)) = some r := h
  clear h
  replace H := Option.bind_eq_some_iff.mp H
  obtain ⟨t118, A20, H⟩ := H
  replace H : (some t118) = some r := H
  have A2 := Aside0.mk A20
  clear A20
  obtain rfl := Option.some.inj H
  go_enter Tryd.func50, Tryd.ntmps50
  go_wp2_with (first | ((with_reducible refine gate_callee (f := 36) rfl ?_); refine goesL_ (some 4) rfl rfl Tryd.func36 (by kernel_rfl) rfl #[.int .i32 a0, .int .i32 48, .int .i32 57] rfl (by (try simp only [List.map_toArray, List.map_cons, List.map_nil]); first | done | rfl | (simp only [List.length_drop, List.length_take]; rfl)) ?_; (with_reducible refine (name_between.calls a0 48 57 t118 _ A2.out).mono ?_); rintro e w' ⟨rfl, ⟨nd, rfl⟩⟩; refine ⟨_, rfl, ?_⟩))
  go_ret
  exact ⟨by first | rfl | (simp; done) | (simp [*]; done), by repeat (first | exact Drawn0.refl _ | apply Drawn0.step)⟩

end Go.Proofs.YtiaacpjibhnhiaaDoor.PAll
