-- Written by a program of this session over the kit's printer (with contracts of the session's own).
import Derived.Test.YtmcochnofkjhaaaDoorPAllx0
namespace Go.Proofs.YtmcochnofkjhaaaDoor.PAll
open Go.RowKit Go.Proofs.YtmcochnofkjhaaaDoorW.PrintWords Go.Proofs.YtmcochnofkjhaaaDoorW.PrintLast Go.Proofs.YtmcochnofkjhaaaDoorW.PrintMore
attribute [local go_sem] max2_int min2_int max_two min_two max_three min_three max_four min_four   -- for this text's walks alone
set_option linter.unusedVariables false
set_option linter.unusedSimpArgs false

-- NOT PRINTED: function 7 (queue_New)

/-! ### utf8_ValidString: function 46 (a contract of this session's own) -/
def utf8_ValidString.f (a0 : ByteArray) : Option Bool := if a0.size ≤ 140737488351232 then some (Lib.validD a0.data.toList) else none
theorem utf8_ValidString.calls (a0 : ByteArray) (r : Bool) (w : World) (h : utf8_ValidString.f a0 = some r) (hT : NC.TabW w) :
  Calls Tryd.prog 46 #[.string a0] w fun e w' => e = .returned (.bool r) ∧ Below w.heap.size w w' := by
 unfold utf8_ValidString.f at h
 by_cases hs : a0.size ≤ 140737488351232
 ·rw [if_pos hs] at h
  obtain rfl := Option.some.inj h
  exact Any.utf8_ValidString Tryd.lays196 a0 w (by omega) hT.1
 ·rw [if_neg hs] at h
  cases h

/-! ### name_between: function 62 -/
def name_between.f (a0 : Int) (a1 : Int) (a2 : Int) : Option (Bool) := if a0 ≥ a1 then (some (decide (a0 ≤ a2))) else (some false)
set_option maxHeartbeats 8000000 in
set_option maxRecDepth 100000 in
theorem name_between.calls (a0 : Int) (a1 : Int) (a2 : Int) (r : Bool) (w : World) (h : name_between.f a0 a1 a2 = some r) :
  Calls Tryd.prog 62 #[.int .i32 a0, .int .i32 a1, .int .i32 a2] w fun e w' => e = .returned (.bool r) ∧ Drawn0 w w' := by
 have H : (if a0 ≥ a1 then (some (decide (a0 ≤ a2))) else (some false)) = some r := h
 clear h
 by_cases c4 : a0 ≥ a1
 ·rw [if_pos c4] at H
  have c4b0 : decide (a1 ≤ a0) = true := decide_eq_true c4
  clear c4
  obtain rfl := Option.some.inj H
  go_enter Tryd.func62, Tryd.ntmps62
  go_wp2
  go_ret
  exact ⟨by first | rfl , by repeat (first | exact Drawn0.refl _ )⟩
 ·rw [if_neg c4] at H
  have c4b0 : decide (a1 ≤ a0) = false := decide_eq_false c4
  clear c4
  obtain rfl := Option.some.inj H
  go_enter Tryd.func62, Tryd.ntmps62
  go_wp2
  go_ret
  exact ⟨by first | rfl , by repeat (first | exact Drawn0.refl _ )⟩

/-! ### name_Letter: function 47 -/
def name_Letter.j0 : Nat → Int → Bool → Option (Bool)
 | 0, _, _ => none
 | k + 1, x0, x3 => if x3 = true then (some true) else ((name_between.f x0 192 591).bind fun t103 => (if t103 = true then (if x0 = 215 then (some false) else (some (x0 != 247))) else ((name_between.f x0 913 937).bind fun t104 => (if t104 = true then (some (x0 != 930)) else ((name_between.f x0 945 969).bind fun t105 => (if t105 = true then (some true) else ((name_between.f x0 1040 1103).bind fun t106 => (if t106 = true then (some true) else ((name_between.f x0 19968 40959).bind fun t107 => (some t107))))))))))
def name_Letter.f (k : Nat) (a0 : Int) : Option (Bool) := (name_between.f a0 65 90).bind fun t101 => (if t101 = true then (name_Letter.j0 k a0 t101) else ((name_between.f a0 97 122).bind fun t102 => (name_Letter.j0 k a0 t102)))
theorem name_Letter.mono_l : ∀ k, (∀ y0 y1, LeO (name_Letter.j0 k y0 y1) (name_Letter.j0 (k + 1) y0 y1))
 | 0 => fun _ _ r h => by simp [name_Letter.j0] at h
 | k + 1 => by
  have ih0 := name_Letter.mono_l k
  ·intro y0 y1
   unfold name_Letter.j0
   repeat' first
   | (with_reducible exact LeO.refl _)

theorem name_Letter.mono : ∀ a0 k, LeO (name_Letter.f k a0) (name_Letter.f (k + 1) a0) := by
 intro a0 k
 have ih0 := name_Letter.mono_l k
 unfold name_Letter.f
 repeat' first
   | (with_reducible exact ih0 _ _)
   | (with_reducible exact LeO.refl _)
   | (with_reducible refine LeO.ite ?_ ?_)
   | (with_reducible refine LeO.bind ?_ (fun _ => ?_))

set_option maxHeartbeats 8000000 in
set_option maxRecDepth 100000 in
theorem name_Letter.calls (k : Nat) (a0 : Int) (r : Bool) (w : World) (h : name_Letter.f k a0 = some r) :
  Calls Tryd.prog 47 #[.int .i32 a0] w fun e w' => e = .returned (.bool r) ∧ Drawn0 w w' := by
 have H : ((name_between.f a0 65 90).bind fun t101 => (if t101 = true then (name_Letter.j0 k a0 t101) else ((name_between.f a0 97 122).bind fun t102 => (name_Letter.j0 k a0 t102)))) = some r := h
 clear h
 replace H := Option.bind_eq_some_iff.mp H
 obtain ⟨t101, A20, H⟩ := H
 replace H : (if t101 = true then (name_Letter.j0 k a0 t101) else ((name_between.f a0 97 122).bind fun t102 => (name_Letter.j0 k a0 t102))) = some r := H
 have A2 := Aside0.mk A20
 clear A20
 have HC3 := Aside0.mk H
 clear H
 go_enter Tryd.func47, Tryd.ntmps47
 go_upto_if 3 with (first | ((with_reducible refine gate_callee (f := 62) rfl ?_); refine goesL_ (some 5) rfl rfl Tryd.func62 (by kernel_rfl) rfl #[.int .i32 a0, .int .i32 65, .int .i32 90] rfl (by (try simp only [List.map_toArray, List.map_cons, List.map_nil]); first | rfl ) ?_; (with_reducible refine (name_between.calls a0 65 90 t101 _ A2.out).mono ?_); rintro e w' ⟨rfl, ⟨nd, rfl⟩⟩; refine ⟨_, rfl, ?_⟩))
 (try simp only [Act.put, List.setIfInBounds_toArray, List.set_cons_zero, List.set_cons_succ])
 go_cut [3] (fun v3 wc => ∃ (kq : Nat) (x3_2 : Bool), v3 = .bool x3_2 ∧ Aside0 (name_Letter.j0 kq a0 x3_2 = some r) ∧ Aside0 (kq ≤ k) ∧ Drawn0 w wc)
 case first =>
  have H := HC3.out
  clear HC3
  by_cases c4 : t101 = true
  ·subst c4
   have H1 : (name_Letter.j0 k a0 true) = some r := by rw [if_pos rfl] at H; exact H
   clear H
   have H := H1
   clear H1
   have H' := Aside0.mk H
   clear H
   go_wp2
   go_meet
   case rel => exact ⟨_, (true), (by first | rfl ), H', ⟨by first | omega ⟩, by repeat (first | exact Drawn0.refl _ | apply Drawn0.step)⟩
  ·replace c4 := Bool.eq_false_iff.mpr c4
   subst c4
   have H1 : ((name_between.f a0 97 122).bind fun t102 => (name_Letter.j0 k a0 t102)) = some r := by rw [if_neg (show ¬ (false = true) by decide)] at H; exact H
   clear H
   have H := H1
   clear H1
   replace H := Option.bind_eq_some_iff.mp H
   obtain ⟨t102, A50, H⟩ := H
   replace H : (name_Letter.j0 k a0 t102) = some r := H
   have A5 := Aside0.mk A50
   clear A50
   have H' := Aside0.mk H
   clear H
   go_wp2_with (first | ((with_reducible refine gate_callee (f := 62) rfl ?_); refine goesL_ (some 7) rfl rfl Tryd.func62 (by kernel_rfl) rfl #[.int .i32 a0, .int .i32 97, .int .i32 122] rfl (by (try simp only [List.map_toArray, List.map_cons, List.map_nil]); first | rfl ) ?_; (with_reducible refine (name_between.calls a0 97 122 t102 _ A5.out).mono ?_); rintro e w' ⟨rfl, ⟨nd, rfl⟩⟩; refine ⟨_, rfl, ?_⟩))
   go_meet
   case rel => exact ⟨_, (t102), (by first | rfl ), H', ⟨by first | omega ⟩, by repeat (first | exact Drawn0.refl _ | apply Drawn0.step)⟩
 case rest =>
  clear HC3
  try clear p2
  try clear c4
  obtain ⟨kq, x3_2, rfl, HA, HJ2, ⟨mc2, rfl⟩⟩ := hcut
  cases kq with
  | zero => exact absurd HA.out (by simp [name_Letter.j0])
  | succ kj2 =>
   have H := HA.out
   clear HA
   simp only [name_Letter.j0] at H
   by_cases c6 : x3_2 = true
   ·subst c6
    have H1 : (some true) = some r := by rw [if_pos rfl] at H; exact H
    clear H
    have H := H1
    clear H1
    obtain rfl := Option.some.inj H
    go_wp2
    go_ret
    exact ⟨by first | rfl , by repeat (first | exact Drawn0.refl _ | apply Drawn0.step)⟩
   ·replace c6 := Bool.eq_false_iff.mpr c6
    subst c6
    have H1 : ((name_between.f a0 192 591).bind fun t103 => (if t103 = true then (if a0 = 215 then (some false) else (some (a0 != 247))) else ((name_between.f a0 913 937).bind fun t104 => (if t104 = true then (some (a0 != 930)) else ((name_between.f a0 945 969).bind fun t105 => (if t105 = true then (some true) else ((name_between.f a0 1040 1103).bind fun t106 => (if t106 = true then (some true) else ((name_between.f a0 19968 40959).bind fun t107 => (some t107)))))))))) = some r := by rw [if_neg (show ¬ (false = true) by decide)] at H; exact H
    clear H
    have H := H1
    clear H1
    replace H := Option.bind_eq_some_iff.mp H
    obtain ⟨t103, A70, H⟩ := H
    replace H : (if t103 = true then (if a0 = 215 then (some false) else (some (a0 != 247))) else ((name_between.f a0 913 937).bind fun t104 => (if t104 = true then (some (a0 != 930)) else ((name_between.f a0 945 969).bind fun t105 => (if t105 = true then (some true) else ((name_between.f a0 1040 1103).bind fun t106 => (if t106 = true then (some true) else ((name_between.f a0 19968 40959).bind fun t107 => (some t107))))))))) = some r := H
    have A7 := Aside0.mk A70
    clear A70
    by_cases c8 : t103 = true
    ·subst c8
     have H1 : (if a0 = 215 then (some false) else (some (a0 != 247))) = some r := by rw [if_pos rfl] at H; exact H
     clear H
     have H := H1
     clear H1
     by_cases c9 : a0 = 215
     ·rw [if_pos c9] at H
      have c9b0 : (a0 == 215) = true := beq_iff_eq.mpr c9
      have c9b1 : (a0 != 215) = false := bne_eq_false_iff_eq.mpr c9
      clear c9
      obtain rfl := Option.some.inj H
      go_wp2_with (first | ((with_reducible refine gate_callee (f := 62) rfl ?_); refine goesL_ (some 10) rfl rfl Tryd.func62 (by kernel_rfl) rfl #[.int .i32 a0, .int .i32 192, .int .i32 591] rfl (by (try simp only [List.map_toArray, List.map_cons, List.map_nil]); first | rfl ) ?_; (with_reducible refine (name_between.calls a0 192 591 true _ A7.out).mono ?_); rintro e w' ⟨rfl, ⟨nd, rfl⟩⟩; refine ⟨_, rfl, ?_⟩))
      go_ret
      exact ⟨by first | rfl , by repeat (first | exact Drawn0.refl _ | apply Drawn0.step)⟩
     ·rw [if_neg c9] at H
      have c9b0 : (a0 == 215) = false := beq_eq_false_iff_ne.mpr c9
      have c9b1 : (a0 != 215) = true := bne_iff_ne.mpr c9
      obtain rfl := Option.some.inj H
      go_wp2_with (first | ((with_reducible refine gate_callee (f := 62) rfl ?_); refine goesL_ (some 10) rfl rfl Tryd.func62 (by kernel_rfl) rfl #[.int .i32 a0, .int .i32 192, .int .i32 591] rfl (by (try simp only [List.map_toArray, List.map_cons, List.map_nil]); first | rfl ) ?_; (with_reducible refine (name_between.calls a0 192 591 true _ A7.out).mono ?_); rintro e w' ⟨rfl, ⟨nd, rfl⟩⟩; refine ⟨_, rfl, ?_⟩))
      go_ret
      exact ⟨by first | rfl , by repeat (first | exact Drawn0.refl _ | apply Drawn0.step)⟩
    ·replace c8 := Bool.eq_false_iff.mpr c8
     subst c8
     have H1 : ((name_between.f a0 913 937).bind fun t104 => (if t104 = true then (some (a0 != 930)) else ((name_between.f a0 945 969).bind fun t105 => (if t105 = true then (some true) else ((name_between.f a0 1040 1103).bind fun t106 => (if t106 = true then (some true) else ((name_between.f a0 19968 40959).bind fun t107 => (some t107)))))))) = some r := by rw [if_neg (show ¬ (false = true) by decide)] at H; exact H
     clear H
     have H := H1
     clear H1
     replace H := Option.bind_eq_some_iff.mp H
     obtain ⟨t104, A100, H⟩ := H
     replace H : (if t104 = true then (some (a0 != 930)) else ((name_between.f a0 945 969).bind fun t105 => (if t105 = true then (some true) else ((name_between.f a0 1040 1103).bind fun t106 => (if t106 = true then (some true) else ((name_between.f a0 19968 40959).bind fun t107 => (some t107))))))) = some r := H
     have A10 := Aside0.mk A100
     clear A100
     by_cases c11 : t104 = true
     ·subst c11
      have H1 : (some (a0 != 930)) = some r := by rw [if_pos rfl] at H; exact H
      clear H
      have H := H1
      clear H1
      obtain rfl := Option.some.inj H
      go_wp2_with (first | ((with_reducible refine gate_callee (f := 62) rfl ?_); refine goesL_ (some 10) rfl rfl Tryd.func62 (by kernel_rfl) rfl #[.int .i32 a0, .int .i32 192, .int .i32 591] rfl (by (try simp only [List.map_toArray, List.map_cons, List.map_nil]); first | rfl ) ?_; (with_reducible refine (name_between.calls a0 192 591 false _ A7.out).mono ?_); rintro e w' ⟨rfl, ⟨nd, rfl⟩⟩; refine ⟨_, rfl, ?_⟩) | ((with_reducible refine gate_callee (f := 62) rfl ?_); refine goesL_ (some 19) rfl rfl Tryd.func62 (by kernel_rfl) rfl #[.int .i32 a0, .int .i32 913, .int .i32 937] rfl (by (try simp only [List.map_toArray, List.map_cons, List.map_nil]); first | rfl ) ?_; (with_reducible refine (name_between.calls a0 913 937 true _ A10.out).mono ?_); rintro e w' ⟨rfl, ⟨nd, rfl⟩⟩; refine ⟨_, rfl, ?_⟩))
      go_ret
      exact ⟨by first | rfl , by repeat (first | exact Drawn0.refl _ | apply Drawn0.step)⟩
     ·replace c11 := Bool.eq_false_iff.mpr c11
      subst c11
      have H1 : ((name_between.f a0 945 969).bind fun t105 => (if t105 = true then (some true) else ((name_between.f a0 1040 1103).bind fun t106 => (if t106 = true then (some true) else ((name_between.f a0 19968 40959).bind fun t107 => (some t107)))))) = some r := by rw [if_neg (show ¬ (false = true) by decide)] at H; exact H
      clear H
      have H := H1
      clear H1
      replace H := Option.bind_eq_some_iff.mp H
      obtain ⟨t105, A120, H⟩ := H
      replace H : (if t105 = true then (some true) else ((name_between.f a0 1040 1103).bind fun t106 => (if t106 = true then (some true) else ((name_between.f a0 19968 40959).bind fun t107 => (some t107))))) = some r := H
      have A12 := Aside0.mk A120
      clear A120
      by_cases c13 : t105 = true
      ·subst c13
       have H1 : (some true) = some r := by rw [if_pos rfl] at H; exact H
       clear H
       have H := H1
       clear H1
       obtain rfl := Option.some.inj H
       go_wp2_with (first | ((with_reducible refine gate_callee (f := 62) rfl ?_); refine goesL_ (some 10) rfl rfl Tryd.func62 (by kernel_rfl) rfl #[.int .i32 a0, .int .i32 192, .int .i32 591] rfl (by (try simp only [List.map_toArray, List.map_cons, List.map_nil]); first | rfl ) ?_; (with_reducible refine (name_between.calls a0 192 591 false _ A7.out).mono ?_); rintro e w' ⟨rfl, ⟨nd, rfl⟩⟩; refine ⟨_, rfl, ?_⟩) | ((with_reducible refine gate_callee (f := 62) rfl ?_); refine goesL_ (some 19) rfl rfl Tryd.func62 (by kernel_rfl) rfl #[.int .i32 a0, .int .i32 913, .int .i32 937] rfl (by (try simp only [List.map_toArray, List.map_cons, List.map_nil]); first | rfl ) ?_; (with_reducible refine (name_between.calls a0 913 937 false _ A10.out).mono ?_); rintro e w' ⟨rfl, ⟨nd, rfl⟩⟩; refine ⟨_, rfl, ?_⟩) | ((with_reducible refine gate_callee (f := 62) rfl ?_); refine goesL_ (some 23) rfl rfl Tryd.func62 (by kernel_rfl) rfl #[.int .i32 a0, .int .i32 945, .int .i32 969] rfl (by (try simp only [List.map_toArray, List.map_cons, List.map_nil]); first | rfl ) ?_; (with_reducible refine (name_between.calls a0 945 969 true _ A12.out).mono ?_); rintro e w' ⟨rfl, ⟨nd, rfl⟩⟩; refine ⟨_, rfl, ?_⟩))
       go_ret
       exact ⟨by first | rfl , by repeat (first | exact Drawn0.refl _ | apply Drawn0.step)⟩
      ·replace c13 := Bool.eq_false_iff.mpr c13
       subst c13
       have H1 : ((name_between.f a0 1040 1103).bind fun t106 => (if t106 = true then (some true) else ((name_between.f a0 19968 40959).bind fun t107 => (some t107)))) = some r := by rw [if_neg (show ¬ (false = true) by decide)] at H; exact H
       clear H
       have H := H1
       clear H1
       replace H := Option.bind_eq_some_iff.mp H
       obtain ⟨t106, A140, H⟩ := H
       replace H : (if t106 = true then (some true) else ((name_between.f a0 19968 40959).bind fun t107 => (some t107))) = some r := H
       have A14 := Aside0.mk A140
       clear A140
       by_cases c15 : t106 = true
       ·subst c15
        have H1 : (some true) = some r := by rw [if_pos rfl] at H; exact H
        clear H
        have H := H1
        clear H1
        obtain rfl := Option.some.inj H
        go_wp2_with (first | ((with_reducible refine gate_callee (f := 62) rfl ?_); refine goesL_ (some 10) rfl rfl Tryd.func62 (by kernel_rfl) rfl #[.int .i32 a0, .int .i32 192, .int .i32 591] rfl (by (try simp only [List.map_toArray, List.map_cons, List.map_nil]); first | rfl ) ?_; (with_reducible refine (name_between.calls a0 192 591 false _ A7.out).mono ?_); rintro e w' ⟨rfl, ⟨nd, rfl⟩⟩; refine ⟨_, rfl, ?_⟩) | ((with_reducible refine gate_callee (f := 62) rfl ?_); refine goesL_ (some 19) rfl rfl Tryd.func62 (by kernel_rfl) rfl #[.int .i32 a0, .int .i32 913, .int .i32 937] rfl (by (try simp only [List.map_toArray, List.map_cons, List.map_nil]); first | rfl ) ?_; (with_reducible refine (name_between.calls a0 913 937 false _ A10.out).mono ?_); rintro e w' ⟨rfl, ⟨nd, rfl⟩⟩; refine ⟨_, rfl, ?_⟩) | ((with_reducible refine gate_callee (f := 62) rfl ?_); refine goesL_ (some 23) rfl rfl Tryd.func62 (by kernel_rfl) rfl #[.int .i32 a0, .int .i32 945, .int .i32 969] rfl (by (try simp only [List.map_toArray, List.map_cons, List.map_nil]); first | rfl ) ?_; (with_reducible refine (name_between.calls a0 945 969 false _ A12.out).mono ?_); rintro e w' ⟨rfl, ⟨nd, rfl⟩⟩; refine ⟨_, rfl, ?_⟩) | (go_at_call 62; (with_reducible refine (name_between.calls a0 1040 1103 true _ A14.out).mono ?_); rintro e w' ⟨rfl, ⟨nd, rfl⟩⟩))
        go_ret
        exact ⟨by first | rfl , by repeat (first | exact Drawn0.refl _ | apply Drawn0.step)⟩
       ·replace c15 := Bool.eq_false_iff.mpr c15
        subst c15
        have H1 : ((name_between.f a0 19968 40959).bind fun t107 => (some t107)) = some r := by rw [if_neg (show ¬ (false = true) by decide)] at H; exact H
        clear H
        have H := H1
        clear H1
        replace H := Option.bind_eq_some_iff.mp H
        obtain ⟨t107, A160, H⟩ := H
        replace H : (some t107) = some r := H
        have A16 := Aside0.mk A160
        clear A160
        obtain rfl := Option.some.inj H
        go_wp2_with (first | ((with_reducible refine gate_callee (f := 62) rfl ?_); refine goesL_ (some 10) rfl rfl Tryd.func62 (by kernel_rfl) rfl #[.int .i32 a0, .int .i32 192, .int .i32 591] rfl (by (try simp only [List.map_toArray, List.map_cons, List.map_nil]); first | rfl ) ?_; (with_reducible refine (name_between.calls a0 192 591 false _ A7.out).mono ?_); rintro e w' ⟨rfl, ⟨nd, rfl⟩⟩; refine ⟨_, rfl, ?_⟩) | ((with_reducible refine gate_callee (f := 62) rfl ?_); refine goesL_ (some 19) rfl rfl Tryd.func62 (by kernel_rfl) rfl #[.int .i32 a0, .int .i32 913, .int .i32 937] rfl (by (try simp only [List.map_toArray, List.map_cons, List.map_nil]); first | rfl ) ?_; (with_reducible refine (name_between.calls a0 913 937 false _ A10.out).mono ?_); rintro e w' ⟨rfl, ⟨nd, rfl⟩⟩; refine ⟨_, rfl, ?_⟩) | ((with_reducible refine gate_callee (f := 62) rfl ?_); refine goesL_ (some 23) rfl rfl Tryd.func62 (by kernel_rfl) rfl #[.int .i32 a0, .int .i32 945, .int .i32 969] rfl (by (try simp only [List.map_toArray, List.map_cons, List.map_nil]); first | rfl ) ?_; (with_reducible refine (name_between.calls a0 945 969 false _ A12.out).mono ?_); rintro e w' ⟨rfl, ⟨nd, rfl⟩⟩; refine ⟨_, rfl, ?_⟩) | (go_at_call 62; (with_reducible refine (name_between.calls a0 1040 1103 false _ A14.out).mono ?_); rintro e w' ⟨rfl, ⟨nd, rfl⟩⟩) | (go_at_call 62; (with_reducible refine (name_between.calls a0 19968 40959 t107 _ A16.out).mono ?_); rintro e w' ⟨rfl, ⟨nd, rfl⟩⟩))
        go_ret
        exact ⟨by first | rfl , by repeat (first | exact Drawn0.refl _ | apply Drawn0.step)⟩

/-! ### name_digit: function 48 -/
def name_digit.f (a0 : Int) : Option (Bool) := (name_between.f a0 48 57).bind fun t108 => (some t108)
set_option maxHeartbeats 8000000 in
set_option maxRecDepth 100000 in
theorem name_digit.calls (a0 : Int) (r : Bool) (w : World) (h : name_digit.f a0 = some r) :
  Calls Tryd.prog 48 #[.int .i32 a0] w fun e w' => e = .returned (.bool r) ∧ Drawn0 w w' := by
 have H : ((name_between.f a0 48 57).bind fun t108 => (some t108)) = some r := h
 clear h
 replace H := Option.bind_eq_some_iff.mp H
 obtain ⟨t108, A20, H⟩ := H
 replace H : (some t108) = some r := H
 have A2 := Aside0.mk A20
 clear A20
 obtain rfl := Option.some.inj H
 go_enter Tryd.func48, Tryd.ntmps48
 go_wp2_with (first | ((with_reducible refine gate_callee (f := 62) rfl ?_); refine goesL_ (some 4) rfl rfl Tryd.func62 (by kernel_rfl) rfl #[.int .i32 a0, .int .i32 48, .int .i32 57] rfl (by (try simp only [List.map_toArray, List.map_cons, List.map_nil]); first | rfl ) ?_; (with_reducible refine (name_between.calls a0 48 57 t108 _ A2.out).mono ?_); rintro e w' ⟨rfl, ⟨nd, rfl⟩⟩; refine ⟨_, rfl, ?_⟩))
 go_ret
 exact ⟨by first | rfl , by repeat (first | exact Drawn0.refl _ | apply Drawn0.step)⟩

/-! ### name_formed: function 34 (a contract of this session's own) -/
theorem name_between.is (c a b : Int) : name_between.f c a b = some (decide (a ≤ c ∧ c ≤ b)) := by
 unfold name_between.f
 by_cases h : a ≤ c
 ·rw [if_pos (show c ≥ a from h)]; simp [h]
 ·rw [if_neg (show ¬ c ≥ a from h)]; simp [h]
theorem name_Letter.is (k : Nat) (c : Int) (hk : 1 ≤ k) : name_Letter.f k c = some (NC.letterZ c) := by
 obtain ⟨k, rfl⟩ : ∃ m, k = m + 1 := ⟨k - 1, by omega⟩
 unfold name_Letter.f
 simp only [name_between.is, Option.bind_some, decide_eq_true_eq, name_Letter.j0]
 unfold NC.letterZ
 by_cases h1 : 65 ≤ c ∧ c ≤ 90
 ·simp [h1]
 ·by_cases h2 : 97 ≤ c ∧ c ≤ 122
  ·simp [h1, h2]
  ·by_cases h3 : 192 ≤ c ∧ c ≤ 591
   ·have h4 : ¬ (913 ≤ c ∧ c ≤ 937) := by omega
    have h5 : ¬ (945 ≤ c ∧ c ≤ 969) := by omega
    have h6 : ¬ (1040 ≤ c ∧ c ≤ 1103) := by omega
    have h7 : ¬ (19968 ≤ c ∧ c ≤ 40959) := by omega
    by_cases h8 : c = 215 <;> by_cases h9 : c = 247 <;> simp [h1, h2, h3, h4, h5, h6, h7, h8, h9] <;> omega
   ·by_cases h4 : 913 ≤ c ∧ c ≤ 937
    ·have h5 : ¬ (945 ≤ c ∧ c ≤ 969) := by omega
     have h6 : ¬ (1040 ≤ c ∧ c ≤ 1103) := by omega
     have h7 : ¬ (19968 ≤ c ∧ c ≤ 40959) := by omega
     by_cases h8 : c = 930 <;> simp [h1, h2, h3, h4, h5, h6, h7, h8] <;> omega
    ·by_cases h5 : 945 ≤ c ∧ c ≤ 969
     ·simp [h1, h2, h3, h4, h5] <;> omega
     ·by_cases h6 : 1040 ≤ c ∧ c ≤ 1103
      ·simp [h1, h2, h3, h4, h5, h6] <;> omega
      ·by_cases h7 : 19968 ≤ c ∧ c ≤ 40959 <;> simp [h1, h2, h3, h4, h5, h6, h7] <;> omega
theorem name_digit.is (c : Int) : name_digit.f c = some (NC.digitZ c) := by
 unfold name_digit.f NC.digitZ
 rw [name_between.is]
 rfl
def name_formed.f (a0 : ByteArray) : Option Bool := if a0.size ≤ 17592186044416 then some (NC.formB a0) else none
set_option maxHeartbeats 4000000 in
set_option maxRecDepth 100000 in
theorem name_formed.calls (a0 : ByteArray) (r : Bool) (w : World) (h : name_formed.f a0 = some r) (hT : NC.TabW w) :
  Calls Tryd.prog 34 #[.string a0] w fun e w' => e = .returned (.bool r) ∧ Below w.heap.size w w' := by
 unfold name_formed.f at h
 by_cases hs : a0.size ≤ 17592186044416
 case neg => rw [if_neg hs] at h; cases h
 rw [if_pos hs] at h
 obtain rfl := Option.some.inj h
 clear h
 by_cases he : a0.toList = []
 ·have HF := Aside0.mk (show NC.formB a0 = false by unfold NC.formB; simp [he])
  have he1 : a0.toList.isEmpty = true := by simp [he]
  have he2 : (a0.toList == ([] : List UInt8)) = true := by simp [he]
  go_enter Tryd.func34, Tryd.ntmps34
  go_wp2
  go_ret
  exact ⟨NC.ret_bool HF.out, Below.refl _ _⟩
 have he1 : a0.toList.isEmpty = false := by simp [he]
 have he2 : (a0.toList == ([] : List UInt8)) = false := by simp [he]
 by_cases hv : Lib.validD a0.data.toList = true
 ·have HF := Aside0.mk (show NC.formB a0 = NC.formL true (NC.runes a0) by unfold NC.formB; rw [he1, hv]; simp)
  have hc1 := utf8_ValidString.calls a0 true w (by unfold utf8_ValidString.f; rw [if_pos (by omega), hv]) hT
  clear hv hs
  go_enter Tryd.func34, Tryd.ntmps34
  go_wp2_with (go_at_call 46; refine hc1.mono ?_; rintro e w1 ⟨rfl, hb1⟩)
  clear he he1 he2
  go_loopw [3, 5] (fun v3 _ wr => ∃ (pos fuel : Nat) (b : Bool), v3 = .bool b ∧ Aside0 (wr.heap[w1.heap.size]? = some (.stringIter a0 pos)) ∧ Aside0 (Below w.heap.size w wr) ∧ Aside0 (NC.formL b (NC.runesL a0 fuel pos) = NC.formL true (NC.runes a0)) ∧ Aside0 (a0.size ≤ pos + fuel)) (fun _ _ wr => a0.size - wr.iterPos w1.heap.size)
  case atStart =>
   refine ⟨0, a0.size, true, rfl, ⟨?_⟩, ⟨hb1.trans ((Below.refl _ _).alloc hb1.size _)⟩, ⟨rfl⟩, ⟨by omega⟩⟩
   have := World.iter_heap w1 a0 0
   simpa using this
  case round =>
   obtain ⟨pos, fuel, b, rfl, HI, HB, HA, HFu⟩ := hrel
   have hsz : w1.heap.size < wr.heap.size := (Array.getElem?_eq_some_iff.1 HI.out).1
   have hszw : w.heap.size ≤ w1.heap.size := hb1.size
   by_cases hp : pos < a0.size
   ·have hnx : ∀ ty, (Instr.next (.pointer (some ⟨w1.heap.size, 0, none⟩)) true ty).run Tryd.prog wr = _ := fun ty => Lib.run_next_any_at wr w1.heap.size a0 pos ty HI.out hp
    have hwd := Lib.decode_width_pos a0 pos hp
    have hd1 := decode_le a0 pos
    have hfu := HFu.out
    obtain ⟨f, rfl⟩ : ∃ f, fuel = f + 1 := ⟨fuel - 1, by omega⟩
    have HA2 := Aside0.mk (show NC.formL b (((Utf8.decode a0 pos).1 : Int) :: NC.runesL a0 f (pos + (Utf8.decode a0 pos).2)) = NC.formL true (NC.runes a0) by rw [← HA.out]; simp [NC.runesL, hp])
    have HF2 := Aside0.mk (show a0.size ≤ (pos + (Utf8.decode a0 pos).2) + f by omega)
    generalize hcw : pos + (Utf8.decode a0 pos).2 = pos2 at hnx HA2 HF2
    have HP2 := Aside0.mk (show pos < pos2 by omega)
    generalize hcd : ((Utf8.decode a0 pos).1 : Int) = c at hnx HA2
    have HLet := Aside0.mk (name_Letter.is 1 c (Nat.le_refl _))
    have HDig := Aside0.mk (name_digit.is c)
    obtain ⟨W, hW⟩ : ∃ W, wr.iterAt w1.heap.size a0 pos2 = W := ⟨_, rfl⟩
    have HIW := Aside0.mk (show W.heap[w1.heap.size]? = some (.stringIter a0 pos2) by rw [← hW]; exact Lib.iterAt_heap wr w1.heap.size a0 pos pos2 HI.out)
    have HBW := Aside0.mk (show Below w.heap.size w W by rw [← hW]; exact Lib.below_iterAt HB.out hszw a0 pos2)
    rw [hW] at hnx
    clear hW hcw hcd hfu hd1 hwd HA HFu HB
    have HSZW := Aside0.mk hszw
    clear hszw hsz
    by_cases h46 : c = 46
    ·subst h46
     cases b with
     | true =>
      have HA3 := Aside0.mk (show (false : Bool) = NC.formL true (NC.runes a0) by rw [← HA2.out]; simp [NC.formL])
      clear HA2
      go_wp2
      go_ret
      exact ⟨NC.ret_bool (HF.out.trans HA3.out.symm), by repeat (first | exact HBW.out )⟩
     | false =>
      have HA3 := Aside0.mk (show NC.formL true (NC.runesL a0 f pos2) = NC.formL true (NC.runes a0) by rw [← HA2.out]; simp [NC.formL])
      clear HA2
      go_wp2
      go_roundw
      case rel => exact ⟨pos2, f, true, rfl, ⟨HIW.out⟩, ⟨by repeat (first | exact HBW.out )⟩, HA3, HF2⟩
      case measure =>
       have h1 := HIW.out
       have h2 := HI.out
       have h3 := HP2.out
       show a0.size - W.iterPos w1.heap.size < _
       simp only [World.iterPos, h1, h2]
       omega
    have q46 : (c == 46) = false := beq_eq_false_iff_ne.2 h46
    by_cases hl : NC.letterZ c = true
    ·rw [hl] at HLet
     have HA3 := Aside0.mk (show NC.formL false (NC.runesL a0 f pos2) = NC.formL true (NC.runes a0) by rw [← HA2.out]; simp [NC.formL, h46, hl])
     clear HA2
     clear hl h46
     go_wp2_with (first | (go_at_call 47; refine (name_Letter.calls 1 c _ _ HLet.out).mono ?_; rintro e w2 ⟨rfl, hdr⟩; obtain ⟨nd, rfl⟩ := hdr.out) )
     go_roundw
     case rel => exact ⟨pos2, f, false, rfl, ⟨HIW.out⟩, ⟨by repeat (first | exact HBW.out | apply pw_below_drewN)⟩, HA3, HF2⟩
     case measure =>
      have h1 := HIW.out
      have h2 := HI.out
      have h3 := HP2.out
      show a0.size - W.iterPos w1.heap.size < _
      simp only [World.iterPos, h1, h2]
      omega
    have hl2 : NC.letterZ c = false := by simpa using hl
    rw [hl2] at HLet
    by_cases h95 : c = 95
    ·have q95 : (c == 95) = true := beq_iff_eq.2 h95
     have HA3 := Aside0.mk (show NC.formL false (NC.runesL a0 f pos2) = NC.formL true (NC.runes a0) by rw [← HA2.out]; simp [NC.formL, h46, hl2, q95])
     clear HA2
     clear hl hl2 h46 h95
     go_wp2_with (first | (go_at_call 47; refine (name_Letter.calls 1 c _ _ HLet.out).mono ?_; rintro e w2 ⟨rfl, hdr⟩; obtain ⟨nd, rfl⟩ := hdr.out) )
     go_roundw
     case rel => exact ⟨pos2, f, false, rfl, ⟨HIW.out⟩, ⟨by repeat (first | exact HBW.out | apply pw_below_drewN)⟩, HA3, HF2⟩
     case measure =>
      have h1 := HIW.out
      have h2 := HI.out
      have h3 := HP2.out
      show a0.size - W.iterPos w1.heap.size < _
      simp only [World.iterPos, h1, h2]
      omega
    have q95 : (c == 95) = false := beq_eq_false_iff_ne.2 h95
    cases b with
    | true =>
     have HA3 := Aside0.mk (show (false : Bool) = NC.formL true (NC.runes a0) by rw [← HA2.out]; simp [NC.formL, h46, hl2, q95])
     clear HA2
     clear hl hl2 h46 h95
     go_wp2_with (first | (go_at_call 47; refine (name_Letter.calls 1 c _ _ HLet.out).mono ?_; rintro e w2 ⟨rfl, hdr⟩; obtain ⟨nd, rfl⟩ := hdr.out) )
     go_ret
     exact ⟨NC.ret_bool (HF.out.trans HA3.out.symm), by repeat (first | exact HBW.out | apply pw_below_drewN)⟩
    | false =>
     by_cases hd : NC.digitZ c = true
     ·rw [hd] at HDig
      have HA3 := Aside0.mk (show NC.formL false (NC.runesL a0 f pos2) = NC.formL true (NC.runes a0) by rw [← HA2.out]; simp [NC.formL, h46, hl2, q95, hd])
      clear HA2
      clear hl hl2 h46 h95 hd
      go_wp2_with (first | (go_at_call 47; refine (name_Letter.calls 1 c _ _ HLet.out).mono ?_; rintro e w2 ⟨rfl, hdr⟩; obtain ⟨nd, rfl⟩ := hdr.out) | (go_at_call 48; refine (name_digit.calls c _ _ HDig.out).mono ?_; rintro e w2 ⟨rfl, hdr⟩; obtain ⟨nd2, rfl⟩ := hdr.out))
      go_roundw
      case rel => exact ⟨pos2, f, false, rfl, ⟨HIW.out⟩, ⟨by repeat (first | exact HBW.out | apply pw_below_drewN)⟩, HA3, HF2⟩
      case measure =>
       have h1 := HIW.out
       have h2 := HI.out
       have h3 := HP2.out
       show a0.size - W.iterPos w1.heap.size < _
       simp only [World.iterPos, h1, h2]
       omega
     have hd2 : NC.digitZ c = false := by simpa using hd
     rw [hd2] at HDig
     by_cases h45 : c = 45
     ·have q45 : (c == 45) = true := beq_iff_eq.2 h45
      have HA3 := Aside0.mk (show NC.formL false (NC.runesL a0 f pos2) = NC.formL true (NC.runes a0) by rw [← HA2.out]; simp [NC.formL, h46, hl2, q95, hd2, q45])
      clear HA2
      clear hl hl2 h46 h95 hd hd2 h45
      go_wp2_with (first | (go_at_call 47; refine (name_Letter.calls 1 c _ _ HLet.out).mono ?_; rintro e w2 ⟨rfl, hdr⟩; obtain ⟨nd, rfl⟩ := hdr.out) | (go_at_call 48; refine (name_digit.calls c _ _ HDig.out).mono ?_; rintro e w2 ⟨rfl, hdr⟩; obtain ⟨nd2, rfl⟩ := hdr.out))
      go_roundw
      case rel => exact ⟨pos2, f, false, rfl, ⟨HIW.out⟩, ⟨by repeat (first | exact HBW.out | apply pw_below_drewN)⟩, HA3, HF2⟩
      case measure =>
       have h1 := HIW.out
       have h2 := HI.out
       have h3 := HP2.out
       show a0.size - W.iterPos w1.heap.size < _
       simp only [World.iterPos, h1, h2]
       omega
     have q45 : (c == 45) = false := beq_eq_false_iff_ne.2 h45
     have HA3 := Aside0.mk (show (false : Bool) = NC.formL true (NC.runes a0) by rw [← HA2.out]; simp [NC.formL, h46, hl2, q95, hd2, q45])
     clear HA2
     clear hl hl2 h46 h95 hd hd2 h45
     go_wp2_with (first | (go_at_call 47; refine (name_Letter.calls 1 c _ _ HLet.out).mono ?_; rintro e w2 ⟨rfl, hdr⟩; obtain ⟨nd, rfl⟩ := hdr.out) | (go_at_call 48; refine (name_digit.calls c _ _ HDig.out).mono ?_; rintro e w2 ⟨rfl, hdr⟩; obtain ⟨nd2, rfl⟩ := hdr.out))
     go_ret
     exact ⟨NC.ret_bool (HF.out.trans HA3.out.symm), by repeat (first | exact HBW.out | apply pw_below_drewN)⟩
   ·have hnx : ∀ ty, (Instr.next (.pointer (some ⟨w1.heap.size, 0, none⟩)) true ty).run Tryd.prog wr = _ := fun ty => Lib.run_next_end_at wr w1.heap.size a0 pos ty HI.out hp
    have HE := Aside0.mk (show NC.formB a0 = !b by rw [HF.out, ← HA.out, NC.runesL_end a0 fuel pos hp]; rfl)
    clear hp HA HFu HI HF
    cases b
    all_goals
     go_wp2
     go_ret
     exact ⟨NC.ret_bool HE.out, HB.out⟩
 ·have hv2 : Lib.validD a0.data.toList = false := by simpa using hv
  have HF := Aside0.mk (show NC.formB a0 = false by unfold NC.formB; simp [hv2])
  have hc1 := utf8_ValidString.calls a0 false w (by unfold utf8_ValidString.f; rw [if_pos (by omega), hv2]) hT
  clear hv hv2 hs he
  go_enter Tryd.func34, Tryd.ntmps34
  go_wp2_with (go_at_call 46; refine hc1.mono ?_; rintro e w1 ⟨rfl, hb1⟩)
  go_ret
  exact ⟨NC.ret_bool HF.out, hb1⟩

/-! ### utf8_RuneCountInString: function 35 (a contract of this session's own) -/
def utf8_RuneCountInString.f (a0 : ByteArray) : Option Int := if a0.size ≤ 140737488351232 then some (Lib.runeCount a0) else none
theorem utf8_RuneCountInString.calls (a0 : ByteArray) (r : Int) (w : World) (h : utf8_RuneCountInString.f a0 = some r) :
  Calls Tryd.prog 35 #[.string a0] w fun e w' => e = .returned (.int .i64 r) ∧ Below w.heap.size w w' := by
 unfold utf8_RuneCountInString.f at h
 by_cases hs : a0.size ≤ 140737488351232
 ·rw [if_pos hs] at h
  obtain rfl := Option.some.inj h
  refine (Tryd.utf8_RuneCountInString a0 w (by omega)).mono ?_
  rintro e w' ⟨he, pos, rfl⟩
  exact ⟨he, below_alloc (Below.refl _ _) _⟩
 ·rw [if_neg hs] at h
  cases h

/-! ### strings_Count: function 36 (a contract of this session's own) -/
def strings_Count.f (a0 a1 : ByteArray) : Option Int := if a1 = ⟨#[46]⟩ then some (Lib.countByte a0.data.toList 46) else none
theorem strings_Count.calls (a0 a1 : ByteArray) (r : Int) (w : World) (h : strings_Count.f a0 a1 = some r) :
  Calls Tryd.prog 36 #[.string a0, .string a1] w fun e w' => e = .returned (.int .i64 r) ∧ Drawn0 w w' := by
 unfold strings_Count.f at h
 by_cases hs : a1 = ⟨#[46]⟩
 ·rw [if_pos hs] at h
  obtain rfl := Option.some.inj h
  subst hs
  refine (Tryd.strings_Count_one a0 46 w).mono ?_
  rintro e w' ⟨he, rfl⟩
  exact ⟨he, ⟨0, rfl⟩⟩
 ·rw [if_neg hs] at h
  cases h

/-! ### name_Check: function 24 -/
def name_Check.f (a0 : ByteArray) : Option (Int) := (name_formed.f a0).bind fun t109 => (if t109 = true then ((utf8_RuneCountInString.f a0).bind fun t110 => (if t110 > 40 then (some 2) else ((strings_Count.f a0 (⟨#[46]⟩ : ByteArray)).bind fun t111 => (if t111 ≥ 5 then (some 2) else (some 0))))) else (some 3))
set_option maxHeartbeats 8000000 in
set_option maxRecDepth 100000 in
theorem name_Check.calls (a0 : ByteArray) (r : Int) (w : World) (h : name_Check.f a0 = some r) (hT : NC.TabW w) :
  Calls Tryd.prog 24 #[.string a0] w fun e w' => e = .returned (.int .i64 r) ∧ Below w.heap.size w w' := by
 have HT := Aside0.mk hT
 clear hT
 have HB := Aside0.mk (Below.refl w.heap.size w)
 have H : ((name_formed.f a0).bind fun t109 => (if t109 = true then ((utf8_RuneCountInString.f a0).bind fun t110 => (if t110 > 40 then (some 2) else ((strings_Count.f a0 (⟨#[46]⟩ : ByteArray)).bind fun t111 => (if t111 ≥ 5 then (some 2) else (some 0))))) else (some 3))) = some r := h
 clear h
 replace H := Option.bind_eq_some_iff.mp H
 obtain ⟨t109, A20, H⟩ := H
 replace H : (if t109 = true then ((utf8_RuneCountInString.f a0).bind fun t110 => (if t110 > 40 then (some 2) else ((strings_Count.f a0 (⟨#[46]⟩ : ByteArray)).bind fun t111 => (if t111 ≥ 5 then (some 2) else (some 0))))) else (some 3)) = some r := H
 have A2 := Aside0.mk A20
 clear A20
 by_cases c3 : t109 = true
 ·subst c3
  have H1 : ((utf8_RuneCountInString.f a0).bind fun t110 => (if t110 > 40 then (some 2) else ((strings_Count.f a0 (⟨#[46]⟩ : ByteArray)).bind fun t111 => (if t111 ≥ 5 then (some 2) else (some 0))))) = some r := by rw [if_pos rfl] at H; exact H
  clear H
  have H := H1
  clear H1
  replace H := Option.bind_eq_some_iff.mp H
  obtain ⟨t110, A40, H⟩ := H
  replace H : (if t110 > 40 then (some 2) else ((strings_Count.f a0 (⟨#[46]⟩ : ByteArray)).bind fun t111 => (if t111 ≥ 5 then (some 2) else (some 0)))) = some r := H
  have A4 := Aside0.mk A40
  clear A40
  by_cases c5 : t110 > 40
  ·rw [if_pos c5] at H
   have c5b0 : decide (40 < t110) = true := decide_eq_true c5
   clear c5
   obtain rfl := Option.some.inj H
   go_enter Tryd.func24, Tryd.ntmps24
   go_wp2_with (first | ((with_reducible refine gate_callee (f := 34) rfl ?_); refine goesL_ (some 5) rfl rfl Tryd.func34 (by kernel_rfl) rfl #[.string a0] rfl (by (try simp only [List.map_toArray, List.map_cons, List.map_nil]); first | rfl ) ?_; (with_reducible refine (name_formed.calls a0 true _ A2.out (NC.TabW.below HT.out (by repeat (first | (with_reducible first | exact HB.out ) )))).mono ?_); rintro e w6 ⟨rfl, hb⟩; refine ⟨_, rfl, ?_⟩; have n0_ := Aside0.mk (below_step (by repeat (first | (with_reducible first | exact HB.out ) )) hb); clear HB; have HB := n0_; clear n0_; (try clear hb); (try clear hb2); (try clear hk); (try clear hi)) | ((with_reducible refine gate_callee (f := 35) rfl ?_); refine goesL_ (some 9) rfl rfl Tryd.func35 (by kernel_rfl) rfl #[.string a0] rfl (by (try simp only [List.map_toArray, List.map_cons, List.map_nil]); first | rfl ) ?_; (with_reducible refine (utf8_RuneCountInString.calls a0 t110 _ A4.out).mono ?_); rintro e w7 ⟨rfl, hb⟩; refine ⟨_, rfl, ?_⟩; have n0_ := Aside0.mk (below_step (by repeat (first | (with_reducible first | exact HB.out ) )) hb); clear HB; have HB := n0_; clear n0_; (try clear hb); (try clear hb2); (try clear hk); (try clear hi)))
   go_ret
   exact ⟨by first | rfl , by repeat (first | (with_reducible first | exact HB.out ) )⟩
  ·rw [if_neg c5] at H
   have c5b0 : decide (40 < t110) = false := decide_eq_false c5
   clear c5
   replace H := Option.bind_eq_some_iff.mp H
   obtain ⟨t111, A80, H⟩ := H
   replace H : (if t111 ≥ 5 then (some 2) else (some 0)) = some r := H
   have A8 := Aside0.mk A80
   clear A80
   by_cases c9 : t111 ≥ 5
   ·rw [if_pos c9] at H
    have c9b0 : decide (5 ≤ t111) = true := decide_eq_true c9
    clear c9
    obtain rfl := Option.some.inj H
    go_enter Tryd.func24, Tryd.ntmps24
    go_wp2_with (first | ((with_reducible refine gate_callee (f := 34) rfl ?_); refine goesL_ (some 5) rfl rfl Tryd.func34 (by kernel_rfl) rfl #[.string a0] rfl (by (try simp only [List.map_toArray, List.map_cons, List.map_nil]); first | rfl ) ?_; (with_reducible refine (name_formed.calls a0 true _ A2.out (NC.TabW.below HT.out (by repeat (first | (with_reducible first | exact HB.out ) )))).mono ?_); rintro e w10 ⟨rfl, hb⟩; refine ⟨_, rfl, ?_⟩; have n0_ := Aside0.mk (below_step (by repeat (first | (with_reducible first | exact HB.out ) )) hb); clear HB; have HB := n0_; clear n0_; (try clear hb); (try clear hb2); (try clear hk); (try clear hi)) | ((with_reducible refine gate_callee (f := 35) rfl ?_); refine goesL_ (some 9) rfl rfl Tryd.func35 (by kernel_rfl) rfl #[.string a0] rfl (by (try simp only [List.map_toArray, List.map_cons, List.map_nil]); first | rfl ) ?_; (with_reducible refine (utf8_RuneCountInString.calls a0 t110 _ A4.out).mono ?_); rintro e w11 ⟨rfl, hb⟩; refine ⟨_, rfl, ?_⟩; have n0_ := Aside0.mk (below_step (by repeat (first | (with_reducible first | exact HB.out ) )) hb); clear HB; have HB := n0_; clear n0_; (try clear hb); (try clear hb2); (try clear hk); (try clear hi)) | (go_at_call 36; (with_reducible refine (strings_Count.calls a0 (⟨#[46]⟩ : ByteArray) t111 _ A8.out).mono ?_); rintro e w' ⟨rfl, ⟨nd, rfl⟩⟩))
    go_ret
    exact ⟨by first | rfl , by repeat (first | (with_reducible first | exact HB.out | apply pw_below_drewN ) )⟩
   ·rw [if_neg c9] at H
    have c9b0 : decide (5 ≤ t111) = false := decide_eq_false c9
    clear c9
    obtain rfl := Option.some.inj H
    go_enter Tryd.func24, Tryd.ntmps24
    go_wp2_with (first | ((with_reducible refine gate_callee (f := 34) rfl ?_); refine goesL_ (some 5) rfl rfl Tryd.func34 (by kernel_rfl) rfl #[.string a0] rfl (by (try simp only [List.map_toArray, List.map_cons, List.map_nil]); first | rfl ) ?_; (with_reducible refine (name_formed.calls a0 true _ A2.out (NC.TabW.below HT.out (by repeat (first | (with_reducible first | exact HB.out ) )))).mono ?_); rintro e w12 ⟨rfl, hb⟩; refine ⟨_, rfl, ?_⟩; have n0_ := Aside0.mk (below_step (by repeat (first | (with_reducible first | exact HB.out ) )) hb); clear HB; have HB := n0_; clear n0_; (try clear hb); (try clear hb2); (try clear hk); (try clear hi)) | ((with_reducible refine gate_callee (f := 35) rfl ?_); refine goesL_ (some 9) rfl rfl Tryd.func35 (by kernel_rfl) rfl #[.string a0] rfl (by (try simp only [List.map_toArray, List.map_cons, List.map_nil]); first | rfl ) ?_; (with_reducible refine (utf8_RuneCountInString.calls a0 t110 _ A4.out).mono ?_); rintro e w13 ⟨rfl, hb⟩; refine ⟨_, rfl, ?_⟩; have n0_ := Aside0.mk (below_step (by repeat (first | (with_reducible first | exact HB.out ) )) hb); clear HB; have HB := n0_; clear n0_; (try clear hb); (try clear hb2); (try clear hk); (try clear hi)) | (go_at_call 36; (with_reducible refine (strings_Count.calls a0 (⟨#[46]⟩ : ByteArray) t111 _ A8.out).mono ?_); rintro e w' ⟨rfl, ⟨nd, rfl⟩⟩))
    go_ret
    exact ⟨by first | rfl , by repeat (first | (with_reducible first | exact HB.out | apply pw_below_drewN ) )⟩
 ·replace c3 := Bool.eq_false_iff.mpr c3
  subst c3
  have H1 : (some 3) = some r := by rw [if_neg (show ¬ (false = true) by decide)] at H; exact H
  clear H
  have H := H1
  clear H1
  obtain rfl := Option.some.inj H
  go_enter Tryd.func24, Tryd.ntmps24
  go_wp2_with (first | ((with_reducible refine gate_callee (f := 34) rfl ?_); refine goesL_ (some 5) rfl rfl Tryd.func34 (by kernel_rfl) rfl #[.string a0] rfl (by (try simp only [List.map_toArray, List.map_cons, List.map_nil]); first | rfl ) ?_; (with_reducible refine (name_formed.calls a0 false _ A2.out (NC.TabW.below HT.out (by repeat (first | (with_reducible first | exact HB.out ) )))).mono ?_); rintro e w14 ⟨rfl, hb⟩; refine ⟨_, rfl, ?_⟩; have n0_ := Aside0.mk (below_step (by repeat (first | (with_reducible first | exact HB.out ) )) hb); clear HB; have HB := n0_; clear n0_; (try clear hb); (try clear hb2); (try clear hk); (try clear hi)))
  go_ret
  exact ⟨by first | rfl , by repeat (first | (with_reducible first | exact HB.out ) )⟩

/-! ### forest_count: function 51 -/
def forest_count.f (a0 : Int) : Option (Bool) := if a0 ≥ 1 then (some (decide (a0 ≤ 1099511627775))) else (some false)
set_option maxHeartbeats 8000000 in
set_option maxRecDepth 100000 in
theorem forest_count.calls (a0 : Int) (r : Bool) (w : World) (h : forest_count.f a0 = some r) :
  Calls Tryd.prog 51 #[.int .i64 a0] w fun e w' => e = .returned (.bool r) ∧ Drawn0 w w' := by
 have H : (if a0 ≥ 1 then (some (decide (a0 ≤ 1099511627775))) else (some false)) = some r := h
 clear h
 by_cases c2 : a0 ≥ 1
 ·rw [if_pos c2] at H
  have c2b0 : decide (1 ≤ a0) = true := decide_eq_true c2
  clear c2
  obtain rfl := Option.some.inj H
  go_enter Tryd.func51, Tryd.ntmps51
  go_wp2
  go_ret
  exact ⟨by first | rfl , by repeat (first | exact Drawn0.refl _ )⟩
 ·rw [if_neg c2] at H
  have c2b0 : decide (1 ≤ a0) = false := decide_eq_false c2
  clear c2
  obtain rfl := Option.some.inj H
  go_enter Tryd.func51, Tryd.ntmps51
  go_wp2
  go_ret
  exact ⟨by first | rfl , by repeat (first | exact Drawn0.refl _ )⟩

/-! ### forest_IsID: function 37 -/
def forest_IsID.f (a0_0 : Int) (a0_1 : Int) (a0_2 : Int) : Option (Bool) := if a0_0 ≥ 1 then (if a0_0 ≤ 15 then ((forest_count.f a0_1).bind fun t113 => (if t113 = true then ((forest_count.f a0_2).bind fun t114 => (some t114)) else (some false))) else (some false)) else (some false)
set_option maxHeartbeats 8000000 in
set_option maxRecDepth 100000 in
theorem forest_IsID.calls (a0_0 : Int) (a0_1 : Int) (a0_2 : Int) (r : Bool) (w : World) (h : forest_IsID.f a0_0 a0_1 a0_2 = some r) :
  Calls Tryd.prog 37 #[.agg #[.int .i64 a0_0, .int .i64 a0_1, .int .i64 a0_2]] w fun e w' => e = .returned (.bool r) ∧ Below w.heap.size w w' := by
 have hu30 := Tryd.underlying30
 have HB := Aside0.mk (Below.refl w.heap.size w)
 have H : (if a0_0 ≥ 1 then (if a0_0 ≤ 15 then ((forest_count.f a0_1).bind fun t113 => (if t113 = true then ((forest_count.f a0_2).bind fun t114 => (some t114)) else (some false))) else (some false)) else (some false)) = some r := h
 clear h
 by_cases c2 : a0_0 ≥ 1
 ·rw [if_pos c2] at H
  have c2b0 : decide (1 ≤ a0_0) = true := decide_eq_true c2
  clear c2
  by_cases c3 : a0_0 ≤ 15
  ·rw [if_pos c3] at H
   have c3b0 : decide (a0_0 ≤ 15) = true := decide_eq_true c3
   clear c3
   replace H := Option.bind_eq_some_iff.mp H
   obtain ⟨t113, A40, H⟩ := H
   replace H : (if t113 = true then ((forest_count.f a0_2).bind fun t114 => (some t114)) else (some false)) = some r := H
   have A4 := Aside0.mk A40
   clear A40
   by_cases c5 : t113 = true
   ·subst c5
    have H1 : ((forest_count.f a0_2).bind fun t114 => (some t114)) = some r := by rw [if_pos rfl] at H; exact H
    clear H
    have H := H1
    clear H1
    replace H := Option.bind_eq_some_iff.mp H
    obtain ⟨t114, A60, H⟩ := H
    replace H : (some t114) = some r := H
    have A6 := Aside0.mk A60
    clear A60
    obtain rfl := Option.some.inj H
    go_enter Tryd.func37, Tryd.ntmps37
    go_wp2_with (first | ((with_reducible refine gate_dst (N := 1) rfl ?_); refine box_event ?hg (N := 1) ?hd (cs := #[.int .i64 a0_0, .int .i64 a0_1, .int .i64 a0_2]) (t := 30) ?hr ?_; (case hd => rfl); (case hg => rfl); (case hr => first | (go_simp; done) ); intro gb112 hg w7 hbox hb; have n0_ := Aside0.mk (below_step (by repeat (first | (with_reducible first | exact HB.out ) )) hb); have n1_ := Aside0.mk (hbox); have n2_ := Aside0.mk ((by rw [hg]; exact (below_size (by repeat (first | (with_reducible first | exact HB.out ) ))) : w.heap.size ≤ gb112)); have n3_ := Aside0.mk ((by rw [hg]; exact (below_size (by repeat (first | (with_reducible first | exact HB.out ) ))) : w.heap.size ≤ gb112)); clear HB; have HB := n0_; have BK112 := n1_; have GW112 := n2_; have GE112 := n3_; clear n0_ n1_ n2_ n3_; clear hb hbox hg; have hcz8_0 : w7.cell? ⟨gb112, 0, none⟩ = some (.int .i64 a0_0) := (blk_cell BK112.out 0).trans rfl; have hcz8_1 : w7.cell? ⟨gb112, 1, none⟩ = some (.int .i64 a0_1) := (blk_cell BK112.out 1).trans rfl; have hcz8_2 : w7.cell? ⟨gb112, 2, none⟩ = some (.int .i64 a0_2) := (blk_cell BK112.out 2).trans rfl; have hfz8_0 := blk_frozen BK112.out 0; have hfz8_1 := blk_frozen BK112.out 1; have hfz8_2 := blk_frozen BK112.out 2) | (go_at_call 51; (with_reducible refine (forest_count.calls a0_1 true _ A4.out).mono ?_); rintro e w' ⟨rfl, ⟨nd, rfl⟩⟩) | (go_at_call 51; (with_reducible refine (forest_count.calls a0_2 t114 _ A6.out).mono ?_); rintro e w' ⟨rfl, ⟨nd, rfl⟩⟩))
    go_ret
    exact ⟨by first | rfl , by repeat (first | (with_reducible first | exact HB.out | apply pw_below_drewN ) )⟩
   ·replace c5 := Bool.eq_false_iff.mpr c5
    subst c5
    have H1 : (some false) = some r := by rw [if_neg (show ¬ (false = true) by decide)] at H; exact H
    clear H
    have H := H1
    clear H1
    obtain rfl := Option.some.inj H
    go_enter Tryd.func37, Tryd.ntmps37
    go_wp2_with (first | ((with_reducible refine gate_dst (N := 1) rfl ?_); refine box_event ?hg (N := 1) ?hd (cs := #[.int .i64 a0_0, .int .i64 a0_1, .int .i64 a0_2]) (t := 30) ?hr ?_; (case hd => rfl); (case hg => rfl); (case hr => first | (go_simp; done) ); intro gb112 hg w9 hbox hb; have n0_ := Aside0.mk (below_step (by repeat (first | (with_reducible first | exact HB.out ) )) hb); have n1_ := Aside0.mk (hbox); have n2_ := Aside0.mk ((by rw [hg]; exact (below_size (by repeat (first | (with_reducible first | exact HB.out ) ))) : w.heap.size ≤ gb112)); have n3_ := Aside0.mk ((by rw [hg]; exact (below_size (by repeat (first | (with_reducible first | exact HB.out ) ))) : w.heap.size ≤ gb112)); clear HB; have HB := n0_; have BK112 := n1_; have GW112 := n2_; have GE112 := n3_; clear n0_ n1_ n2_ n3_; clear hb hbox hg; have hcz10_0 : w9.cell? ⟨gb112, 0, none⟩ = some (.int .i64 a0_0) := (blk_cell BK112.out 0).trans rfl; have hcz10_1 : w9.cell? ⟨gb112, 1, none⟩ = some (.int .i64 a0_1) := (blk_cell BK112.out 1).trans rfl; have hcz10_2 : w9.cell? ⟨gb112, 2, none⟩ = some (.int .i64 a0_2) := (blk_cell BK112.out 2).trans rfl; have hfz10_0 := blk_frozen BK112.out 0; have hfz10_1 := blk_frozen BK112.out 1; have hfz10_2 := blk_frozen BK112.out 2) | (go_at_call 51; (with_reducible refine (forest_count.calls a0_1 false _ A4.out).mono ?_); rintro e w' ⟨rfl, ⟨nd, rfl⟩⟩))
    go_ret
    exact ⟨by first | rfl , by repeat (first | (with_reducible first | exact HB.out | apply pw_below_drewN ) )⟩
  ·rw [if_neg c3] at H
   have c3b0 : decide (a0_0 ≤ 15) = false := decide_eq_false c3
   clear c3
   obtain rfl := Option.some.inj H
   go_enter Tryd.func37, Tryd.ntmps37
   go_wp2_with (first | ((with_reducible refine gate_dst (N := 1) rfl ?_); refine box_event ?hg (N := 1) ?hd (cs := #[.int .i64 a0_0, .int .i64 a0_1, .int .i64 a0_2]) (t := 30) ?hr ?_; (case hd => rfl); (case hg => rfl); (case hr => first | (go_simp; done) ); intro gb112 hg w11 hbox hb; have n0_ := Aside0.mk (below_step (by repeat (first | (with_reducible first | exact HB.out ) )) hb); have n1_ := Aside0.mk (hbox); have n2_ := Aside0.mk ((by rw [hg]; exact (below_size (by repeat (first | (with_reducible first | exact HB.out ) ))) : w.heap.size ≤ gb112)); have n3_ := Aside0.mk ((by rw [hg]; exact (below_size (by repeat (first | (with_reducible first | exact HB.out ) ))) : w.heap.size ≤ gb112)); clear HB; have HB := n0_; have BK112 := n1_; have GW112 := n2_; have GE112 := n3_; clear n0_ n1_ n2_ n3_; clear hb hbox hg; have hcz12_0 : w11.cell? ⟨gb112, 0, none⟩ = some (.int .i64 a0_0) := (blk_cell BK112.out 0).trans rfl; have hcz12_1 : w11.cell? ⟨gb112, 1, none⟩ = some (.int .i64 a0_1) := (blk_cell BK112.out 1).trans rfl; have hcz12_2 : w11.cell? ⟨gb112, 2, none⟩ = some (.int .i64 a0_2) := (blk_cell BK112.out 2).trans rfl; have hfz12_0 := blk_frozen BK112.out 0; have hfz12_1 := blk_frozen BK112.out 1; have hfz12_2 := blk_frozen BK112.out 2))
   go_ret
   exact ⟨by first | rfl , by repeat (first | (with_reducible first | exact HB.out ) )⟩
 ·rw [if_neg c2] at H
  have c2b0 : decide (1 ≤ a0_0) = false := decide_eq_false c2
  clear c2
  obtain rfl := Option.some.inj H
  go_enter Tryd.func37, Tryd.ntmps37
  go_wp2_with (first | ((with_reducible refine gate_dst (N := 1) rfl ?_); refine box_event ?hg (N := 1) ?hd (cs := #[.int .i64 a0_0, .int .i64 a0_1, .int .i64 a0_2]) (t := 30) ?hr ?_; (case hd => rfl); (case hg => rfl); (case hr => first | (go_simp; done) ); intro gb112 hg w13 hbox hb; have n0_ := Aside0.mk (below_step (by repeat (first | (with_reducible first | exact HB.out ) )) hb); have n1_ := Aside0.mk (hbox); have n2_ := Aside0.mk ((by rw [hg]; exact (below_size (by repeat (first | (with_reducible first | exact HB.out ) ))) : w.heap.size ≤ gb112)); have n3_ := Aside0.mk ((by rw [hg]; exact (below_size (by repeat (first | (with_reducible first | exact HB.out ) ))) : w.heap.size ≤ gb112)); clear HB; have HB := n0_; have BK112 := n1_; have GW112 := n2_; have GE112 := n3_; clear n0_ n1_ n2_ n3_; clear hb hbox hg; have hcz14_0 : w13.cell? ⟨gb112, 0, none⟩ = some (.int .i64 a0_0) := (blk_cell BK112.out 0).trans rfl; have hcz14_1 : w13.cell? ⟨gb112, 1, none⟩ = some (.int .i64 a0_1) := (blk_cell BK112.out 1).trans rfl; have hcz14_2 : w13.cell? ⟨gb112, 2, none⟩ = some (.int .i64 a0_2) := (blk_cell BK112.out 2).trans rfl; have hfz14_0 := blk_frozen BK112.out 0; have hfz14_1 := blk_frozen BK112.out 1; have hfz14_2 := blk_frozen BK112.out 2))
  go_ret
  exact ⟨by first | rfl , by repeat (first | (with_reducible first | exact HB.out ) )⟩

/-! ### strings_Split: function 77 (a contract of this session's own) -/
def strings_Split.f (a0 a1 : ByteArray) : Option (List ByteArray) := if a1 = ⟨#[46]⟩ then (if a0.size < 4294967281 then some (Lib.splitB ⟨#[46]⟩ 0 (Lib.countB a0 ⟨#[46]⟩) a0) else none) else none
theorem strings_Split.calls (a0 a1 : ByteArray) (r : List ByteArray) (w : World) (h : strings_Split.f a0 a1 = some r) (hT : NC.TabW w) :
  Calls Tryd.prog 77 #[.string a0, .string a1] w fun e w' => ∃ v0_ : Value, e = .returned (v0_) ∧ Kd.R Kd.string 9 w' w.heap.size (fun _ => True) v0_ r ∧ Below w.heap.size w w' := by
 unfold strings_Split.f at h
 by_cases hs : a1 = ⟨#[46]⟩
 ·rw [if_pos hs] at h
  by_cases hl : a0.size < 4294967281
  ·rw [if_pos hl] at h
   obtain rfl := Option.some.inj h
   subst hs
   obtain ⟨m, hm⟩ := hT.2
   refine (Tryd.strings_Split a0 ⟨#[46]⟩ m w hl hm (by decide)).mono ?_
   rintro e w' ⟨he, rfl⟩
   refine ⟨_, he, Kd.R_of_own ?_ (fun _ _ => trivial), below_alloc (Below.refl _ _) _⟩
   have hlen := Lib.splitB_all ⟨#[46]⟩ (by decide) 0 (Lib.countB a0 ⟨#[46]⟩) a0 rfl
   have hle := Lib.countB_le ⟨#[46]⟩ (by decide) a0.size a0 (Nat.le_refl _)
   have ho := own_lit_of (enc := Value.string) w w.heap.size 9 (Lib.splitB ⟨#[46]⟩ 0 (Lib.countB a0 ⟨#[46]⟩) a0) (Nat.le_refl _) (by rw [hlen]; omega)
   rw [hlen] at ho ⊢
   exact ho
  ·rw [if_neg hl] at h
   cases h
 ·rw [if_neg hs] at h
  cases h

/-! ### name_Parts: function 64 -/
def name_Parts.f (a0 : ByteArray) : Option (List ByteArray) := (name_Check.f a0).bind fun t115 => (if t115 = 0 then ((strings_Split.f a0 (⟨#[46]⟩ : ByteArray)).bind fun t116 => (some t116)) else (some ([] : List ByteArray)))
set_option maxHeartbeats 8000000 in
set_option maxRecDepth 100000 in
theorem name_Parts.calls (a0 : ByteArray) (r : List ByteArray) (w : World) (h : name_Parts.f a0 = some r) (hT : NC.TabW w) :
  Calls Tryd.prog 64 #[.string a0] w fun e w' => ∃ v0_ : Value, e = .returned (v0_) ∧ Kd.R Kd.string 9 w' w.heap.size (fun _ => True) v0_ r ∧ Below w.heap.size w w' := by
 have HT := Aside0.mk hT
 clear hT
 have HB := Aside0.mk (Below.refl w.heap.size w)
 have H : ((name_Check.f a0).bind fun t115 => (if t115 = 0 then ((strings_Split.f a0 (⟨#[46]⟩ : ByteArray)).bind fun t116 => (some t116)) else (some ([] : List ByteArray)))) = some r := h
 clear h
 replace H := Option.bind_eq_some_iff.mp H
 obtain ⟨t115, A20, H⟩ := H
 replace H : (if t115 = 0 then ((strings_Split.f a0 (⟨#[46]⟩ : ByteArray)).bind fun t116 => (some t116)) else (some ([] : List ByteArray))) = some r := H
 have A2 := Aside0.mk A20
 clear A20
 by_cases c3 : t115 = 0
 ·rw [if_pos c3] at H
  have c3b0 : (t115 == 0) = true := beq_iff_eq.mpr c3
  have c3b1 : (t115 != 0) = false := bne_eq_false_iff_eq.mpr c3
  clear c3
  replace H := Option.bind_eq_some_iff.mp H
  obtain ⟨t116, A40, H⟩ := H
  replace H : (some t116) = some r := H
  have A4 := Aside0.mk A40
  clear A40
  obtain rfl := Option.some.inj H
  go_enter Tryd.func64, Tryd.ntmps64
  go_wp2_with (first | ((with_reducible refine gate_callee (f := 24) rfl ?_); refine goesL_ (some 4) rfl rfl Tryd.func24 (by kernel_rfl) rfl #[.string a0] rfl (by (try simp only [List.map_toArray, List.map_cons, List.map_nil]); first | rfl ) ?_; (with_reducible refine (name_Check.calls a0 t115 _ A2.out (NC.TabW.below HT.out (by repeat (first | (with_reducible first | exact HB.out ) )))).mono ?_); rintro e w5 ⟨rfl, hb⟩; refine ⟨_, rfl, ?_⟩; have n0_ := Aside0.mk (below_step (by repeat (first | (with_reducible first | exact HB.out ) )) hb); clear HB; have HB := n0_; clear n0_; (try clear hb); (try clear hb2); (try clear hk); (try clear hi)) | ((with_reducible refine gate_callee (f := 77) rfl ?_); refine goesL_ (some 7) rfl rfl Tryd.func77 (by kernel_rfl) rfl #[.string a0, .string (⟨#[46]⟩ : ByteArray)] rfl (by (try simp only [List.map_toArray, List.map_cons, List.map_nil]); first | rfl ) ?_; (with_reducible refine (strings_Split.calls a0 (⟨#[46]⟩ : ByteArray) t116 _ A4.out (NC.TabW.below HT.out (by repeat (first | (with_reducible first | exact HB.out ) )))).mono ?_); rintro e w6 ⟨v117, rfl, ho0, hb⟩; refine ⟨_, rfl, ?_⟩; have n0_ := Aside0.mk (Kd.R_lower ho0 (below_size (by repeat (first | (with_reducible first | exact HB.out ) )))); have n1_ := Aside0.mk (below_step (by repeat (first | (with_reducible first | exact HB.out ) )) hb); clear HB; have HO118 := n0_; have HB := n1_; clear n0_ n1_; (try clear hb); (try clear hb2); (try clear hk); (try clear hi); (try clear ho0)))
  go_ret
  exact ⟨_, by first | rfl , by (with_reducible repeat (fail)); exact HO118.out, by repeat (first | (with_reducible first | exact HB.out ) )⟩
 ·rw [if_neg c3] at H
  have c3b0 : (t115 == 0) = false := beq_eq_false_iff_ne.mpr c3
  have c3b1 : (t115 != 0) = true := bne_iff_ne.mpr c3
  obtain rfl := Option.some.inj H
  go_enter Tryd.func64, Tryd.ntmps64
  go_wp2_with (first | ((with_reducible refine gate_callee (f := 24) rfl ?_); refine goesL_ (some 4) rfl rfl Tryd.func24 (by kernel_rfl) rfl #[.string a0] rfl (by (try simp only [List.map_toArray, List.map_cons, List.map_nil]); first | rfl ) ?_; (with_reducible refine (name_Check.calls a0 t115 _ A2.out (NC.TabW.below HT.out (by repeat (first | (with_reducible first | exact HB.out ) )))).mono ?_); rintro e w7 ⟨rfl, hb⟩; refine ⟨_, rfl, ?_⟩; have n0_ := Aside0.mk (below_step (by repeat (first | (with_reducible first | exact HB.out ) )) hb); clear HB; have HB := n0_; clear n0_; (try clear hb); (try clear hb2); (try clear hk); (try clear hi)))
  go_ret
  exact ⟨_, by first | rfl , by first | exact Kd.R_nil _ _ _ _ _ , by repeat (first | (with_reducible first | exact HB.out ) )⟩

/-! ### schema_simple: function 52 -/
def schema_simple.f (a0 : ByteArray) : Option (Bool) := (name_Check.f a0).bind fun t119 => (if t119 = 0 then ((name_Parts.f a0).bind fun t120 => (some ((t120.length : Int) == 1))) else (some false))
set_option maxHeartbeats 8000000 in
set_option maxRecDepth 100000 in
theorem schema_simple.calls (a0 : ByteArray) (r : Bool) (w : World) (h : schema_simple.f a0 = some r) (hT : NC.TabW w) :
  Calls Tryd.prog 52 #[.string a0] w fun e w' => e = .returned (.bool r) ∧ Below w.heap.size w w' := by
 have HT := Aside0.mk hT
 clear hT
 have HB := Aside0.mk (Below.refl w.heap.size w)
 have H : ((name_Check.f a0).bind fun t119 => (if t119 = 0 then ((name_Parts.f a0).bind fun t120 => (some ((t120.length : Int) == 1))) else (some false))) = some r := h
 clear h
 replace H := Option.bind_eq_some_iff.mp H
 obtain ⟨t119, A20, H⟩ := H
 replace H : (if t119 = 0 then ((name_Parts.f a0).bind fun t120 => (some ((t120.length : Int) == 1))) else (some false)) = some r := H
 have A2 := Aside0.mk A20
 clear A20
 by_cases c3 : t119 = 0
 ·rw [if_pos c3] at H
  have c3b0 : (t119 == 0) = true := beq_iff_eq.mpr c3
  have c3b1 : (t119 != 0) = false := bne_eq_false_iff_eq.mpr c3
  clear c3
  replace H := Option.bind_eq_some_iff.mp H
  obtain ⟨t120, A40, H⟩ := H
  replace H : (some ((t120.length : Int) == 1)) = some r := H
  have A4 := Aside0.mk A40
  clear A40
  obtain rfl := Option.some.inj H
  go_enter Tryd.func52, Tryd.ntmps52
  go_wp2_with (first | ((with_reducible refine gate_callee (f := 24) rfl ?_); refine goesL_ (some 4) rfl rfl Tryd.func24 (by kernel_rfl) rfl #[.string a0] rfl (by (try simp only [List.map_toArray, List.map_cons, List.map_nil]); first | rfl ) ?_; (with_reducible refine (name_Check.calls a0 t119 _ A2.out (NC.TabW.below HT.out (by repeat (first | (with_reducible first | exact HB.out ) )))).mono ?_); rintro e w5 ⟨rfl, hb⟩; refine ⟨_, rfl, ?_⟩; have n0_ := Aside0.mk (below_step (by repeat (first | (with_reducible first | exact HB.out ) )) hb); clear HB; have HB := n0_; clear n0_; (try clear hb); (try clear hb2); (try clear hk); (try clear hi)) | (go_at_call 64; (with_reducible refine (name_Parts.calls a0 t120 _ A4.out (NC.TabW.below HT.out (by repeat (first | (with_reducible first | exact HB.out ) )))).mono ?_); rintro e w6 ⟨v121, rfl, ho0, hb⟩; have n0_ := Aside0.mk (Kd.R_lower ho0 (below_size (by repeat (first | (with_reducible first | exact HB.out ) )))); have n1_ := Aside0.mk (below_step (by repeat (first | (with_reducible first | exact HB.out ) )) hb); clear HB; have HO122 := n0_; have HB := n1_; clear n0_ n1_; (try clear hb); (try clear hb2); (try clear hk); (try clear hi); (try clear ho0); obtain ⟨Ao7, co7, eo7⟩ := Kd.R_slice HO122.out; subst eo7))
  go_ret
  exact ⟨by first | rfl , by repeat (first | (with_reducible first | exact HB.out ) )⟩
 ·rw [if_neg c3] at H
  have c3b0 : (t119 == 0) = false := beq_eq_false_iff_ne.mpr c3
  have c3b1 : (t119 != 0) = true := bne_iff_ne.mpr c3
  obtain rfl := Option.some.inj H
  go_enter Tryd.func52, Tryd.ntmps52
  go_wp2_with (first | ((with_reducible refine gate_callee (f := 24) rfl ?_); refine goesL_ (some 4) rfl rfl Tryd.func24 (by kernel_rfl) rfl #[.string a0] rfl (by (try simp only [List.map_toArray, List.map_cons, List.map_nil]); first | rfl ) ?_; (with_reducible refine (name_Check.calls a0 t119 _ A2.out (NC.TabW.below HT.out (by repeat (first | (with_reducible first | exact HB.out ) )))).mono ?_); rintro e w8 ⟨rfl, hb⟩; refine ⟨_, rfl, ?_⟩; have n0_ := Aside0.mk (below_step (by repeat (first | (with_reducible first | exact HB.out ) )) hb); clear HB; have HB := n0_; clear n0_; (try clear hb); (try clear hb2); (try clear hk); (try clear hi)))
  go_ret
  exact ⟨by first | rfl , by repeat (first | (with_reducible first | exact HB.out ) )⟩

end Go.Proofs.YtmcochnofkjhaaaDoor.PAll
