-- Written by a program of this session over the kit's printer (with contracts of the session's own).
import Derived.Test.YtiaacpjibhnhiaaDoorPAllx0
import Derived.Test.YtiaacpjibhnhiaaDoorPAllx1
import Derived.Test.YtiaacpjibhnhiaaDoorPAllx2
import Derived.Test.YtiaacpjibhnhiaaDoorPAllx4
import Derived.Test.YtiaacpjibhnhiaaDoorPAllx5
import Derived.Test.YtiaacpjibhnhiaaDoorPAllx6
namespace Go.Proofs.YtiaacpjibhnhiaaDoor.PAll
open Go.RowKit Go.Proofs.YtiaacpjibhnhiaaDoorW.PrintWords Go.Proofs.YtiaacpjibhnhiaaDoorW.PrintLast Go.Proofs.YtiaacpjibhnhiaaDoorW.PrintMore
attribute [local go_sem] max2_int min2_int max_two min_two max_three min_three max_four min_four   -- for this text's walks alone
set_option linter.unusedVariables false
set_option linter.unusedSimpArgs false

/-! ### caduceuslaw02_NameRunes: function 4 -/
def caduceuslaw02_NameRunes.j0 : Nat → Int → ByteArray → Int → Option (Bool)
  | 0, _, _, _ => none
  | k + 1, x0, x1, x5 => (caduceuslaw02_awake.f k).bind fun t180 => (if t180 = true then ((name_Letter.f k x0).bind fun t181 => ((caduceusref02_Letter.f k (wrap64 (x0))).bind fun t182 => (if (t181 == t182) = true then ((name_Small.f x0).bind fun t183 => ((caduceusref02_Small.f (wrap64 (x0))).bind fun t184 => (if (wrap64 (t183)) = t184 then ((name_Runes.f x1).bind fun t185 => (some (t185 == x5))) else none))) else none))) else none)
def caduceuslaw02_NameRunes.f (k : Nat) (a0 : Int) (a1 : ByteArray) : Option (Bool) := if (a1.size : Int) > 2000 then ((caduceuslaw02_awake.f k).bind fun t175 => (some t175)) else ((caduceusref02_Valid.f k a1).bind fun t176 => (if t176 = true then ((caduceusref02_Runes.f k a1).bind fun t177 => (caduceuslaw02_NameRunes.j0 k a0 a1 (t177.length : Int))) else (caduceuslaw02_NameRunes.j0 k a0 a1 (-1))))
theorem caduceuslaw02_NameRunes.mono_l : ∀ k, (∀ y0 y1 y2, LeO (caduceuslaw02_NameRunes.j0 k y0 y1 y2) (caduceuslaw02_NameRunes.j0 (k + 1) y0 y1 y2))
  | 0 => fun _ _ _ r h => by simp [caduceuslaw02_NameRunes.j0] at h
  | k + 1 => by
    have ih0 := caduceuslaw02_NameRunes.mono_l k
    · intro y0 y1 y2
      unfold caduceuslaw02_NameRunes.j0
      repeat' first
      | (with_reducible exact ih0 _ _ _)
      | (with_reducible exact caduceuslaw02_awake.mono _)
      | (with_reducible exact caduceusref02_Letter.mono _ _)
      | (with_reducible exact caduceusref02_Runes.mono _ _)
      | (with_reducible exact caduceusref02_Valid.mono _ _)
      | (with_reducible exact name_Letter.mono _ _)
      | (with_reducible exact LeO.refl _)
      | (with_reducible exact LeO.none _)
      | (with_reducible refine LeO.ite ?_ ?_)
      | (with_reducible refine LeO.bind ?_ (fun _ => ?_))
      | exact ih0 _ _ _
      | exact caduceuslaw02_awake.mono _
      | exact caduceusref02_Letter.mono _ _
      | exact caduceusref02_Runes.mono _ _
      | exact caduceusref02_Valid.mono _ _
      | exact name_Letter.mono _ _
      | exact LeO.none _
      | refine LeO.ite ?_ ?_
      | refine LeO.bind ?_ (fun _ => ?_)
theorem caduceuslaw02_NameRunes.mono : ∀ a0 a1 k, LeO (caduceuslaw02_NameRunes.f k a0 a1) (caduceuslaw02_NameRunes.f (k + 1) a0 a1) := by
  intro a0 a1 k
  have ih0 := caduceuslaw02_NameRunes.mono_l k
  unfold caduceuslaw02_NameRunes.f
  repeat' first
      | (with_reducible exact ih0 _ _ _)
      | (with_reducible exact caduceuslaw02_awake.mono _)
      | (with_reducible exact caduceusref02_Letter.mono _ _)
      | (with_reducible exact caduceusref02_Runes.mono _ _)
      | (with_reducible exact caduceusref02_Valid.mono _ _)
      | (with_reducible exact name_Letter.mono _ _)
      | (with_reducible exact LeO.refl _)
      | (with_reducible exact LeO.none _)
      | (with_reducible refine LeO.ite ?_ ?_)
      | (with_reducible refine LeO.bind ?_ (fun _ => ?_))
      | exact ih0 _ _ _
      | exact caduceuslaw02_awake.mono _
      | exact caduceusref02_Letter.mono _ _
      | exact caduceusref02_Runes.mono _ _
      | exact caduceusref02_Valid.mono _ _
      | exact name_Letter.mono _ _
      | exact LeO.none _
      | refine LeO.ite ?_ ?_
      | refine LeO.bind ?_ (fun _ => ?_)
set_option maxHeartbeats 8000000 in
set_option maxRecDepth 100000 in
theorem caduceuslaw02_NameRunes.calls (k : Nat) (a0 : Int) (a1 : ByteArray) (r : Bool) (w : World) (h : caduceuslaw02_NameRunes.f k a0 a1 = some r) (hT : NC.TabW w) :
    Calls Tryd.prog 4 #[.int .i32 a0, .string a1] w fun e w' => e = .returned (.bool r) ∧ Below w.heap.size w w' := by
  have HT := Aside0.mk hT
  clear hT
  have HB := Aside0.mk (Below.refl w.heap.size w)
  have H : (if (a1.size : Int) > 2000 then ((caduceuslaw02_awake.f k).bind fun t175 => (some t175)) else ((caduceusref02_Valid.f k a1).bind fun t176 => (if t176 = true then ((caduceusref02_Runes.f k a1).bind fun t177 => (caduceuslaw02_NameRunes.j0 k a0 a1 (t177.length : Int))) else (caduceuslaw02_NameRunes.j0 k a0 a1 (-1))))) = some r := h
  clear h
  by_cases c3 : (a1.size : Int) > 2000
  · rw [if_pos c3] at H
    have c3b0 : decide (2000 < (a1.size : Int)) = true := decide_eq_true c3
    have c3b1 : decide (2000 < a1.size) = true := decide_eq_true (by omega)
    clear c3
    replace H := Option.bind_eq_some_iff.mp H
    obtain ⟨t175, A40, H⟩ := H
    replace H : (some t175) = some r := H
    have A4 := Aside0.mk A40
    clear A40
    obtain rfl := Option.some.inj H
    go_enter Tryd.func4, Tryd.ntmps4
    go_wp2_with (first | ((with_reducible refine gate_callee (f := 10) rfl ?_); refine goesL_ (some 9) rfl rfl Tryd.func10 (by kernel_rfl) rfl #[] rfl (by (try simp only [List.map_toArray, List.map_cons, List.map_nil]); first | done | rfl | (simp only [List.length_drop, List.length_take]; rfl)) ?_; (with_reducible refine (caduceuslaw02_awake.calls k  t175 _ A4.out (NC.TabW.below HT.out (by repeat (first | (with_reducible first | exact HB.out | apply below_alloc | apply pw_below_drewN | apply below_drew1) | exact HB.out)))).mono ?_); rintro e w5 ⟨rfl, hb⟩; refine ⟨_, rfl, ?_⟩; have n0_ := Aside0.mk (below_step (by repeat (first | (with_reducible first | exact HB.out | apply below_alloc | apply pw_below_drewN | apply below_drew1) | exact HB.out)) hb); clear HB; have HB := n0_; clear n0_; (try clear hb); (try clear hb2); (try clear hk); (try clear hi)))
    go_ret
    exact ⟨by first | rfl | (simp [errW_none, errW_some] <;> rfl) | (simp [*, errW_none, errW_some] <;> rfl), by repeat (first | (with_reducible first | exact HB.out | apply below_alloc | apply pw_below_drewN | apply below_drew1) | exact HB.out)⟩
  · rw [if_neg c3] at H
    have c3b0 : decide (2000 < (a1.size : Int)) = false := decide_eq_false c3
    have c3b1 : decide (2000 < a1.size) = false := decide_eq_false (by omega)
    clear c3
    replace H := Option.bind_eq_some_iff.mp H
    obtain ⟨t176, A60, H⟩ := H
    replace H : (if t176 = true then ((caduceusref02_Runes.f k a1).bind fun t177 => (caduceuslaw02_NameRunes.j0 k a0 a1 (t177.length : Int))) else (caduceuslaw02_NameRunes.j0 k a0 a1 (-1))) = some r := H
    have A6 := Aside0.mk A60
    clear A60
    have HC7 := Aside0.mk H
    clear H
    go_enter Tryd.func4, Tryd.ntmps4
    go_upto_if 11 with (first | ((with_reducible refine gate_callee (f := 16) rfl ?_); refine goesL_ (some 11) rfl rfl Tryd.func16 (by kernel_rfl) rfl #[.string a1] rfl (by (try simp only [List.map_toArray, List.map_cons, List.map_nil]); first | done | rfl | (simp only [List.length_drop, List.length_take]; rfl)) ?_; (with_reducible refine (caduceusref02_Valid.calls k a1 t176 _ A6.out).mono ?_); rintro e w8 ⟨rfl, hb⟩; refine ⟨_, rfl, ?_⟩; have n0_ := Aside0.mk (below_step (by repeat (first | (with_reducible first | exact HB.out | apply below_alloc | apply pw_below_drewN | apply below_drew1) | exact HB.out)) hb); clear HB; have HB := n0_; clear n0_; (try clear hb); (try clear hb2); (try clear hk); (try clear hi)))
    (try simp only [Act.put, List.setIfInBounds_toArray, List.set_cons_zero, List.set_cons_succ])
    go_cut [5] (fun v5 wc => ∃ (kq : Nat) (x5_6 : Int), v5 = .int .i64 x5_6 ∧ Aside0 (caduceuslaw02_NameRunes.j0 kq a0 a1 x5_6 = some r) ∧ Aside0 (kq ≤ k) ∧ Aside0 (Below w.heap.size w wc))
    case first =>
      have H := HC7.out
      clear HC7
      by_cases c9 : t176 = true
      · subst c9
        have H1 : ((caduceusref02_Runes.f k a1).bind fun t177 => (caduceuslaw02_NameRunes.j0 k a0 a1 (t177.length : Int))) = some r := by rw [if_pos rfl] at H; exact H
        clear H
        have H := H1
        clear H1
        replace H := Option.bind_eq_some_iff.mp H
        obtain ⟨t177, A100, H⟩ := H
        replace H : (caduceuslaw02_NameRunes.j0 k a0 a1 (t177.length : Int)) = some r := H
        have A10 := Aside0.mk A100
        clear A100
        have H' := Aside0.mk H
        clear H
        go_wp2_with (first | ((with_reducible refine gate_callee (f := 17) rfl ?_); refine goesL_ (some 13) rfl rfl Tryd.func17 (by kernel_rfl) rfl #[.string a1] rfl (by (try simp only [List.map_toArray, List.map_cons, List.map_nil]); first | done | rfl | (simp only [List.length_drop, List.length_take]; rfl)) ?_; (with_reducible refine (caduceusref02_Runes.calls k a1 t177 _ A10.out).mono ?_); rintro e w11 ⟨v178, rfl, ho0, hb⟩; refine ⟨_, rfl, ?_⟩; have n0_ := Aside0.mk (Kd.R_lower ho0 (below_size (by repeat (first | (with_reducible first | exact HB.out | apply below_alloc | apply pw_below_drewN | apply below_drew1) | exact HB.out)))); have n1_ := Aside0.mk (below_step (by repeat (first | (with_reducible first | exact HB.out | apply below_alloc | apply pw_below_drewN | apply below_drew1) | exact HB.out)) hb); clear HB; have HO179 := n0_; have HB := n1_; clear n0_ n1_; (try clear hb); (try clear hb2); (try clear hk); (try clear hi); (try clear ho0); obtain ⟨Ao12, co12, eo12⟩ := Kd.R_slice HO179.out; subst eo12))
        go_meet
        case rel => exact ⟨_, ((t177.length : Int)), (by first | rfl | (simp; done) | (simp [*]; done)), H', ⟨by first | omega | exact Nat.le_refl _⟩, ⟨by repeat (first | (with_reducible first | exact HB.out | apply below_alloc | apply pw_below_drewN | apply below_drew1) | exact HB.out)⟩⟩
      · replace c9 := Bool.eq_false_iff.mpr c9
        subst c9
        have H1 : (caduceuslaw02_NameRunes.j0 k a0 a1 (-1)) = some r := by rw [if_neg (show ¬ (false = true) by decide)] at H; exact H
        clear H
        have H := H1
        clear H1
        have H' := Aside0.mk H
        clear H
        go_wp2
        go_meet
        case rel => exact ⟨_, ((-1)), (by first | rfl | (simp; done) | (simp [*]; done)), H', ⟨by first | omega | exact Nat.le_refl _⟩, ⟨by repeat (first | (with_reducible first | exact HB.out | apply below_alloc | apply pw_below_drewN | apply below_drew1) | exact HB.out)⟩⟩
    case rest =>
      clear HC7
      try clear c1
      try clear p2
      try clear c3
      try clear c3b0
      try clear c3b1
      try clear c4
      try clear c9
      try clear c10
      obtain ⟨kq, x5_6, rfl, HA, HJ6, HB⟩ := hcut
      cases kq with
      | zero => exact absurd HA.out (by simp [caduceuslaw02_NameRunes.j0])
      | succ kj6 =>
        have H := HA.out
        clear HA
        simp only [caduceuslaw02_NameRunes.j0] at H
        replace H := Option.bind_eq_some_iff.mp H
        obtain ⟨t180, A130, H⟩ := H
        replace H : (if t180 = true then ((name_Letter.f kj6 a0).bind fun t181 => ((caduceusref02_Letter.f kj6 (wrap64 (a0))).bind fun t182 => (if (t181 == t182) = true then ((name_Small.f a0).bind fun t183 => ((caduceusref02_Small.f (wrap64 (a0))).bind fun t184 => (if (wrap64 (t183)) = t184 then ((name_Runes.f a1).bind fun t185 => (some (t185 == x5_6))) else none))) else none))) else none) = some r := H
        have A13 := Aside0.mk A130
        clear A130
        by_cases c14 : t180 = true
        · subst c14
          have H1 : ((name_Letter.f kj6 a0).bind fun t181 => ((caduceusref02_Letter.f kj6 (wrap64 (a0))).bind fun t182 => (if (t181 == t182) = true then ((name_Small.f a0).bind fun t183 => ((caduceusref02_Small.f (wrap64 (a0))).bind fun t184 => (if (wrap64 (t183)) = t184 then ((name_Runes.f a1).bind fun t185 => (some (t185 == x5_6))) else none))) else none))) = some r := by rw [if_pos rfl] at H; exact H
          clear H
          have H := H1
          clear H1
          replace H := Option.bind_eq_some_iff.mp H
          obtain ⟨t181, A150, H⟩ := H
          replace H : ((caduceusref02_Letter.f kj6 (wrap64 (a0))).bind fun t182 => (if (t181 == t182) = true then ((name_Small.f a0).bind fun t183 => ((caduceusref02_Small.f (wrap64 (a0))).bind fun t184 => (if (wrap64 (t183)) = t184 then ((name_Runes.f a1).bind fun t185 => (some (t185 == x5_6))) else none))) else none)) = some r := H
          have A15 := Aside0.mk A150
          clear A150
          replace H := Option.bind_eq_some_iff.mp H
          obtain ⟨t182, A160, H⟩ := H
          replace H : (if (t181 == t182) = true then ((name_Small.f a0).bind fun t183 => ((caduceusref02_Small.f (wrap64 (a0))).bind fun t184 => (if (wrap64 (t183)) = t184 then ((name_Runes.f a1).bind fun t185 => (some (t185 == x5_6))) else none))) else none) = some r := H
          have A16 := Aside0.mk A160
          clear A160
          by_cases c17 : (t181 == t182) = true
          · rw [if_pos c17] at H
            have c17b0 : (t181 == t182) = true := c17
            (try (have c17b1 : decide (t181 = t182) = true := by simpa using c17))
            (try (have c17b2 : (t181 == t182) = true := by simpa using c17))
            clear c17
            replace H := Option.bind_eq_some_iff.mp H
            obtain ⟨t183, A180, H⟩ := H
            replace H : ((caduceusref02_Small.f (wrap64 (a0))).bind fun t184 => (if (wrap64 (t183)) = t184 then ((name_Runes.f a1).bind fun t185 => (some (t185 == x5_6))) else none)) = some r := H
            have A18 := Aside0.mk A180
            clear A180
            replace H := Option.bind_eq_some_iff.mp H
            obtain ⟨t184, A190, H⟩ := H
            replace H : (if (wrap64 (t183)) = t184 then ((name_Runes.f a1).bind fun t185 => (some (t185 == x5_6))) else none) = some r := H
            have A19 := Aside0.mk A190
            clear A190
            by_cases c20 : (wrap64 (t183)) = t184
            · rw [if_pos c20] at H
              have c20b0 : ((wrap64 (t183)) == t184) = true := beq_iff_eq.mpr c20
              have c20b1 : ((wrap64 (t183)) != t184) = false := bne_eq_false_iff_eq.mpr c20
              clear c20
              replace H := Option.bind_eq_some_iff.mp H
              obtain ⟨t185, A210, H⟩ := H
              replace H : (some (t185 == x5_6)) = some r := H
              have A21 := Aside0.mk A210
              clear A210
              obtain rfl := Option.some.inj H
              go_wp2_with (first | ((with_reducible refine gate_callee (f := 10) rfl ?_); refine goesL_ (some 15) rfl rfl Tryd.func10 (by kernel_rfl) rfl #[] rfl (by (try simp only [List.map_toArray, List.map_cons, List.map_nil]); first | done | rfl | (simp only [List.length_drop, List.length_take]; rfl)) ?_; (with_reducible refine (caduceuslaw02_awake.calls kj6  true _ A13.out (NC.TabW.below HT.out (by repeat (first | (with_reducible first | exact HB.out | apply below_alloc | apply pw_below_drewN | apply below_drew1) | exact HB.out)))).mono ?_); rintro e w22 ⟨rfl, hb⟩; refine ⟨_, rfl, ?_⟩; have n0_ := Aside0.mk (below_step (by repeat (first | (with_reducible first | exact HB.out | apply below_alloc | apply pw_below_drewN | apply below_drew1) | exact HB.out)) hb); clear HB; have HB := n0_; clear n0_; (try clear hb); (try clear hb2); (try clear hk); (try clear hi)) | (go_at_call 18; (with_reducible refine (name_Letter.calls kj6 a0 t181 _ A15.out).mono ?_); rintro e w' ⟨rfl, ⟨nd, rfl⟩⟩) | (go_at_call 19; (with_reducible refine (caduceusref02_Letter.calls kj6 (wrap64 (a0)) t182 _ A16.out).mono ?_); rintro e w' ⟨rfl, ⟨nd, rfl⟩⟩) | (go_at_call 20; (with_reducible refine (name_Small.calls a0 t183 _ A18.out).mono ?_); rintro e w' ⟨rfl, ⟨nd, rfl⟩⟩) | (go_at_call 21; (with_reducible refine (caduceusref02_Small.calls (wrap64 (a0)) t184 _ A19.out).mono ?_); rintro e w' ⟨rfl, ⟨nd, rfl⟩⟩) | (go_at_call 22; (with_reducible refine (name_Runes.calls a1 t185 _ A21.out (NC.TabW.below HT.out (by repeat (first | (with_reducible first | exact HB.out | apply below_alloc | apply pw_below_drewN | apply below_drew1) | exact HB.out)))).mono ?_); rintro e w23 ⟨rfl, hb⟩; have n0_ := Aside0.mk (below_step (by repeat (first | (with_reducible first | exact HB.out | apply below_alloc | apply pw_below_drewN | apply below_drew1) | exact HB.out)) hb); clear HB; have HB := n0_; clear n0_; (try clear hb); (try clear hb2); (try clear hk); (try clear hi)))
              go_ret
              exact ⟨by first | rfl | (simp [errW_none, errW_some] <;> rfl) | (simp [*, errW_none, errW_some] <;> rfl), by repeat (first | (with_reducible first | exact HB.out | apply below_alloc | apply pw_below_drewN | apply below_drew1) | exact HB.out)⟩
            · rw [if_neg c20] at H
              cases H
          · rw [if_neg c17] at H
            cases H
        · replace c14 := Bool.eq_false_iff.mpr c14
          subst c14
          have H1 : (none : Option _) = some r := by rw [if_neg (show ¬ (false = true) by decide)] at H; exact H
          cases H1
/-- THE ONE PURE STATEMENT of caduceuslaw02_NameRunes: yours. -/
def caduceuslaw02_NameRunes.Pure : Prop := ∀ (a0 : Int) (a1 : ByteArray), (Lit.int .i32 a0).wf = true → a1.size ≤ 140737488351232 → ∃ k, caduceuslaw02_NameRunes.f k a0 a1 = some true
theorem caduceuslaw02_NameRunes.walk (P : caduceuslaw02_NameRunes.Pure) (a0 : Int) (a1 : ByteArray) (w : World) (w0 : (Lit.int .i32 a0).wf = true) (w1 : a1.size ≤ 140737488351232) (hT : NC.TabW w) :
    Calls Tryd.prog 4 #[.int .i32 a0, .string a1] w fun e w' => e = .returned (.bool true) ∧ Below w.heap.size w w' := by
  obtain ⟨k, h⟩ := P a0 a1 w0 w1
  refine (caduceuslaw02_NameRunes.calls k a0 a1 true w h hT).mono ?_
  rintro e w' ⟨rfl, hd⟩
  exact ⟨rfl, hd⟩

/-! ### cmp_isNaN_string: function 48 -/
def cmp_isNaN_string.f (a0 : ByteArray) : Option (Bool) := some (a0.toList != a0.toList)
set_option maxHeartbeats 8000000 in
set_option maxRecDepth 100000 in
theorem cmp_isNaN_string.calls (a0 : ByteArray) (r : Bool) (w : World) (h : cmp_isNaN_string.f a0 = some r) :
    Calls Tryd.prog 48 #[.string a0] w fun e w' => e = .returned (.bool r) ∧ Drawn0 w w' := by
  have H : (some (a0.toList != a0.toList)) = some r := h
  clear h
  obtain rfl := Option.some.inj H
  go_enter Tryd.func48, Tryd.ntmps48
  go_wp2
  go_ret
  exact ⟨by first | rfl | (simp; done) | (simp [*]; done), by repeat (first | exact Drawn0.refl _ | apply Drawn0.step)⟩

/-! ### cmp_Compare_string: function 38 (a contract of this session's own) -/
def cmp_Compare_string.f (a0 a1 : ByteArray) : Option Int := if Op.bytesLess a0.toList a1.toList = true then some (-1) else (if a0.toList == a1.toList then some 0 else some 1)
set_option maxHeartbeats 4000000 in
set_option maxRecDepth 100000 in
theorem cmp_Compare_string.calls (a0 a1 : ByteArray) (r : Int) (w : World) (h : cmp_Compare_string.f a0 a1 = some r) :
    Calls Tryd.prog 38 #[.string a0, .string a1] w fun e w' => e = .returned (.int .i64 r) ∧ Drawn0 w w' := by
  have hn : ∀ x : ByteArray, cmp_isNaN_string.f x = some false := by intro x; simp [cmp_isNaN_string.f]
  have N0 := Aside0.mk (hn a0)
  have N1 := Aside0.mk (hn a1)
  clear hn
  unfold cmp_Compare_string.f at h
  by_cases hl : Op.bytesLess a0.toList a1.toList = true
  · rw [if_pos hl] at h
    obtain rfl := Option.some.inj h
    clear h
    go_enter Tryd.func38, Tryd.ntmps38
    go_wp2_with fail
    refine (cmp_isNaN_string.calls a0 false _ N0.out).mono ?_
    rintro e w1 ⟨rfl, hdr⟩
    obtain ⟨n1, rfl⟩ := hdr.out
    go_wp2_with fail
    refine (cmp_isNaN_string.calls a1 false _ N1.out).mono ?_
    rintro e w2 ⟨rfl, hdr⟩
    obtain ⟨n2, rfl⟩ := hdr.out
    go_wp2
    go_ret
    exact ⟨rfl, ⟨_, rfl⟩⟩
  · have hl2 : Op.bytesLess a0.toList a1.toList = false := by simpa using hl
    rw [if_neg hl] at h
    by_cases he : (a0.toList == a1.toList) = true
    · rw [if_pos he] at h
      obtain rfl := Option.some.inj h
      clear h hl
      go_enter Tryd.func38, Tryd.ntmps38
      go_wp2_with fail
      refine (cmp_isNaN_string.calls a0 false _ N0.out).mono ?_
      rintro e w1 ⟨rfl, hdr⟩
      obtain ⟨n1, rfl⟩ := hdr.out
      go_wp2_with fail
      refine (cmp_isNaN_string.calls a1 false _ N1.out).mono ?_
      rintro e w2 ⟨rfl, hdr⟩
      obtain ⟨n2, rfl⟩ := hdr.out
      go_wp2
      go_ret
      exact ⟨rfl, ⟨_, rfl⟩⟩
    · have he2 : (a0.toList == a1.toList) = false := by simpa using he
      rw [if_neg he] at h
      obtain rfl := Option.some.inj h
      clear h hl he
      go_enter Tryd.func38, Tryd.ntmps38
      go_wp2_with fail
      refine (cmp_isNaN_string.calls a0 false _ N0.out).mono ?_
      rintro e w1 ⟨rfl, hdr⟩
      obtain ⟨n1, rfl⟩ := hdr.out
      go_wp2_with fail
      refine (cmp_isNaN_string.calls a1 false _ N1.out).mono ?_
      rintro e w2 ⟨rfl, hdr⟩
      obtain ⟨n2, rfl⟩ := hdr.out
      go_wp2
      go_ret
      exact ⟨rfl, ⟨_, rfl⟩⟩

/-! ### cmp_isNaN_rune: function 54 -/
def cmp_isNaN_rune.f (a0 : Int) : Option (Bool) := some (a0 != a0)
set_option maxHeartbeats 8000000 in
set_option maxRecDepth 100000 in
theorem cmp_isNaN_rune.calls (a0 : Int) (r : Bool) (w : World) (h : cmp_isNaN_rune.f a0 = some r) :
    Calls Tryd.prog 54 #[.int .i32 a0] w fun e w' => e = .returned (.bool r) ∧ Drawn0 w w' := by
  have H : (some (a0 != a0)) = some r := h
  clear h
  obtain rfl := Option.some.inj H
  go_enter Tryd.func54, Tryd.ntmps54
  go_wp2
  go_ret
  exact ⟨by first | rfl | (simp; done) | (simp [*]; done), by repeat (first | exact Drawn0.refl _ | apply Drawn0.step)⟩

/-! ### cmp_Compare_rune: function 49 -/
def cmp_Compare_rune.f (a0 : Int) (a1 : Int) : Option (Int) := (cmp_isNaN_rune.f a0).bind fun t186 => ((cmp_isNaN_rune.f a1).bind fun t187 => (if t186 = true then (if t187 = true then (some 0) else (some (-1))) else (if t187 = true then (some 1) else (if a0 < a1 then (some (-1)) else (if a0 > a1 then (some 1) else (some 0))))))
set_option maxHeartbeats 8000000 in
set_option maxRecDepth 100000 in
theorem cmp_Compare_rune.calls (a0 : Int) (a1 : Int) (r : Int) (w : World) (h : cmp_Compare_rune.f a0 a1 = some r) :
    Calls Tryd.prog 49 #[.int .i32 a0, .int .i32 a1] w fun e w' => e = .returned (.int .i64 r) ∧ Drawn0 w w' := by
  have H : ((cmp_isNaN_rune.f a0).bind fun t186 => ((cmp_isNaN_rune.f a1).bind fun t187 => (if t186 = true then (if t187 = true then (some 0) else (some (-1))) else (if t187 = true then (some 1) else (if a0 < a1 then (some (-1)) else (if a0 > a1 then (some 1) else (some 0))))))) = some r := h
  clear h
  replace H := Option.bind_eq_some_iff.mp H
  obtain ⟨t186, A30, H⟩ := H
  replace H : ((cmp_isNaN_rune.f a1).bind fun t187 => (if t186 = true then (if t187 = true then (some 0) else (some (-1))) else (if t187 = true then (some 1) else (if a0 < a1 then (some (-1)) else (if a0 > a1 then (some 1) else (some 0)))))) = some r := H
  have A3 := Aside0.mk A30
  clear A30
  replace H := Option.bind_eq_some_iff.mp H
  obtain ⟨t187, A40, H⟩ := H
  replace H : (if t186 = true then (if t187 = true then (some 0) else (some (-1))) else (if t187 = true then (some 1) else (if a0 < a1 then (some (-1)) else (if a0 > a1 then (some 1) else (some 0))))) = some r := H
  have A4 := Aside0.mk A40
  clear A40
  by_cases c5 : t186 = true
  · subst c5
    have H1 : (if t187 = true then (some 0) else (some (-1))) = some r := by rw [if_pos rfl] at H; exact H
    clear H
    have H := H1
    clear H1
    by_cases c6 : t187 = true
    · subst c6
      have H1 : (some 0) = some r := by rw [if_pos rfl] at H; exact H
      clear H
      have H := H1
      clear H1
      obtain rfl := Option.some.inj H
      go_enter Tryd.func49, Tryd.ntmps49
      go_wp2_with (first | ((with_reducible refine gate_callee (f := 54) rfl ?_); refine goesL_ (some 8) rfl rfl Tryd.func54 (by kernel_rfl) rfl #[.int .i32 a0] rfl (by (try simp only [List.map_toArray, List.map_cons, List.map_nil]); first | done | rfl | (simp only [List.length_drop, List.length_take]; rfl)) ?_; (with_reducible refine (cmp_isNaN_rune.calls a0 true _ A3.out).mono ?_); rintro e w' ⟨rfl, ⟨nd, rfl⟩⟩; refine ⟨_, rfl, ?_⟩) | ((with_reducible refine gate_callee (f := 54) rfl ?_); refine goesL_ (some 10) rfl rfl Tryd.func54 (by kernel_rfl) rfl #[.int .i32 a1] rfl (by (try simp only [List.map_toArray, List.map_cons, List.map_nil]); first | done | rfl | (simp only [List.length_drop, List.length_take]; rfl)) ?_; (with_reducible refine (cmp_isNaN_rune.calls a1 true _ A4.out).mono ?_); rintro e w' ⟨rfl, ⟨nd, rfl⟩⟩; refine ⟨_, rfl, ?_⟩))
      go_ret
      exact ⟨by first | rfl | (simp; done) | (simp [*]; done), by repeat (first | exact Drawn0.refl _ | apply Drawn0.step)⟩
    · replace c6 := Bool.eq_false_iff.mpr c6
      subst c6
      have H1 : (some (-1)) = some r := by rw [if_neg (show ¬ (false = true) by decide)] at H; exact H
      clear H
      have H := H1
      clear H1
      obtain rfl := Option.some.inj H
      go_enter Tryd.func49, Tryd.ntmps49
      go_wp2_with (first | ((with_reducible refine gate_callee (f := 54) rfl ?_); refine goesL_ (some 8) rfl rfl Tryd.func54 (by kernel_rfl) rfl #[.int .i32 a0] rfl (by (try simp only [List.map_toArray, List.map_cons, List.map_nil]); first | done | rfl | (simp only [List.length_drop, List.length_take]; rfl)) ?_; (with_reducible refine (cmp_isNaN_rune.calls a0 true _ A3.out).mono ?_); rintro e w' ⟨rfl, ⟨nd, rfl⟩⟩; refine ⟨_, rfl, ?_⟩) | ((with_reducible refine gate_callee (f := 54) rfl ?_); refine goesL_ (some 10) rfl rfl Tryd.func54 (by kernel_rfl) rfl #[.int .i32 a1] rfl (by (try simp only [List.map_toArray, List.map_cons, List.map_nil]); first | done | rfl | (simp only [List.length_drop, List.length_take]; rfl)) ?_; (with_reducible refine (cmp_isNaN_rune.calls a1 false _ A4.out).mono ?_); rintro e w' ⟨rfl, ⟨nd, rfl⟩⟩; refine ⟨_, rfl, ?_⟩))
      go_ret
      exact ⟨by first | rfl | (simp; done) | (simp [*]; done), by repeat (first | exact Drawn0.refl _ | apply Drawn0.step)⟩
  · replace c5 := Bool.eq_false_iff.mpr c5
    subst c5
    have H1 : (if t187 = true then (some 1) else (if a0 < a1 then (some (-1)) else (if a0 > a1 then (some 1) else (some 0)))) = some r := by rw [if_neg (show ¬ (false = true) by decide)] at H; exact H
    clear H
    have H := H1
    clear H1
    by_cases c7 : t187 = true
    · subst c7
      have H1 : (some 1) = some r := by rw [if_pos rfl] at H; exact H
      clear H
      have H := H1
      clear H1
      obtain rfl := Option.some.inj H
      go_enter Tryd.func49, Tryd.ntmps49
      go_wp2_with (first | ((with_reducible refine gate_callee (f := 54) rfl ?_); refine goesL_ (some 8) rfl rfl Tryd.func54 (by kernel_rfl) rfl #[.int .i32 a0] rfl (by (try simp only [List.map_toArray, List.map_cons, List.map_nil]); first | done | rfl | (simp only [List.length_drop, List.length_take]; rfl)) ?_; (with_reducible refine (cmp_isNaN_rune.calls a0 false _ A3.out).mono ?_); rintro e w' ⟨rfl, ⟨nd, rfl⟩⟩; refine ⟨_, rfl, ?_⟩) | ((with_reducible refine gate_callee (f := 54) rfl ?_); refine goesL_ (some 10) rfl rfl Tryd.func54 (by kernel_rfl) rfl #[.int .i32 a1] rfl (by (try simp only [List.map_toArray, List.map_cons, List.map_nil]); first | done | rfl | (simp only [List.length_drop, List.length_take]; rfl)) ?_; (with_reducible refine (cmp_isNaN_rune.calls a1 true _ A4.out).mono ?_); rintro e w' ⟨rfl, ⟨nd, rfl⟩⟩; refine ⟨_, rfl, ?_⟩))
      go_ret
      exact ⟨by first | rfl | (simp; done) | (simp [*]; done), by repeat (first | exact Drawn0.refl _ | apply Drawn0.step)⟩
    · replace c7 := Bool.eq_false_iff.mpr c7
      subst c7
      have H1 : (if a0 < a1 then (some (-1)) else (if a0 > a1 then (some 1) else (some 0))) = some r := by rw [if_neg (show ¬ (false = true) by decide)] at H; exact H
      clear H
      have H := H1
      clear H1
      by_cases c8 : a0 < a1
      · rw [if_pos c8] at H
        have c8b0 : decide (a0 < a1) = true := decide_eq_true c8
        clear c8
        obtain rfl := Option.some.inj H
        go_enter Tryd.func49, Tryd.ntmps49
        go_wp2_with (first | ((with_reducible refine gate_callee (f := 54) rfl ?_); refine goesL_ (some 8) rfl rfl Tryd.func54 (by kernel_rfl) rfl #[.int .i32 a0] rfl (by (try simp only [List.map_toArray, List.map_cons, List.map_nil]); first | done | rfl | (simp only [List.length_drop, List.length_take]; rfl)) ?_; (with_reducible refine (cmp_isNaN_rune.calls a0 false _ A3.out).mono ?_); rintro e w' ⟨rfl, ⟨nd, rfl⟩⟩; refine ⟨_, rfl, ?_⟩) | ((with_reducible refine gate_callee (f := 54) rfl ?_); refine goesL_ (some 10) rfl rfl Tryd.func54 (by kernel_rfl) rfl #[.int .i32 a1] rfl (by (try simp only [List.map_toArray, List.map_cons, List.map_nil]); first | done | rfl | (simp only [List.length_drop, List.length_take]; rfl)) ?_; (with_reducible refine (cmp_isNaN_rune.calls a1 false _ A4.out).mono ?_); rintro e w' ⟨rfl, ⟨nd, rfl⟩⟩; refine ⟨_, rfl, ?_⟩))
        go_ret
        exact ⟨by first | rfl | (simp; done) | (simp [*]; done), by repeat (first | exact Drawn0.refl _ | apply Drawn0.step)⟩
      · rw [if_neg c8] at H
        have c8b0 : decide (a0 < a1) = false := decide_eq_false c8
        clear c8
        by_cases c9 : a0 > a1
        · rw [if_pos c9] at H
          have c9b0 : decide (a1 < a0) = true := decide_eq_true c9
          clear c9
          obtain rfl := Option.some.inj H
          go_enter Tryd.func49, Tryd.ntmps49
          go_wp2_with (first | ((with_reducible refine gate_callee (f := 54) rfl ?_); refine goesL_ (some 8) rfl rfl Tryd.func54 (by kernel_rfl) rfl #[.int .i32 a0] rfl (by (try simp only [List.map_toArray, List.map_cons, List.map_nil]); first | done | rfl | (simp only [List.length_drop, List.length_take]; rfl)) ?_; (with_reducible refine (cmp_isNaN_rune.calls a0 false _ A3.out).mono ?_); rintro e w' ⟨rfl, ⟨nd, rfl⟩⟩; refine ⟨_, rfl, ?_⟩) | ((with_reducible refine gate_callee (f := 54) rfl ?_); refine goesL_ (some 10) rfl rfl Tryd.func54 (by kernel_rfl) rfl #[.int .i32 a1] rfl (by (try simp only [List.map_toArray, List.map_cons, List.map_nil]); first | done | rfl | (simp only [List.length_drop, List.length_take]; rfl)) ?_; (with_reducible refine (cmp_isNaN_rune.calls a1 false _ A4.out).mono ?_); rintro e w' ⟨rfl, ⟨nd, rfl⟩⟩; refine ⟨_, rfl, ?_⟩))
          go_ret
          exact ⟨by first | rfl | (simp; done) | (simp [*]; done), by repeat (first | exact Drawn0.refl _ | apply Drawn0.step)⟩
        · rw [if_neg c9] at H
          have c9b0 : decide (a1 < a0) = false := decide_eq_false c9
          clear c9
          obtain rfl := Option.some.inj H
          go_enter Tryd.func49, Tryd.ntmps49
          go_wp2_with (first | ((with_reducible refine gate_callee (f := 54) rfl ?_); refine goesL_ (some 8) rfl rfl Tryd.func54 (by kernel_rfl) rfl #[.int .i32 a0] rfl (by (try simp only [List.map_toArray, List.map_cons, List.map_nil]); first | done | rfl | (simp only [List.length_drop, List.length_take]; rfl)) ?_; (with_reducible refine (cmp_isNaN_rune.calls a0 false _ A3.out).mono ?_); rintro e w' ⟨rfl, ⟨nd, rfl⟩⟩; refine ⟨_, rfl, ?_⟩) | ((with_reducible refine gate_callee (f := 54) rfl ?_); refine goesL_ (some 10) rfl rfl Tryd.func54 (by kernel_rfl) rfl #[.int .i32 a1] rfl (by (try simp only [List.map_toArray, List.map_cons, List.map_nil]); first | done | rfl | (simp only [List.length_drop, List.length_take]; rfl)) ?_; (with_reducible refine (cmp_isNaN_rune.calls a1 false _ A4.out).mono ?_); rintro e w' ⟨rfl, ⟨nd, rfl⟩⟩; refine ⟨_, rfl, ?_⟩))
          go_ret
          exact ⟨by first | rfl | (simp; done) | (simp [*]; done), by repeat (first | exact Drawn0.refl _ | apply Drawn0.step)⟩

/-! ### slices_Compare_rune_rune: function 39 -/
def slices_Compare_rune_rune.l0 : Nat → List Int → List Int → List Int → Int → Int → Option (Int)
  | 0, _, _, _, _, _ => none
  | k + 1, x0, x1, x9, x10, x11 => if x11 < x10 then (if 0 ≤ x11 then (if x11 < (x9.length : Int) then (if x11 ≥ (x1.length : Int) then (some 1) else (if x11 < (x1.length : Int) then ((cmp_Compare_rune.f (rd x9 x11) (rd x1 x11)).bind fun t190 => (if t190 = 0 then (slices_Compare_rune_rune.l0 k x0 x1 x9 x10 (wrap64 (x11 + 1))) else (some t190))) else (none))) else (none)) else (none)) else (if (x0.length : Int) < (x1.length : Int) then (some (-1)) else (some 0))
def slices_Compare_rune_rune.f (k : Nat) (l0 : List Int) (l1 : List Int) : Option (Int) := slices_Compare_rune_rune.l0 k l0 l1 l0 (l0.length : Int) 0
theorem slices_Compare_rune_rune.mono_l : ∀ k, (∀ y0 y1 y2 y3 y4, LeO (slices_Compare_rune_rune.l0 k y0 y1 y2 y3 y4) (slices_Compare_rune_rune.l0 (k + 1) y0 y1 y2 y3 y4))
  | 0 => fun _ _ _ _ _ r h => by simp [slices_Compare_rune_rune.l0] at h
  | k + 1 => by
    have ih0 := slices_Compare_rune_rune.mono_l k
    · intro y0 y1 y2 y3 y4
      unfold slices_Compare_rune_rune.l0
      repeat' first
      | (with_reducible exact ih0 _ _ _ _ _)
      | (with_reducible exact LeO.refl _)
      | (with_reducible exact LeO.none _)
      | (with_reducible refine LeO.ite ?_ ?_)
      | (with_reducible refine LeO.bind ?_ (fun _ => ?_))
      | exact ih0 _ _ _ _ _
      | exact LeO.none _
      | refine LeO.ite ?_ ?_
      | refine LeO.bind ?_ (fun _ => ?_)
theorem slices_Compare_rune_rune.mono : ∀ a0 a1 k, LeO (slices_Compare_rune_rune.f k a0 a1) (slices_Compare_rune_rune.f (k + 1) a0 a1) := by
  intro a0 a1 k
  have ih0 := slices_Compare_rune_rune.mono_l k
  unfold slices_Compare_rune_rune.f
  repeat' first
      | (with_reducible exact ih0 _ _ _ _ _)
      | (with_reducible exact LeO.refl _)
      | (with_reducible exact LeO.none _)
      | (with_reducible refine LeO.ite ?_ ?_)
      | (with_reducible refine LeO.bind ?_ (fun _ => ?_))
      | exact ih0 _ _ _ _ _
      | exact LeO.none _
      | refine LeO.ite ?_ ?_
      | refine LeO.bind ?_ (fun _ => ?_)
set_option maxHeartbeats 8000000 in
set_option maxRecDepth 100000 in
theorem slices_Compare_rune_rune.calls (k : Nat) (A0 : Option Addr) (c0 : Nat) (l0 : List Int) (A1 : Option Addr) (c1 : Nat) (l1 : List Int) (r : Int) (w : World) (hr0 : Kd.C (Kd.int .i32) w A0 l0.length l0) (hc0 : l0.length ≤ c0) (hr1 : Kd.C (Kd.int .i32) w A1 l1.length l1) (hc1 : l1.length ≤ c1) (h : slices_Compare_rune_rune.f k l0 l1 = some r) :
    Calls Tryd.prog 39 #[.slice A0 l0.length c0, .slice A1 l1.length c1] w fun e w' => e = .returned (.int .i64 r) ∧ Drawn0 w w' := by
  have HR0 := Aside0.mk hr0
  have HC0 := Aside0.mk hc0
  clear hr0 hc0
  have HR1 := Aside0.mk hr1
  have HC1 := Aside0.mk hc1
  clear hr1 hc1
  have H : (slices_Compare_rune_rune.l0 k l0 l1 l0 (l0.length : Int) 0) = some r := h
  clear h
  have H' := Aside0.mk H
  clear H
  go_enter Tryd.func39, Tryd.ntmps39
  go_wp2
  go_loopg [11] k (fun kq v11 w' => ∃ (x11_1 : Int), v11 = .int .i64 x11_1 ∧ Aside0 (slices_Compare_rune_rune.l0 kq l0 l1 l0 (l0.length : Int) x11_1 = some r) ∧ Aside0 (kq ≤ k) ∧ Drawn0 w w')
  case atStart => exact ⟨(0), (by first | rfl | (simp; done) | (simp [*]; done)), H', ⟨Nat.le_refl _⟩, by repeat (first | exact Drawn0.refl _ | apply Drawn0.step)⟩
  case round =>
    clear H'
    try clear c1
    try clear p2
    obtain ⟨x11_1, rfl, HA, HK1, ⟨m1, rfl⟩⟩ := hrel
    cases gk with
    | zero => exact absurd HA.out (by simp [slices_Compare_rune_rune.l0])
    | succ k1 =>
      have H := HA.out
      clear HA
      simp only [slices_Compare_rune_rune.l0] at H
      by_cases c3 : x11_1 < (l0.length : Int)
      · rw [if_pos c3] at H
        have c3b0 : decide (x11_1 < (l0.length : Int)) = true := decide_eq_true c3
        clear c3
        by_cases c4 : 0 ≤ x11_1
        · rw [if_pos c4] at H
          have c4b0 : decide (0 ≤ x11_1) = true := decide_eq_true c4
          clear c4
          by_cases c5 : x11_1 < (l0.length : Int)
          · rw [if_pos c5] at H
            have c5b0 : decide (x11_1 < (l0.length : Int)) = true := decide_eq_true c5
            clear c5
            by_cases c6 : x11_1 ≥ (l1.length : Int)
            · rw [if_pos c6] at H
              have c6b0 : decide ((l1.length : Int) ≤ x11_1) = true := decide_eq_true c6
              clear c6
              obtain rfl := Option.some.inj H
              have p188 : 0 ≤ (x11_1 : Int) := of_decide_eq_true (by first | (with_reducible assumption) | assumption)
              have q188 : x11_1 < (l0.length : Int) := of_decide_eq_true (by first | (with_reducible assumption) | assumption)
              obtain ⟨ad188, e188, hx188_0⟩ := Kd.at_int HR0.out x11_1 p188 q188
              cases e188
              replace p188 := eq_true p188
              replace q188 := eq_true q188
              go_wp2
              go_ret
              exact ⟨by first | rfl | (simp; done) | (simp [*]; done), by repeat (first | exact Drawn0.refl _ | apply Drawn0.step)⟩
            · rw [if_neg c6] at H
              have c6b0 : decide ((l1.length : Int) ≤ x11_1) = false := decide_eq_false c6
              clear c6
              by_cases c7 : x11_1 < (l1.length : Int)
              · rw [if_pos c7] at H
                have c7b0 : decide (x11_1 < (l1.length : Int)) = true := decide_eq_true c7
                clear c7
                replace H := Option.bind_eq_some_iff.mp H
                obtain ⟨t190, A80, H⟩ := H
                replace H : (if t190 = 0 then (slices_Compare_rune_rune.l0 k1 l0 l1 l0 (l0.length : Int) (wrap64 (x11_1 + 1))) else (some t190)) = some r := H
                have A8 := Aside0.mk A80
                clear A80
                by_cases c9 : t190 = 0
                · rw [if_pos c9] at H
                  have c9b0 : (t190 == 0) = true := beq_iff_eq.mpr c9
                  have c9b1 : (t190 != 0) = false := bne_eq_false_iff_eq.mpr c9
                  clear c9
                  have H' := Aside0.mk H
                  clear H
                  have p188 : 0 ≤ (x11_1 : Int) := of_decide_eq_true (by first | (with_reducible assumption) | assumption)
                  have q188 : x11_1 < (l0.length : Int) := of_decide_eq_true (by first | (with_reducible assumption) | assumption)
                  obtain ⟨ad188, e188, hx188_0⟩ := Kd.at_int HR0.out x11_1 p188 q188
                  cases e188
                  replace p188 := eq_true p188
                  replace q188 := eq_true q188
                  have p189 : 0 ≤ (x11_1 : Int) := of_decide_eq_true (by first | (with_reducible assumption) | assumption)
                  have q189 : x11_1 < (l1.length : Int) := of_decide_eq_true (by first | (with_reducible assumption) | assumption)
                  obtain ⟨ad189, e189, hx189_0⟩ := Kd.at_int HR1.out x11_1 p189 q189
                  cases e189
                  replace p189 := eq_true p189
                  replace q189 := eq_true q189
                  go_wp2_with (first | ((with_reducible refine gate_callee (f := 49) rfl ?_); refine goesL_ (some 26) rfl rfl Tryd.func49 (by kernel_rfl) rfl #[.int .i32 (rd l0 x11_1), .int .i32 (rd l1 x11_1)] rfl (by (try simp only [List.map_toArray, List.map_cons, List.map_nil]); first | done | rfl | (simp only [List.length_drop, List.length_take]; rfl)) ?_; (with_reducible refine (cmp_Compare_rune.calls (rd l0 x11_1) (rd l1 x11_1) t190 _ A8.out).mono ?_); rintro e w' ⟨rfl, ⟨nd, rfl⟩⟩; refine ⟨_, rfl, ?_⟩))
                  go_roundg k1
                  case measure => have := HK1.out; omega
                  case rel => exact ⟨(wrap64 (x11_1 + 1)), (by first | rfl | (simp; done) | (simp [*]; done)), H', ⟨by have := HK1.out; omega⟩, by repeat (first | exact Drawn0.refl _ | apply Drawn0.step)⟩
                · rw [if_neg c9] at H
                  have c9b0 : (t190 == 0) = false := beq_eq_false_iff_ne.mpr c9
                  have c9b1 : (t190 != 0) = true := bne_iff_ne.mpr c9
                  obtain rfl := Option.some.inj H
                  have p188 : 0 ≤ (x11_1 : Int) := of_decide_eq_true (by first | (with_reducible assumption) | assumption)
                  have q188 : x11_1 < (l0.length : Int) := of_decide_eq_true (by first | (with_reducible assumption) | assumption)
                  obtain ⟨ad188, e188, hx188_0⟩ := Kd.at_int HR0.out x11_1 p188 q188
                  cases e188
                  replace p188 := eq_true p188
                  replace q188 := eq_true q188
                  have p189 : 0 ≤ (x11_1 : Int) := of_decide_eq_true (by first | (with_reducible assumption) | assumption)
                  have q189 : x11_1 < (l1.length : Int) := of_decide_eq_true (by first | (with_reducible assumption) | assumption)
                  obtain ⟨ad189, e189, hx189_0⟩ := Kd.at_int HR1.out x11_1 p189 q189
                  cases e189
                  replace p189 := eq_true p189
                  replace q189 := eq_true q189
                  go_wp2_with (first | ((with_reducible refine gate_callee (f := 49) rfl ?_); refine goesL_ (some 26) rfl rfl Tryd.func49 (by kernel_rfl) rfl #[.int .i32 (rd l0 x11_1), .int .i32 (rd l1 x11_1)] rfl (by (try simp only [List.map_toArray, List.map_cons, List.map_nil]); first | done | rfl | (simp only [List.length_drop, List.length_take]; rfl)) ?_; (with_reducible refine (cmp_Compare_rune.calls (rd l0 x11_1) (rd l1 x11_1) t190 _ A8.out).mono ?_); rintro e w' ⟨rfl, ⟨nd, rfl⟩⟩; refine ⟨_, rfl, ?_⟩))
                  go_ret
                  exact ⟨by first | rfl | (simp; done) | (simp [*]; done), by repeat (first | exact Drawn0.refl _ | apply Drawn0.step)⟩
              · rw [if_neg c7] at H
                exact absurd H (by simp)
          · rw [if_neg c5] at H
            exact absurd H (by simp)
        · rw [if_neg c4] at H
          exact absurd H (by simp)
      · rw [if_neg c3] at H
        have c3b0 : decide (x11_1 < (l0.length : Int)) = false := decide_eq_false c3
        clear c3
        by_cases c10 : (l0.length : Int) < (l1.length : Int)
        · rw [if_pos c10] at H
          have c10b0 : decide ((l0.length : Int) < (l1.length : Int)) = true := decide_eq_true c10
          have c10b1 : decide (l0.length < l1.length) = true := decide_eq_true (Int.ofNat_lt.mp c10)
          clear c10
          obtain rfl := Option.some.inj H
          go_wp2
          go_ret
          exact ⟨by first | rfl | (simp; done) | (simp [*]; done), by repeat (first | exact Drawn0.refl _ | apply Drawn0.step)⟩
        · rw [if_neg c10] at H
          have c10b0 : decide ((l0.length : Int) < (l1.length : Int)) = false := decide_eq_false c10
          have c10b1 : decide (l0.length < l1.length) = false := decide_eq_false (fun h => c10 (Int.ofNat_lt.mpr h))
          clear c10
          obtain rfl := Option.some.inj H
          go_wp2
          go_ret
          exact ⟨by first | rfl | (simp; done) | (simp [*]; done), by repeat (first | exact Drawn0.refl _ | apply Drawn0.step)⟩

/-! ### name_Compare: function 23 (a contract of this session's own) -/
def name_Compare.f (k : Nat) (a0 a1 : ByteArray) : Option Int := if a0.size ≤ 17592186044416 then (if a1.size ≤ 17592186044416 then (if Lib.validD (NC.foldB a0).data.toList = true then (if Lib.validD (NC.foldB a1).data.toList = true then slices_Compare_rune_rune.f k (NC.runes (NC.foldB a0)) (NC.runes (NC.foldB a1)) else cmp_Compare_string.f (NC.foldB a0) (NC.foldB a1)) else cmp_Compare_string.f (NC.foldB a0) (NC.foldB a1)) else none) else none
theorem name_Compare.mono : ∀ a0 a1 k, LeO (name_Compare.f k a0 a1) (name_Compare.f (k + 1) a0 a1) := by
  intro a0 a1 k
  unfold name_Compare.f
  exact LeO.ite (LeO.ite (LeO.ite (LeO.ite (slices_Compare_rune_rune.mono _ _ _) (LeO.refl _)) (LeO.refl _)) (LeO.refl _)) (LeO.refl _)
theorem name_Compare.size (s : ByteArray) : (NC.foldB s).size ≤ 4 * s.size := by
  unfold NC.foldB
  split
  · have h1 := runesBytes_size_le ((NC.runes s).map NC.smallZ)
    have h2 := NC.runes_len s
    rw [List.length_map] at h1
    omega
  · omega
set_option maxHeartbeats 4000000 in
set_option maxRecDepth 100000 in
theorem name_Compare.calls (k : Nat) (a0 a1 : ByteArray) (r : Int) (w : World) (h : name_Compare.f k a0 a1 = some r) (hT : NC.TabW w) :
    Calls Tryd.prog 23 #[.string a0, .string a1] w fun e w' => e = .returned (.int .i64 r) ∧ Below w.heap.size w w' := by
  unfold name_Compare.f at h
  by_cases hs0 : a0.size ≤ 17592186044416
  case neg => rw [if_neg hs0] at h; cases h
  rw [if_pos hs0] at h
  by_cases hs1 : a1.size ≤ 17592186044416
  case neg => rw [if_neg hs1] at h; cases h
  rw [if_pos hs1] at h
  have hz0 := name_Compare.size a0
  have hz1 := name_Compare.size a1
  have hf0 : name_Fold.f a0 = some (NC.foldB a0) := by unfold name_Fold.f; rw [if_pos hs0]
  have hf1 : name_Fold.f a1 = some (NC.foldB a1) := by unfold name_Fold.f; rw [if_pos hs1]
  generalize NC.foldB a0 = x at *
  generalize NC.foldB a1 = y at *
  have F0 := Aside0.mk hf0
  have F1 := Aside0.mk hf1
  have HT := Aside0.mk hT
  have V0 := Aside0.mk (show utf8_ValidString.f x = some (Lib.validD x.data.toList) by unfold utf8_ValidString.f; rw [if_pos (by omega)])
  have V1 := Aside0.mk (show utf8_ValidString.f y = some (Lib.validD y.data.toList) by unfold utf8_ValidString.f; rw [if_pos (by omega)])
  have S0 := Aside0.mk (show x.size ≤ 70368744177664 by omega)
  have S1 := Aside0.mk (show y.size ≤ 70368744177664 by omega)
  clear hf0 hf1 hz0 hz1 hs0 hs1 hT
  by_cases hv0 : Lib.validD x.data.toList = true
  · rw [if_pos hv0] at h
    rw [hv0] at V0
    by_cases hv1 : Lib.validD y.data.toList = true
    · rw [if_pos hv1] at h
      rw [hv1] at V1
      have H := Aside0.mk h
      clear hv0 hv1 h
      go_enter Tryd.func23, Tryd.ntmps23
      go_wp2_with fail
      refine (name_Fold.calls a0 x _ F0.out HT.out).mono ?_
      rintro e w1 ⟨rfl, hb1⟩
      have T1 := Aside0.mk (HT.out.below hb1)
      go_wp2_with fail
      refine (name_Fold.calls a1 y _ F1.out T1.out).mono ?_
      rintro e w2 ⟨rfl, hb2⟩
      have T2 := Aside0.mk (T1.out.below hb2)
      have B2 := Aside0.mk (below_step hb1 hb2)
      clear hb1 hb2
      go_wp2_with fail
      refine (utf8_ValidString.calls x true _ V0.out T2.out).mono ?_
      rintro e w3 ⟨rfl, hb3⟩
      have T3 := Aside0.mk (T2.out.below hb3)
      have B3 := Aside0.mk (below_step B2.out hb3)
      clear hb3
      go_wp2_with fail
      refine (utf8_ValidString.calls y true _ V1.out T3.out).mono ?_
      rintro e w4 ⟨rfl, hb4⟩
      have B4 := Aside0.mk (below_step B3.out hb4)
      clear hb4
      go_wp2_with (first
        | ((with_reducible refine gate_dst (N := 21) rfl ?_); refine NC.runes_event S0.out rfl _ rfl rfl ?_; intro v5 w5 A5 c5 hv5 hc5 hr5 hb5; subst hv5; have C5 := Aside0.mk hc5; have R5 := Aside0.mk hr5; have B5 := Aside0.mk (below_step B4.out hb5); clear hc5 hr5 hb5)
        | ((with_reducible refine gate_dst (N := 23) rfl ?_); refine NC.runes_event S1.out rfl _ rfl rfl ?_; intro v6 w6 A6 c6 hv6 hc6 hr6 hb6; subst hv6; have C6 := Aside0.mk hc6; have R6 := Aside0.mk hr6; have R5' := Aside0.mk (Kd.C_below R5.out hb6); have B6 := Aside0.mk (below_step B5.out hb6); clear hc6 hr6 hb6)
        | (go_at_call 39; refine (slices_Compare_rune_rune.calls k A5 c5 _ A6 c6 _ r _ R5'.out C5.out R6.out C6.out H.out).mono ?_; rintro e w7 ⟨rfl, hdr⟩; obtain ⟨nd, rfl⟩ := hdr.out))
      go_ret
      exact ⟨rfl, pw_below_drewN B6.out _⟩
    · have hv1' : Lib.validD y.data.toList = false := by simpa using hv1
      rw [if_neg hv1] at h
      rw [hv1'] at V1
      have H := Aside0.mk h
      clear hv0 hv1 hv1' h
      go_enter Tryd.func23, Tryd.ntmps23
      go_wp2_with fail
      refine (name_Fold.calls a0 x _ F0.out HT.out).mono ?_
      rintro e w1 ⟨rfl, hb1⟩
      have T1 := Aside0.mk (HT.out.below hb1)
      go_wp2_with fail
      refine (name_Fold.calls a1 y _ F1.out T1.out).mono ?_
      rintro e w2 ⟨rfl, hb2⟩
      have T2 := Aside0.mk (T1.out.below hb2)
      have B2 := Aside0.mk (below_step hb1 hb2)
      clear hb1 hb2
      go_wp2_with fail
      refine (utf8_ValidString.calls x true _ V0.out T2.out).mono ?_
      rintro e w3 ⟨rfl, hb3⟩
      have T3 := Aside0.mk (T2.out.below hb3)
      have B3 := Aside0.mk (below_step B2.out hb3)
      clear hb3
      go_wp2_with fail
      refine (utf8_ValidString.calls y false _ V1.out T3.out).mono ?_
      rintro e w4 ⟨rfl, hb4⟩
      have B4 := Aside0.mk (below_step B3.out hb4)
      clear hb4
      go_wp2_with fail
      refine (cmp_Compare_string.calls x y r _ H.out).mono ?_
      rintro e w7 ⟨rfl, hdr⟩
      obtain ⟨nd, rfl⟩ := hdr.out
      go_wp2
      go_ret
      exact ⟨rfl, pw_below_drewN B4.out _⟩
  · have hv0' : Lib.validD x.data.toList = false := by simpa using hv0
    rw [if_neg hv0] at h
    rw [hv0'] at V0
    have H := Aside0.mk h
    clear hv0 hv0' h
    go_enter Tryd.func23, Tryd.ntmps23
    go_wp2_with fail
    refine (name_Fold.calls a0 x _ F0.out HT.out).mono ?_
    rintro e w1 ⟨rfl, hb1⟩
    have T1 := Aside0.mk (HT.out.below hb1)
    go_wp2_with fail
    refine (name_Fold.calls a1 y _ F1.out T1.out).mono ?_
    rintro e w2 ⟨rfl, hb2⟩
    have T2 := Aside0.mk (T1.out.below hb2)
    have B2 := Aside0.mk (below_step hb1 hb2)
    clear hb1 hb2
    go_wp2_with fail
    refine (utf8_ValidString.calls x false _ V0.out T2.out).mono ?_
    rintro e w3 ⟨rfl, hb3⟩
    have B3 := Aside0.mk (below_step B2.out hb3)
    clear hb3
    go_wp2_with fail
    refine (cmp_Compare_string.calls x y r _ H.out).mono ?_
    rintro e w7 ⟨rfl, hdr⟩
    obtain ⟨nd, rfl⟩ := hdr.out
    go_wp2
    go_ret
    exact ⟨rfl, pw_below_drewN B3.out _⟩

/-! ### name_Same: function 24 -/
def name_Same.f (a0 : ByteArray) (a1 : ByteArray) : Option (Bool) := (name_Fold.f a0).bind fun t191 => ((name_Fold.f a1).bind fun t192 => (some (t191.toList == t192.toList)))
set_option maxHeartbeats 8000000 in
set_option maxRecDepth 100000 in
theorem name_Same.calls (a0 : ByteArray) (a1 : ByteArray) (r : Bool) (w : World) (h : name_Same.f a0 a1 = some r) (hT : NC.TabW w) :
    Calls Tryd.prog 24 #[.string a0, .string a1] w fun e w' => e = .returned (.bool r) ∧ Below w.heap.size w w' := by
  have HT := Aside0.mk hT
  clear hT
  have HB := Aside0.mk (Below.refl w.heap.size w)
  have H : ((name_Fold.f a0).bind fun t191 => ((name_Fold.f a1).bind fun t192 => (some (t191.toList == t192.toList)))) = some r := h
  clear h
  replace H := Option.bind_eq_some_iff.mp H
  obtain ⟨t191, A30, H⟩ := H
  replace H : ((name_Fold.f a1).bind fun t192 => (some (t191.toList == t192.toList))) = some r := H
  have A3 := Aside0.mk A30
  clear A30
  replace H := Option.bind_eq_some_iff.mp H
  obtain ⟨t192, A40, H⟩ := H
  replace H : (some (t191.toList == t192.toList)) = some r := H
  have A4 := Aside0.mk A40
  clear A40
  obtain rfl := Option.some.inj H
  go_enter Tryd.func24, Tryd.ntmps24
  go_wp2_with (first | ((with_reducible refine gate_callee (f := 12) rfl ?_); refine goesL_ (some 6) rfl rfl Tryd.func12 (by kernel_rfl) rfl #[.string a0] rfl (by (try simp only [List.map_toArray, List.map_cons, List.map_nil]); first | done | rfl | (simp only [List.length_drop, List.length_take]; rfl)) ?_; (with_reducible refine (name_Fold.calls a0 t191 _ A3.out (NC.TabW.below HT.out (by repeat (first | (with_reducible first | exact HB.out | apply below_alloc | apply pw_below_drewN | apply below_drew1) | exact HB.out)))).mono ?_); rintro e w5 ⟨rfl, hb⟩; refine ⟨_, rfl, ?_⟩; have n0_ := Aside0.mk (below_step (by repeat (first | (with_reducible first | exact HB.out | apply below_alloc | apply pw_below_drewN | apply below_drew1) | exact HB.out)) hb); clear HB; have HB := n0_; clear n0_; (try clear hb); (try clear hb2); (try clear hk); (try clear hi)) | ((with_reducible refine gate_callee (f := 12) rfl ?_); refine goesL_ (some 8) rfl rfl Tryd.func12 (by kernel_rfl) rfl #[.string a1] rfl (by (try simp only [List.map_toArray, List.map_cons, List.map_nil]); first | done | rfl | (simp only [List.length_drop, List.length_take]; rfl)) ?_; (with_reducible refine (name_Fold.calls a1 t192 _ A4.out (NC.TabW.below HT.out (by repeat (first | (with_reducible first | exact HB.out | apply below_alloc | apply pw_below_drewN | apply below_drew1) | exact HB.out)))).mono ?_); rintro e w6 ⟨rfl, hb⟩; refine ⟨_, rfl, ?_⟩; have n0_ := Aside0.mk (below_step (by repeat (first | (with_reducible first | exact HB.out | apply below_alloc | apply pw_below_drewN | apply below_drew1) | exact HB.out)) hb); clear HB; have HB := n0_; clear n0_; (try clear hb); (try clear hb2); (try clear hk); (try clear hi)))
  go_ret
  exact ⟨by first | rfl | (simp [errW_none, errW_some] <;> rfl) | (simp [*, errW_none, errW_some] <;> rfl), by repeat (first | (with_reducible first | exact HB.out | apply below_alloc | apply pw_below_drewN | apply below_drew1) | exact HB.out)⟩

end Go.Proofs.YtiaacpjibhnhiaaDoor.PAll
