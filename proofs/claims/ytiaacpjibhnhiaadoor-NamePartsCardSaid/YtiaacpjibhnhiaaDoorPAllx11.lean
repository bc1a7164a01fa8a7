-- Written by a program of this session over the kit's printer (with contracts of the session's own).
import Derived.Test.YtiaacpjibhnhiaaDoorPAllx0
import Derived.Test.YtiaacpjibhnhiaaDoorPAllx2
import Derived.Test.YtiaacpjibhnhiaaDoorPAllx9
import Derived.Test.YtiaacpjibhnhiaaDoorPAllx10
namespace Go.Proofs.YtiaacpjibhnhiaaDoor.PAll
open Go.RowKit Go.Proofs.YtiaacpjibhnhiaaDoorW.PrintWords Go.Proofs.YtiaacpjibhnhiaaDoorW.PrintLast Go.Proofs.YtiaacpjibhnhiaaDoorW.PrintMore
attribute [local go_sem] max2_int min2_int max_two min_two max_three min_three max_four min_four   -- for this text's walks alone
set_option linter.unusedVariables false
set_option linter.unusedSimpArgs false

/-! ### caduceuslaw02_NameParts: function 8 -/
mutual
def caduceuslaw02_NameParts.l0 : Nat → ByteArray → List ByteArray → ByteArray → Int → Option (Bool)
  | 0, _, _, _, _ => none
  | k + 1, x0, x3, x4, x5 => if x5 < (x3.length : Int) then (if x5 > 0 then (if x4.size + 1 ≤ 9223372036854775807 then (caduceuslaw02_NameParts.j1 k x0 x3 (x4 ++ (⟨#[46]⟩ : ByteArray)) x5) else (none)) else (caduceuslaw02_NameParts.j1 k x0 x3 x4 x5)) else ((caduceuslaw02_awake.f k).bind fun t293 => (if t293 = true then (if x4.toList = x0.toList then (if (x3.length : Int) ≥ 1 then (some (decide ((x3.length : Int) ≤ 5))) else none) else none) else none))
def caduceuslaw02_NameParts.j1 : Nat → ByteArray → List ByteArray → ByteArray → Int → Option (Bool)
  | 0, _, _, _, _ => none
  | k + 1, x0, x3, x4, x5 => if 0 ≤ x5 then (if x5 < (x3.length : Int) then (if x4.size + (rdOf ByteArray.empty x3 x5).size ≤ 9223372036854775807 then ((name_Check.f (rdOf ByteArray.empty x3 x5)).bind fun t296 => (if t296 = 0 then ((name_Under.f k x0 (x4 ++ (rdOf ByteArray.empty x3 x5))).bind fun t297 => (if t297 = true then ((name_Under.f k (x4 ++ (rdOf ByteArray.empty x3 x5)) x0).bind fun t298 => (if (t298 != (x5 == (wrap64 ((x3.length : Int) - 1)))) = true then none else (caduceuslaw02_NameParts.l0 k x0 x3 (x4 ++ (rdOf ByteArray.empty x3 x5)) (wrap64 (x5 + 1))))) else none)) else none)) else (none)) else (none)) else (none)
end
def caduceuslaw02_NameParts.f (k : Nat) (a0 : ByteArray) : Option (Bool) := if (a0.size : Int) > 2000 then ((caduceuslaw02_awake.f k).bind fun t286 => (some t286)) else ((name_Parts.f a0).bind fun t287 => ((name_Check.f a0).bind fun t290 => (if t290 = 0 then (caduceuslaw02_NameParts.l0 k a0 t287 (⟨#[]⟩ : ByteArray) 0) else ((caduceuslaw02_awake.f k).bind fun t291 => (if t291 = true then (if (t287.length : Int) = 0 then ((name_Under.f k a0 a0).bind fun t292 => (some (!t292))) else none) else none)))))
theorem caduceuslaw02_NameParts.mono_l : ∀ k, (∀ y0 y1 y2 y3, LeO (caduceuslaw02_NameParts.l0 k y0 y1 y2 y3) (caduceuslaw02_NameParts.l0 (k + 1) y0 y1 y2 y3)) ∧ (∀ y0 y1 y2 y3, LeO (caduceuslaw02_NameParts.j1 k y0 y1 y2 y3) (caduceuslaw02_NameParts.j1 (k + 1) y0 y1 y2 y3))
  | 0 => ⟨fun _ _ _ _ r h => by simp [caduceuslaw02_NameParts.l0] at h, fun _ _ _ _ r h => by simp [caduceuslaw02_NameParts.j1] at h⟩
  | k + 1 => by
    obtain ⟨ih0, ih1⟩ := caduceuslaw02_NameParts.mono_l k
    refine ⟨?_, ?_⟩
    · intro y0 y1 y2 y3
      unfold caduceuslaw02_NameParts.l0
      repeat' first
      | (with_reducible exact ih0 _ _ _ _)
      | (with_reducible exact ih1 _ _ _ _)
      | (with_reducible exact caduceuslaw02_awake.mono _)
      | (with_reducible exact name_Under.mono _ _ _)
      | (with_reducible exact LeO.refl _)
      | (with_reducible exact LeO.none _)
      | (with_reducible refine LeO.ite ?_ ?_)
      | (with_reducible refine LeO.bind ?_ (fun _ => ?_))
      | exact ih0 _ _ _ _
      | exact ih1 _ _ _ _
      | exact caduceuslaw02_awake.mono _
      | exact name_Under.mono _ _ _
      | exact LeO.none _
      | refine LeO.ite ?_ ?_
      | refine LeO.bind ?_ (fun _ => ?_)
    · intro y0 y1 y2 y3
      unfold caduceuslaw02_NameParts.j1
      repeat' first
      | (with_reducible exact ih0 _ _ _ _)
      | (with_reducible exact ih1 _ _ _ _)
      | (with_reducible exact caduceuslaw02_awake.mono _)
      | (with_reducible exact name_Under.mono _ _ _)
      | (with_reducible exact LeO.refl _)
      | (with_reducible exact LeO.none _)
      | (with_reducible refine LeO.ite ?_ ?_)
      | (with_reducible refine LeO.bind ?_ (fun _ => ?_))
      | exact ih0 _ _ _ _
      | exact ih1 _ _ _ _
      | exact caduceuslaw02_awake.mono _
      | exact name_Under.mono _ _ _
      | exact LeO.none _
      | refine LeO.ite ?_ ?_
      | refine LeO.bind ?_ (fun _ => ?_)
theorem caduceuslaw02_NameParts.mono : ∀ a0 k, LeO (caduceuslaw02_NameParts.f k a0) (caduceuslaw02_NameParts.f (k + 1) a0) := by
  intro a0 k
  obtain ⟨ih0, ih1⟩ := caduceuslaw02_NameParts.mono_l k
  unfold caduceuslaw02_NameParts.f
  repeat' first
      | (with_reducible exact ih0 _ _ _ _)
      | (with_reducible exact ih1 _ _ _ _)
      | (with_reducible exact caduceuslaw02_awake.mono _)
      | (with_reducible exact name_Under.mono _ _ _)
      | (with_reducible exact LeO.refl _)
      | (with_reducible exact LeO.none _)
      | (with_reducible refine LeO.ite ?_ ?_)
      | (with_reducible refine LeO.bind ?_ (fun _ => ?_))
      | exact ih0 _ _ _ _
      | exact ih1 _ _ _ _
      | exact caduceuslaw02_awake.mono _
      | exact name_Under.mono _ _ _
      | exact LeO.none _
      | refine LeO.ite ?_ ?_
      | refine LeO.bind ?_ (fun _ => ?_)
set_option maxHeartbeats 8000000 in
set_option maxRecDepth 100000 in
theorem caduceuslaw02_NameParts.calls (k : Nat) (a0 : ByteArray) (r : Bool) (w : World) (h : caduceuslaw02_NameParts.f k a0 = some r) (hT : NC.TabW w) :
    Calls Tryd.prog 8 #[.string a0] w fun e w' => e = .returned (.bool r) ∧ Below w.heap.size w w' := by
  have HT := Aside0.mk hT
  clear hT
  have HB := Aside0.mk (Below.refl w.heap.size w)
  have H : (if (a0.size : Int) > 2000 then ((caduceuslaw02_awake.f k).bind fun t286 => (some t286)) else ((name_Parts.f a0).bind fun t287 => ((name_Check.f a0).bind fun t290 => (if t290 = 0 then (caduceuslaw02_NameParts.l0 k a0 t287 (⟨#[]⟩ : ByteArray) 0) else ((caduceuslaw02_awake.f k).bind fun t291 => (if t291 = true then (if (t287.length : Int) = 0 then ((name_Under.f k a0 a0).bind fun t292 => (some (!t292))) else none) else none)))))) = some r := h
  clear h
  by_cases c2 : (a0.size : Int) > 2000
  · rw [if_pos c2] at H
    have c2b0 : decide (2000 < (a0.size : Int)) = true := decide_eq_true c2
    have c2b1 : decide (2000 < a0.size) = true := decide_eq_true (by omega)
    clear c2
    replace H := Option.bind_eq_some_iff.mp H
    obtain ⟨t286, A30, H⟩ := H
    replace H : (some t286) = some r := H
    have A3 := Aside0.mk A30
    clear A30
    obtain rfl := Option.some.inj H
    go_enter Tryd.func8, Tryd.ntmps8
    go_wp2_with (first | ((with_reducible refine gate_callee (f := 10) rfl ?_); refine goesL_ (some 9) rfl rfl Tryd.func10 (by kernel_rfl) rfl #[] rfl (by (try simp only [List.map_toArray, List.map_cons, List.map_nil]); first | done | rfl | (simp only [List.length_drop, List.length_take]; rfl)) ?_; (with_reducible refine (caduceuslaw02_awake.calls k  t286 _ A3.out (NC.TabW.below HT.out (by repeat (first | (with_reducible first | exact HB.out | apply below_alloc | apply pw_below_drewN | apply below_drew1) | exact HB.out)))).mono ?_); rintro e w4 ⟨rfl, hb⟩; refine ⟨_, rfl, ?_⟩; have n0_ := Aside0.mk (below_step (by repeat (first | (with_reducible first | exact HB.out | apply below_alloc | apply pw_below_drewN | apply below_drew1) | exact HB.out)) hb); clear HB; have HB := n0_; clear n0_; (try clear hb); (try clear hb2); (try clear hk); (try clear hi)))
    go_ret
    exact ⟨by first | rfl | (simp [errW_none, errW_some] <;> rfl) | (simp [*, errW_none, errW_some] <;> rfl), by repeat (first | (with_reducible first | exact HB.out | apply below_alloc | apply pw_below_drewN | apply below_drew1) | exact HB.out)⟩
  · rw [if_neg c2] at H
    have c2b0 : decide (2000 < (a0.size : Int)) = false := decide_eq_false c2
    have c2b1 : decide (2000 < a0.size) = false := decide_eq_false (by omega)
    clear c2
    replace H := Option.bind_eq_some_iff.mp H
    obtain ⟨t287, A50, H⟩ := H
    replace H : ((name_Check.f a0).bind fun t290 => (if t290 = 0 then (caduceuslaw02_NameParts.l0 k a0 t287 (⟨#[]⟩ : ByteArray) 0) else ((caduceuslaw02_awake.f k).bind fun t291 => (if t291 = true then (if (t287.length : Int) = 0 then ((name_Under.f k a0 a0).bind fun t292 => (some (!t292))) else none) else none)))) = some r := H
    have A5 := Aside0.mk A50
    clear A50
    replace H := Option.bind_eq_some_iff.mp H
    obtain ⟨t290, A60, H⟩ := H
    replace H : (if t290 = 0 then (caduceuslaw02_NameParts.l0 k a0 t287 (⟨#[]⟩ : ByteArray) 0) else ((caduceuslaw02_awake.f k).bind fun t291 => (if t291 = true then (if (t287.length : Int) = 0 then ((name_Under.f k a0 a0).bind fun t292 => (some (!t292))) else none) else none))) = some r := H
    have A6 := Aside0.mk A60
    clear A60
    by_cases c7 : t290 = 0
    · rw [if_pos c7] at H
      have c7b0 : (t290 == 0) = true := beq_iff_eq.mpr c7
      have c7b1 : (t290 != 0) = false := bne_eq_false_iff_eq.mpr c7
      clear c7
      have H' := Aside0.mk H
      clear H
      go_enter Tryd.func8, Tryd.ntmps8
      go_wp2_with (first | ((with_reducible refine gate_callee (f := 28) rfl ?_); refine goesL_ (some 11) rfl rfl Tryd.func28 (by kernel_rfl) rfl #[.string a0] rfl (by (try simp only [List.map_toArray, List.map_cons, List.map_nil]); first | done | rfl | (simp only [List.length_drop, List.length_take]; rfl)) ?_; (with_reducible refine (name_Parts.calls a0 t287 _ A5.out (NC.TabW.below HT.out (by repeat (first | (with_reducible first | exact HB.out | apply below_alloc | apply pw_below_drewN | apply below_drew1) | exact HB.out)))).mono ?_); rintro e w8 ⟨v288, rfl, ho0, hb⟩; refine ⟨_, rfl, ?_⟩; have n0_ := Aside0.mk (Kd.R_lower ho0 (below_size (by repeat (first | (with_reducible first | exact HB.out | apply below_alloc | apply pw_below_drewN | apply below_drew1) | exact HB.out)))); have n1_ := Aside0.mk (below_step (by repeat (first | (with_reducible first | exact HB.out | apply below_alloc | apply pw_below_drewN | apply below_drew1) | exact HB.out)) hb); clear HB; have HO289 := n0_; have HB := n1_; clear n0_ n1_; (try clear hb); (try clear hb2); (try clear hk); (try clear hi); (try clear ho0)) | ((with_reducible refine gate_callee (f := 25) rfl ?_); refine goesL_ (some 13) rfl rfl Tryd.func25 (by kernel_rfl) rfl #[.string a0] rfl (by (try simp only [List.map_toArray, List.map_cons, List.map_nil]); first | done | rfl | (simp only [List.length_drop, List.length_take]; rfl)) ?_; (with_reducible refine (name_Check.calls a0 t290 _ A6.out (NC.TabW.below HT.out (by repeat (first | (with_reducible first | exact HB.out | apply below_alloc | apply pw_below_drewN | apply below_drew1) | exact HB.out)))).mono ?_); rintro e w9 ⟨rfl, hb⟩; refine ⟨_, rfl, ?_⟩; have n0_ := Aside0.mk (Kd.R_below (by (with_reducible repeat (first | apply Kd.R_alloc | apply Kd.R_drewN | apply Kd.R_drew)); exact HO289.out) hb); have n1_ := Aside0.mk (below_step (by repeat (first | (with_reducible first | exact HB.out | apply below_alloc | apply pw_below_drewN | apply below_drew1) | exact HB.out)) hb); clear HO289; clear HB; have HO289 := n0_; have HB := n1_; clear n0_ n1_; (try clear hb); (try clear hb2); (try clear hk); (try clear hi)))
      go_loopg [4, 5] k (fun kq v4 v5 w' => ∃ (x4_1 : ByteArray) (x5_1 : Int), v4 = .string x4_1 ∧ v5 = .int .i64 x5_1 ∧ Aside0 (caduceuslaw02_NameParts.l0 kq a0 t287 x4_1 x5_1 = some r) ∧ Aside0 (kq ≤ k) ∧ Aside0 (Kd.R Kd.string 9 w' w.heap.size (fun _ => True) v288 t287) ∧ Aside0 (Below w.heap.size w w'))
      case atStart => exact ⟨((⟨#[]⟩ : ByteArray)), (0), (by first | rfl | (simp; done) | (simp [*]; done)), (by first | rfl | (simp; done) | (simp [*]; done)), H', ⟨Nat.le_refl _⟩, ⟨by (with_reducible repeat (first | apply Kd.R_alloc | apply Kd.R_drewN | apply Kd.R_drew)); exact HO289.out⟩, ⟨by repeat (first | (with_reducible first | exact HB.out | apply below_alloc | apply pw_below_drewN | apply below_drew1) | exact HB.out)⟩⟩
      case round =>
        clear H'
        try clear c1
        try clear c2
        try clear c2b0
        try clear c2b1
        try clear p2
        try clear c7
        try clear c7b0
        try clear c7b1
        try clear c8
        obtain ⟨x4_1, x5_1, rfl, rfl, HA, HK1, HO_3, HB⟩ := hrel
        cases gk with
        | zero => exact absurd HA.out (by simp [caduceuslaw02_NameParts.l0])
        | succ k1 =>
          have H := HA.out
          clear HA
          simp only [caduceuslaw02_NameParts.l0] at H
          by_cases c10 : x5_1 < (t287.length : Int)
          · rw [if_pos c10] at H
            have c10b0 : decide (x5_1 < (t287.length : Int)) = true := decide_eq_true c10
            clear c10
            have HC11 := Aside0.mk H
            clear H
            obtain ⟨Ao12, co12, eo12⟩ := Kd.R_slice HO_3.out
            subst eo12
            go_upto_if 34 with (fail)
            go_cut [4] (fun v4 wc => ∃ (kq : Nat) (x4_10 : ByteArray), v4 = .string x4_10 ∧ Aside0 (caduceuslaw02_NameParts.j1 kq a0 t287 x4_10 x5_1 = some r) ∧ Aside0 (kq ≤ k1) ∧ Aside0 (Kd.R Kd.string 9 wc w.heap.size (fun _ => True) (.slice Ao12 t287.length co12) t287) ∧ Aside0 (Below w.heap.size w wc))
            case first =>
              have H := HC11.out
              clear HC11
              by_cases c13 : x5_1 > 0
              · rw [if_pos c13] at H
                have c13b0 : decide (0 < x5_1) = true := decide_eq_true c13
                clear c13
                (first | rw [c13b0] | (simp only [i64_w, i32_w]; rw [c13b0]) | skip)
                by_cases c14 : x4_1.size + 1 ≤ 9223372036854775807
                · rw [if_pos c14] at H
                  have c14b0 := eq_true c14
                  have c14b1 : decide (x4_1.size + 1 ≤ 9223372036854775807) = true := decide_eq_true c14
                  try have c14b2 : (9223372036854775807 < x4_1.size + 1) = False := eq_false (Nat.not_lt.2 c14)
                  have H' := Aside0.mk H
                  clear H
                  go_wp2
                  go_meet
                  case rel => exact ⟨_, (x4_1 ++ (⟨#[46]⟩ : ByteArray)), (by first | rfl | (simp; done) | (simp [*]; done)), H', ⟨by have := HK1.out; first | omega | exact Nat.le_refl _⟩, ⟨by (with_reducible repeat (first | apply Kd.R_alloc | apply Kd.R_drewN | apply Kd.R_drew)); exact HO_3.out⟩, ⟨by repeat (first | (with_reducible first | exact HB.out | apply below_alloc | apply pw_below_drewN | apply below_drew1) | exact HB.out)⟩⟩
                · rw [if_neg c14] at H
                  exact absurd H (by simp)
              · rw [if_neg c13] at H
                have c13b0 : decide (0 < x5_1) = false := decide_eq_false c13
                clear c13
                (first | rw [c13b0] | (simp only [i64_w, i32_w]; rw [c13b0]) | skip)
                have H' := Aside0.mk H
                clear H
                go_wp2
                go_meet
                case rel => exact ⟨_, (x4_1), (by first | rfl | (simp; done) | (simp [*]; done)), H', ⟨by have := HK1.out; first | omega | exact Nat.le_refl _⟩, ⟨by (with_reducible repeat (first | apply Kd.R_alloc | apply Kd.R_drewN | apply Kd.R_drew)); exact HO_3.out⟩, ⟨by repeat (first | (with_reducible first | exact HB.out | apply below_alloc | apply pw_below_drewN | apply below_drew1) | exact HB.out)⟩⟩
            case rest =>
              clear HC11
              try clear c1
              try clear c2
              try clear c2b0
              try clear c2b1
              try clear p2
              try clear c7
              try clear c7b0
              try clear c7b1
              try clear c8
              try clear c10
              try clear c10b0
              try clear c13
              try clear c13b0
              try clear c14
              try clear c14b0
              try clear c14b1
              try clear c14b2
              try clear p2
              obtain ⟨kq, x4_10, rfl, HA, HJ10, HO_3, HB⟩ := hcut
              cases kq with
              | zero => exact absurd HA.out (by simp [caduceuslaw02_NameParts.j1])
              | succ kj10 =>
                have H := HA.out
                clear HA
                simp only [caduceuslaw02_NameParts.j1] at H
                by_cases c15 : 0 ≤ x5_1
                · rw [if_pos c15] at H
                  have c15b0 : decide (0 ≤ x5_1) = true := decide_eq_true c15
                  clear c15
                  by_cases c16 : x5_1 < (t287.length : Int)
                  · rw [if_pos c16] at H
                    have c16b0 : decide (x5_1 < (t287.length : Int)) = true := decide_eq_true c16
                    clear c16
                    by_cases c17 : x4_10.size + (rdOf ByteArray.empty t287 x5_1).size ≤ 9223372036854775807
                    · rw [if_pos c17] at H
                      have c17b0 := eq_true c17
                      have c17b1 : decide (x4_10.size + (rdOf ByteArray.empty t287 x5_1).size ≤ 9223372036854775807) = true := decide_eq_true c17
                      try have c17b2 : (9223372036854775807 < x4_10.size + (rdOf ByteArray.empty t287 x5_1).size) = False := eq_false (Nat.not_lt.2 c17)
                      replace H := Option.bind_eq_some_iff.mp H
                      obtain ⟨t296, A180, H⟩ := H
                      replace H : (if t296 = 0 then ((name_Under.f kj10 a0 (x4_10 ++ (rdOf ByteArray.empty t287 x5_1))).bind fun t297 => (if t297 = true then ((name_Under.f kj10 (x4_10 ++ (rdOf ByteArray.empty t287 x5_1)) a0).bind fun t298 => (if (t298 != (x5_1 == (wrap64 ((t287.length : Int) - 1)))) = true then none else (caduceuslaw02_NameParts.l0 kj10 a0 t287 (x4_10 ++ (rdOf ByteArray.empty t287 x5_1)) (wrap64 (x5_1 + 1))))) else none)) else none) = some r := H
                      have A18 := Aside0.mk A180
                      clear A180
                      by_cases c19 : t296 = 0
                      · rw [if_pos c19] at H
                        have c19b0 : (t296 == 0) = true := beq_iff_eq.mpr c19
                        have c19b1 : (t296 != 0) = false := bne_eq_false_iff_eq.mpr c19
                        clear c19
                        replace H := Option.bind_eq_some_iff.mp H
                        obtain ⟨t297, A200, H⟩ := H
                        replace H : (if t297 = true then ((name_Under.f kj10 (x4_10 ++ (rdOf ByteArray.empty t287 x5_1)) a0).bind fun t298 => (if (t298 != (x5_1 == (wrap64 ((t287.length : Int) - 1)))) = true then none else (caduceuslaw02_NameParts.l0 kj10 a0 t287 (x4_10 ++ (rdOf ByteArray.empty t287 x5_1)) (wrap64 (x5_1 + 1))))) else none) = some r := H
                        have A20 := Aside0.mk A200
                        clear A200
                        by_cases c21 : t297 = true
                        · subst c21
                          have H1 : ((name_Under.f kj10 (x4_10 ++ (rdOf ByteArray.empty t287 x5_1)) a0).bind fun t298 => (if (t298 != (x5_1 == (wrap64 ((t287.length : Int) - 1)))) = true then none else (caduceuslaw02_NameParts.l0 kj10 a0 t287 (x4_10 ++ (rdOf ByteArray.empty t287 x5_1)) (wrap64 (x5_1 + 1))))) = some r := by rw [if_pos rfl] at H; exact H
                          clear H
                          have H := H1
                          clear H1
                          replace H := Option.bind_eq_some_iff.mp H
                          obtain ⟨t298, A220, H⟩ := H
                          replace H : (if (t298 != (x5_1 == (wrap64 ((t287.length : Int) - 1)))) = true then none else (caduceuslaw02_NameParts.l0 kj10 a0 t287 (x4_10 ++ (rdOf ByteArray.empty t287 x5_1)) (wrap64 (x5_1 + 1)))) = some r := H
                          have A22 := Aside0.mk A220
                          clear A220
                          by_cases c23 : (t298 != (x5_1 == (wrap64 ((t287.length : Int) - 1)))) = true
                          · rw [if_pos c23] at H
                            cases H
                          · rw [if_neg c23] at H
                            have c23b0 : (t298 != (x5_1 == (wrap64 ((t287.length : Int) - 1)))) = false := by simpa using c23
                            (try (have c23b1 : decide (t298 = (x5_1 == (wrap64 ((t287.length : Int) - 1)))) = true := by simpa using c23))
                            (try (have c23b2 : (t298 == (x5_1 == (wrap64 ((t287.length : Int) - 1)))) = true := by simpa using c23))
                            clear c23
                            have H' := Aside0.mk H
                            clear H
                            have p294 : 0 ≤ (x5_1 : Int) := of_decide_eq_true (by first | (with_reducible assumption) | assumption)
                            have q294 : x5_1 < (t287.length : Int) := of_decide_eq_true (by first | (with_reducible assumption) | assumption)
                            obtain ⟨ad294, e294, hx294_0⟩ := Kd.at_string (Kd.R_reads' HO_3.out).2.2 x5_1 p294 q294
                            cases e294
                            replace p294 := eq_true p294
                            replace q294 := eq_true q294
                            have p295 : 0 ≤ (x5_1 : Int) := of_decide_eq_true (by first | (with_reducible assumption) | assumption)
                            have q295 : x5_1 < (t287.length : Int) := of_decide_eq_true (by first | (with_reducible assumption) | assumption)
                            obtain ⟨ad295, e295, hx295_0⟩ := Kd.at_string (Kd.R_reads' HO_3.out).2.2 x5_1 p295 q295
                            obtain rfl : ad294 = ad295 := (by injection e295)
                            replace p295 := eq_true p295
                            replace q295 := eq_true q295
                            go_wp2_with (first | ((with_reducible refine gate_callee (f := 25) rfl ?_); refine goesL_ (some 47) rfl rfl Tryd.func25 (by kernel_rfl) rfl #[.string (rdOf ByteArray.empty t287 x5_1)] rfl (by (try simp only [List.map_toArray, List.map_cons, List.map_nil]); first | done | rfl | (simp only [List.length_drop, List.length_take]; rfl)) ?_; (with_reducible refine (name_Check.calls (rdOf ByteArray.empty t287 x5_1) t296 _ A18.out (NC.TabW.below HT.out (by repeat (first | (with_reducible first | exact HB.out | apply below_alloc | apply pw_below_drewN | apply below_drew1) | exact HB.out)))).mono ?_); rintro e w27 ⟨rfl, hb⟩; refine ⟨_, rfl, ?_⟩; have n0_ := Aside0.mk (Kd.R_below (by (with_reducible repeat (first | apply Kd.R_alloc | apply Kd.R_drewN | apply Kd.R_drew)); exact HO_3.out) hb); have n1_ := Aside0.mk (below_step (by repeat (first | (with_reducible first | exact HB.out | apply below_alloc | apply pw_below_drewN | apply below_drew1) | exact HB.out)) hb); clear HO_3; clear HB; have HO_3 := n0_; have HB := n1_; clear n0_ n1_; (try clear hb); (try clear hb2); (try clear hk); (try clear hi)) | (go_at_call 30; (with_reducible refine (name_Under.calls kj10 a0 (x4_10 ++ (rdOf ByteArray.empty t287 x5_1)) true _ A20.out (NC.TabW.below HT.out (by repeat (first | (with_reducible first | exact HB.out | apply below_alloc | apply pw_below_drewN | apply below_drew1) | exact HB.out)))).mono ?_); rintro e w28 ⟨rfl, hb⟩; have n0_ := Aside0.mk (Kd.R_below (by (with_reducible repeat (first | apply Kd.R_alloc | apply Kd.R_drewN | apply Kd.R_drew)); exact HO_3.out) hb); have n1_ := Aside0.mk (below_step (by repeat (first | (with_reducible first | exact HB.out | apply below_alloc | apply pw_below_drewN | apply below_drew1) | exact HB.out)) hb); clear HO_3; clear HB; have HO_3 := n0_; have HB := n1_; clear n0_ n1_; (try clear hb); (try clear hb2); (try clear hk); (try clear hi)) | (go_at_call 30; (with_reducible refine (name_Under.calls kj10 (x4_10 ++ (rdOf ByteArray.empty t287 x5_1)) a0 t298 _ A22.out (NC.TabW.below HT.out (by repeat (first | (with_reducible first | exact HB.out | apply below_alloc | apply pw_below_drewN | apply below_drew1) | exact HB.out)))).mono ?_); rintro e w29 ⟨rfl, hb⟩; have n0_ := Aside0.mk (Kd.R_below (by (with_reducible repeat (first | apply Kd.R_alloc | apply Kd.R_drewN | apply Kd.R_drew)); exact HO_3.out) hb); have n1_ := Aside0.mk (below_step (by repeat (first | (with_reducible first | exact HB.out | apply below_alloc | apply pw_below_drewN | apply below_drew1) | exact HB.out)) hb); clear HO_3; clear HB; have HO_3 := n0_; have HB := n1_; clear n0_ n1_; (try clear hb); (try clear hb2); (try clear hk); (try clear hi)))
                            go_roundg kj10
                            case measure => have := HK1.out; have := HJ10.out; omega
                            case rel => exact ⟨(x4_10 ++ (rdOf ByteArray.empty t287 x5_1)), (wrap64 (x5_1 + 1)), (by first | rfl | (simp; done) | (simp [*]; done)), (by first | rfl | (simp; done) | (simp [*]; done)), H', ⟨by have := HK1.out; have := HJ10.out; omega⟩, ⟨by (with_reducible repeat (first | apply Kd.R_alloc | apply Kd.R_drewN | apply Kd.R_drew)); exact HO_3.out⟩, ⟨by repeat (first | (with_reducible first | exact HB.out | apply below_alloc | apply pw_below_drewN | apply below_drew1) | exact HB.out)⟩⟩
                        · replace c21 := Bool.eq_false_iff.mpr c21
                          subst c21
                          have H1 : (none : Option _) = some r := by rw [if_neg (show ¬ (false = true) by decide)] at H; exact H
                          cases H1
                      · rw [if_neg c19] at H
                        cases H
                    · rw [if_neg c17] at H
                      exact absurd H (by simp)
                  · rw [if_neg c16] at H
                    exact absurd H (by simp)
                · rw [if_neg c15] at H
                  exact absurd H (by simp)
          · rw [if_neg c10] at H
            have c10b0 : decide (x5_1 < (t287.length : Int)) = false := decide_eq_false c10
            clear c10
            replace H := Option.bind_eq_some_iff.mp H
            obtain ⟨t293, A330, H⟩ := H
            replace H : (if t293 = true then (if x4_1.toList = a0.toList then (if (t287.length : Int) ≥ 1 then (some (decide ((t287.length : Int) ≤ 5))) else none) else none) else none) = some r := H
            have A33 := Aside0.mk A330
            clear A330
            by_cases c34 : t293 = true
            · subst c34
              have H1 : (if x4_1.toList = a0.toList then (if (t287.length : Int) ≥ 1 then (some (decide ((t287.length : Int) ≤ 5))) else none) else none) = some r := by rw [if_pos rfl] at H; exact H
              clear H
              have H := H1
              clear H1
              by_cases c35 : x4_1.toList = a0.toList
              · rw [if_pos c35] at H
                have c35b0 : (x4_1.toList == a0.toList) = true := beq_iff_eq.mpr c35
                have c35b1 : (x4_1.toList != a0.toList) = false := bne_eq_false_iff_eq.mpr c35
                clear c35
                by_cases c36 : (t287.length : Int) ≥ 1
                · rw [if_pos c36] at H
                  have c36b0 : decide (1 ≤ (t287.length : Int)) = true := decide_eq_true c36
                  have c36b1 : decide (1 ≤ t287.length) = true := decide_eq_true (by omega)
                  clear c36
                  obtain rfl := Option.some.inj H
                  obtain ⟨Ao37, co37, eo37⟩ := Kd.R_slice HO_3.out
                  subst eo37
                  go_wp2_with (first | ((with_reducible refine gate_callee (f := 10) rfl ?_); refine goesL_ (some 66) rfl rfl Tryd.func10 (by kernel_rfl) rfl #[] rfl (by (try simp only [List.map_toArray, List.map_cons, List.map_nil]); first | done | rfl | (simp only [List.length_drop, List.length_take]; rfl)) ?_; (with_reducible refine (caduceuslaw02_awake.calls k1  true _ A33.out (NC.TabW.below HT.out (by repeat (first | (with_reducible first | exact HB.out | apply below_alloc | apply pw_below_drewN | apply below_drew1) | exact HB.out)))).mono ?_); rintro e w38 ⟨rfl, hb⟩; refine ⟨_, rfl, ?_⟩; have n0_ := Aside0.mk (Kd.R_below (by (with_reducible repeat (first | apply Kd.R_alloc | apply Kd.R_drewN | apply Kd.R_drew)); exact HO_3.out) hb); have n1_ := Aside0.mk (below_step (by repeat (first | (with_reducible first | exact HB.out | apply below_alloc | apply pw_below_drewN | apply below_drew1) | exact HB.out)) hb); clear HO_3; clear HB; have HO_3 := n0_; have HB := n1_; clear n0_ n1_; (try clear hb); (try clear hb2); (try clear hk); (try clear hi)))
                  go_ret
                  exact ⟨by first | rfl | (simp [errW_none, errW_some] <;> rfl) | (simp [*, errW_none, errW_some] <;> rfl), by repeat (first | (with_reducible first | exact HB.out | apply below_alloc | apply pw_below_drewN | apply below_drew1) | exact HB.out)⟩
                · rw [if_neg c36] at H
                  cases H
              · rw [if_neg c35] at H
                cases H
            · replace c34 := Bool.eq_false_iff.mpr c34
              subst c34
              have H1 : (none : Option _) = some r := by rw [if_neg (show ¬ (false = true) by decide)] at H; exact H
              cases H1
    · rw [if_neg c7] at H
      have c7b0 : (t290 == 0) = false := beq_eq_false_iff_ne.mpr c7
      have c7b1 : (t290 != 0) = true := bne_iff_ne.mpr c7
      replace H := Option.bind_eq_some_iff.mp H
      obtain ⟨t291, A450, H⟩ := H
      replace H : (if t291 = true then (if (t287.length : Int) = 0 then ((name_Under.f k a0 a0).bind fun t292 => (some (!t292))) else none) else none) = some r := H
      have A45 := Aside0.mk A450
      clear A450
      by_cases c46 : t291 = true
      · subst c46
        have H1 : (if (t287.length : Int) = 0 then ((name_Under.f k a0 a0).bind fun t292 => (some (!t292))) else none) = some r := by rw [if_pos rfl] at H; exact H
        clear H
        have H := H1
        clear H1
        by_cases c47 : (t287.length : Int) = 0
        · rw [if_pos c47] at H
          have c47b0 : ((t287.length : Int) == 0) = true := beq_iff_eq.mpr c47
          have c47b1 : ((t287.length : Int) != 0) = false := bne_eq_false_iff_eq.mpr c47
          clear c47
          replace H := Option.bind_eq_some_iff.mp H
          obtain ⟨t292, A480, H⟩ := H
          replace H : (some (!t292)) = some r := H
          have A48 := Aside0.mk A480
          clear A480
          obtain rfl := Option.some.inj H
          go_enter Tryd.func8, Tryd.ntmps8
          go_wp2_with (first | ((with_reducible refine gate_callee (f := 28) rfl ?_); refine goesL_ (some 11) rfl rfl Tryd.func28 (by kernel_rfl) rfl #[.string a0] rfl (by (try simp only [List.map_toArray, List.map_cons, List.map_nil]); first | done | rfl | (simp only [List.length_drop, List.length_take]; rfl)) ?_; (with_reducible refine (name_Parts.calls a0 t287 _ A5.out (NC.TabW.below HT.out (by repeat (first | (with_reducible first | exact HB.out | apply below_alloc | apply pw_below_drewN | apply below_drew1) | exact HB.out)))).mono ?_); rintro e w49 ⟨v288, rfl, ho0, hb⟩; refine ⟨_, rfl, ?_⟩; have n0_ := Aside0.mk (Kd.R_lower ho0 (below_size (by repeat (first | (with_reducible first | exact HB.out | apply below_alloc | apply pw_below_drewN | apply below_drew1) | exact HB.out)))); have n1_ := Aside0.mk (below_step (by repeat (first | (with_reducible first | exact HB.out | apply below_alloc | apply pw_below_drewN | apply below_drew1) | exact HB.out)) hb); clear HB; have HO289 := n0_; have HB := n1_; clear n0_ n1_; (try clear hb); (try clear hb2); (try clear hk); (try clear hi); (try clear ho0)) | ((with_reducible refine gate_callee (f := 25) rfl ?_); refine goesL_ (some 13) rfl rfl Tryd.func25 (by kernel_rfl) rfl #[.string a0] rfl (by (try simp only [List.map_toArray, List.map_cons, List.map_nil]); first | done | rfl | (simp only [List.length_drop, List.length_take]; rfl)) ?_; (with_reducible refine (name_Check.calls a0 t290 _ A6.out (NC.TabW.below HT.out (by repeat (first | (with_reducible first | exact HB.out | apply below_alloc | apply pw_below_drewN | apply below_drew1) | exact HB.out)))).mono ?_); rintro e w50 ⟨rfl, hb⟩; refine ⟨_, rfl, ?_⟩; have n0_ := Aside0.mk (Kd.R_below (by (with_reducible repeat (first | apply Kd.R_alloc | apply Kd.R_drewN | apply Kd.R_drew)); exact HO289.out) hb); have n1_ := Aside0.mk (below_step (by repeat (first | (with_reducible first | exact HB.out | apply below_alloc | apply pw_below_drewN | apply below_drew1) | exact HB.out)) hb); clear HO289; clear HB; have HO289 := n0_; have HB := n1_; clear n0_ n1_; (try clear hb); (try clear hb2); (try clear hk); (try clear hi)) | ((with_reducible refine gate_callee (f := 10) rfl ?_); refine goesL_ (some 15) rfl rfl Tryd.func10 (by kernel_rfl) rfl #[] rfl (by (try simp only [List.map_toArray, List.map_cons, List.map_nil]); first | done | rfl | (simp only [List.length_drop, List.length_take]; rfl)) ?_; (with_reducible refine (caduceuslaw02_awake.calls k  true _ A45.out (NC.TabW.below HT.out (by repeat (first | (with_reducible first | exact HB.out | apply below_alloc | apply pw_below_drewN | apply below_drew1) | exact HB.out)))).mono ?_); rintro e w51 ⟨rfl, hb⟩; refine ⟨_, rfl, ?_⟩; have n0_ := Aside0.mk (Kd.R_below (by (with_reducible repeat (first | apply Kd.R_alloc | apply Kd.R_drewN | apply Kd.R_drew)); exact HO289.out) hb); have n1_ := Aside0.mk (below_step (by repeat (first | (with_reducible first | exact HB.out | apply below_alloc | apply pw_below_drewN | apply below_drew1) | exact HB.out)) hb); clear HO289; clear HB; have HO289 := n0_; have HB := n1_; clear n0_ n1_; (try clear hb); (try clear hb2); (try clear hk); (try clear hi); obtain ⟨Ao52, co52, eo52⟩ := Kd.R_slice HO289.out; subst eo52) | (go_at_call 30; (with_reducible refine (name_Under.calls k a0 a0 t292 _ A48.out (NC.TabW.below HT.out (by repeat (first | (with_reducible first | exact HB.out | apply below_alloc | apply pw_below_drewN | apply below_drew1) | exact HB.out)))).mono ?_); rintro e w53 ⟨rfl, hb⟩; have n0_ := Aside0.mk (Kd.R_below (by (with_reducible repeat (first | apply Kd.R_alloc | apply Kd.R_drewN | apply Kd.R_drew)); exact HO289.out) hb); have n1_ := Aside0.mk (below_step (by repeat (first | (with_reducible first | exact HB.out | apply below_alloc | apply pw_below_drewN | apply below_drew1) | exact HB.out)) hb); clear HO289; clear HB; have HO289 := n0_; have HB := n1_; clear n0_ n1_; (try clear hb); (try clear hb2); (try clear hk); (try clear hi)))
          go_ret
          exact ⟨by first | rfl | (simp [errW_none, errW_some] <;> rfl) | (simp [*, errW_none, errW_some] <;> rfl), by repeat (first | (with_reducible first | exact HB.out | apply below_alloc | apply pw_below_drewN | apply below_drew1) | exact HB.out)⟩
        · rw [if_neg c47] at H
          cases H
      · replace c46 := Bool.eq_false_iff.mpr c46
        subst c46
        have H1 : (none : Option _) = some r := by rw [if_neg (show ¬ (false = true) by decide)] at H; exact H
        cases H1
/-- THE ONE PURE STATEMENT of caduceuslaw02_NameParts: yours. -/
def caduceuslaw02_NameParts.Pure : Prop := ∀ (a0 : ByteArray), a0.size ≤ 140737488351232 → ∃ k, caduceuslaw02_NameParts.f k a0 = some true
theorem caduceuslaw02_NameParts.walk (P : caduceuslaw02_NameParts.Pure) (a0 : ByteArray) (w : World) (w0 : a0.size ≤ 140737488351232) (hT : NC.TabW w) :
    Calls Tryd.prog 8 #[.string a0] w fun e w' => e = .returned (.bool true) ∧ Below w.heap.size w w' := by
  obtain ⟨k, h⟩ := P a0 w0
  refine (caduceuslaw02_NameParts.calls k a0 true w h hT).mono ?_
  rintro e w' ⟨rfl, hd⟩
  exact ⟨rfl, hd⟩

end Go.Proofs.YtiaacpjibhnhiaaDoor.PAll
