-- Written by a program of this session over the kit's printer (with contracts of the session's own).
import Derived.Test.YtiaacpjibhnhiaaDoorPAllx0
import Derived.Test.YtiaacpjibhnhiaaDoorPAllx1
import Derived.Test.YtiaacpjibhnhiaaDoorPAllx2
import Derived.Test.YtiaacpjibhnhiaaDoorPAllx4
import Derived.Test.YtiaacpjibhnhiaaDoorPAllx5
namespace Go.Proofs.YtiaacpjibhnhiaaDoor.PAll
open Go.RowKit Go.Proofs.YtiaacpjibhnhiaaDoorW.PrintWords Go.Proofs.YtiaacpjibhnhiaaDoorW.PrintLast Go.Proofs.YtiaacpjibhnhiaaDoorW.PrintMore
attribute [local go_sem] max2_int min2_int max_two min_two max_three min_three max_four min_four   -- for this text's walks alone
set_option linter.unusedVariables false
set_option linter.unusedSimpArgs false

/-! ### caduceusref02_Fold: function 11 -/
def caduceusref02_Fold.l0 : Nat → List Int → ByteArray → Int → Option (ByteArray)
  | 0, _, _, _ => none
  | k + 1, x3, x4, x5 => if x5 < (x3.length : Int) then (if 0 ≤ x5 then ((caduceusref02_Small.f (rd x3 x5)).bind fun t163 => ((caduceusref02_Bytes.f t163).bind fun t164 => (if x4.size + t164.size ≤ 9223372036854775807 then (caduceusref02_Fold.l0 k x3 (x4 ++ t164) (wrap64 (x5 + 1))) else (none)))) else (none)) else (some x4)
def caduceusref02_Fold.f (k : Nat) (a0 : ByteArray) : Option (ByteArray) := (caduceusref02_Valid.f k a0).bind fun t158 => (if t158 = true then ((caduceusref02_Runes.f k a0).bind fun t159 => (caduceusref02_Fold.l0 k t159 (⟨#[]⟩ : ByteArray) 0)) else (some a0))
theorem caduceusref02_Fold.mono_l : ∀ k, (∀ y0 y1 y2, LeO (caduceusref02_Fold.l0 k y0 y1 y2) (caduceusref02_Fold.l0 (k + 1) y0 y1 y2))
  | 0 => fun _ _ _ r h => by simp [caduceusref02_Fold.l0] at h
  | k + 1 => by
    have ih0 := caduceusref02_Fold.mono_l k
    · intro y0 y1 y2
      unfold caduceusref02_Fold.l0
      repeat' first
      | (with_reducible exact ih0 _ _ _)
      | (with_reducible exact caduceusref02_Runes.mono _ _)
      | (with_reducible exact caduceusref02_Valid.mono _ _)
      | (with_reducible exact LeO.refl _)
      | (with_reducible exact LeO.none _)
      | (with_reducible refine LeO.ite ?_ ?_)
      | (with_reducible refine LeO.bind ?_ (fun _ => ?_))
      | exact ih0 _ _ _
      | exact caduceusref02_Runes.mono _ _
      | exact caduceusref02_Valid.mono _ _
      | exact LeO.none _
      | refine LeO.ite ?_ ?_
      | refine LeO.bind ?_ (fun _ => ?_)
theorem caduceusref02_Fold.mono : ∀ a0 k, LeO (caduceusref02_Fold.f k a0) (caduceusref02_Fold.f (k + 1) a0) := by
  intro a0 k
  have ih0 := caduceusref02_Fold.mono_l k
  unfold caduceusref02_Fold.f
  repeat' first
      | (with_reducible exact ih0 _ _ _)
      | (with_reducible exact caduceusref02_Runes.mono _ _)
      | (with_reducible exact caduceusref02_Valid.mono _ _)
      | (with_reducible exact LeO.refl _)
      | (with_reducible exact LeO.none _)
      | (with_reducible refine LeO.ite ?_ ?_)
      | (with_reducible refine LeO.bind ?_ (fun _ => ?_))
      | exact ih0 _ _ _
      | exact caduceusref02_Runes.mono _ _
      | exact caduceusref02_Valid.mono _ _
      | exact LeO.none _
      | refine LeO.ite ?_ ?_
      | refine LeO.bind ?_ (fun _ => ?_)
set_option maxHeartbeats 8000000 in
set_option maxRecDepth 100000 in
theorem caduceusref02_Fold.calls (k : Nat) (a0 : ByteArray) (r : ByteArray) (w : World) (h : caduceusref02_Fold.f k a0 = some r) :
    Calls Tryd.prog 11 #[.string a0] w fun e w' => e = .returned (.string r) ∧ Below w.heap.size w w' := by
  have HB := Aside0.mk (Below.refl w.heap.size w)
  have H : ((caduceusref02_Valid.f k a0).bind fun t158 => (if t158 = true then ((caduceusref02_Runes.f k a0).bind fun t159 => (caduceusref02_Fold.l0 k t159 (⟨#[]⟩ : ByteArray) 0)) else (some a0))) = some r := h
  clear h
  replace H := Option.bind_eq_some_iff.mp H
  obtain ⟨t158, A20, H⟩ := H
  replace H : (if t158 = true then ((caduceusref02_Runes.f k a0).bind fun t159 => (caduceusref02_Fold.l0 k t159 (⟨#[]⟩ : ByteArray) 0)) else (some a0)) = some r := H
  have A2 := Aside0.mk A20
  clear A20
  by_cases c3 : t158 = true
  · subst c3
    have H1 : ((caduceusref02_Runes.f k a0).bind fun t159 => (caduceusref02_Fold.l0 k t159 (⟨#[]⟩ : ByteArray) 0)) = some r := by rw [if_pos rfl] at H; exact H
    clear H
    have H := H1
    clear H1
    replace H := Option.bind_eq_some_iff.mp H
    obtain ⟨t159, A40, H⟩ := H
    replace H : (caduceusref02_Fold.l0 k t159 (⟨#[]⟩ : ByteArray) 0) = some r := H
    have A4 := Aside0.mk A40
    clear A40
    have H' := Aside0.mk H
    clear H
    go_enter Tryd.func11, Tryd.ntmps11
    go_wp2_with (first | ((with_reducible refine gate_callee (f := 16) rfl ?_); refine goesL_ (some 7) rfl rfl Tryd.func16 (by kernel_rfl) rfl #[.string a0] rfl (by (try simp only [List.map_toArray, List.map_cons, List.map_nil]); first | done | rfl | (simp only [List.length_drop, List.length_take]; rfl)) ?_; (with_reducible refine (caduceusref02_Valid.calls k a0 true _ A2.out).mono ?_); rintro e w5 ⟨rfl, hb⟩; refine ⟨_, rfl, ?_⟩; have n0_ := Aside0.mk (below_step (by repeat (first | (with_reducible first | exact HB.out | apply below_alloc | apply pw_below_drewN | apply below_drew1) | exact HB.out)) hb); clear HB; have HB := n0_; clear n0_; (try clear hb); (try clear hb2); (try clear hk); (try clear hi)) | ((with_reducible refine gate_callee (f := 17) rfl ?_); refine goesL_ (some 11) rfl rfl Tryd.func17 (by kernel_rfl) rfl #[.string a0] rfl (by (try simp only [List.map_toArray, List.map_cons, List.map_nil]); first | done | rfl | (simp only [List.length_drop, List.length_take]; rfl)) ?_; (with_reducible refine (caduceusref02_Runes.calls k a0 t159 _ A4.out).mono ?_); rintro e w6 ⟨v160, rfl, ho0, hb⟩; refine ⟨_, rfl, ?_⟩; have n0_ := Aside0.mk (Kd.R_lower ho0 (below_size (by repeat (first | (with_reducible first | exact HB.out | apply below_alloc | apply pw_below_drewN | apply below_drew1) | exact HB.out)))); have n1_ := Aside0.mk (below_step (by repeat (first | (with_reducible first | exact HB.out | apply below_alloc | apply pw_below_drewN | apply below_drew1) | exact HB.out)) hb); clear HB; have HO161 := n0_; have HB := n1_; clear n0_ n1_; (try clear hb); (try clear hb2); (try clear hk); (try clear hi); (try clear ho0)))
    go_loopg [4, 5] k (fun kq v4 v5 w' => ∃ (x4_1 : ByteArray) (x5_1 : Int), v4 = .string x4_1 ∧ v5 = .int .i64 x5_1 ∧ Aside0 (caduceusref02_Fold.l0 kq t159 x4_1 x5_1 = some r) ∧ Aside0 (kq ≤ k) ∧ Aside0 (Kd.R (Kd.int .i64) 3 w' w.heap.size (fun _ => True) v160 t159) ∧ Aside0 (Below w.heap.size w w'))
    case atStart => exact ⟨((⟨#[]⟩ : ByteArray)), (0), (by first | rfl | (simp; done) | (simp [*]; done)), (by first | rfl | (simp; done) | (simp [*]; done)), H', ⟨Nat.le_refl _⟩, ⟨by (with_reducible repeat (first | apply Kd.R_alloc | apply Kd.R_drewN | apply Kd.R_drew)); exact HO161.out⟩, ⟨by repeat (first | (with_reducible first | exact HB.out | apply below_alloc | apply pw_below_drewN | apply below_drew1) | exact HB.out)⟩⟩
    case round =>
      clear H'
      try clear c1
      try clear p2
      try clear c3
      obtain ⟨x4_1, x5_1, rfl, rfl, HA, HK1, HO_3, HB⟩ := hrel
      cases gk with
      | zero => exact absurd HA.out (by simp [caduceusref02_Fold.l0])
      | succ k1 =>
        have H := HA.out
        clear HA
        simp only [caduceusref02_Fold.l0] at H
        by_cases c7 : x5_1 < (t159.length : Int)
        · rw [if_pos c7] at H
          have c7b0 : decide (x5_1 < (t159.length : Int)) = true := decide_eq_true c7
          clear c7
          by_cases c8 : 0 ≤ x5_1
          · rw [if_pos c8] at H
            have c8b0 : decide (0 ≤ x5_1) = true := decide_eq_true c8
            clear c8
            replace H := Option.bind_eq_some_iff.mp H
            obtain ⟨t163, A90, H⟩ := H
            replace H : ((caduceusref02_Bytes.f t163).bind fun t164 => (if x4_1.size + t164.size ≤ 9223372036854775807 then (caduceusref02_Fold.l0 k1 t159 (x4_1 ++ t164) (wrap64 (x5_1 + 1))) else (none))) = some r := H
            have A9 := Aside0.mk A90
            clear A90
            replace H := Option.bind_eq_some_iff.mp H
            obtain ⟨t164, A100, H⟩ := H
            replace H : (if x4_1.size + t164.size ≤ 9223372036854775807 then (caduceusref02_Fold.l0 k1 t159 (x4_1 ++ t164) (wrap64 (x5_1 + 1))) else (none)) = some r := H
            have A10 := Aside0.mk A100
            clear A100
            by_cases c11 : x4_1.size + t164.size ≤ 9223372036854775807
            · rw [if_pos c11] at H
              have c11b0 := eq_true c11
              have c11b1 : decide (x4_1.size + t164.size ≤ 9223372036854775807) = true := decide_eq_true c11
              try have c11b2 : (9223372036854775807 < x4_1.size + t164.size) = False := eq_false (Nat.not_lt.2 c11)
              have H' := Aside0.mk H
              clear H
              obtain ⟨Ao12, co12, eo12⟩ := Kd.R_slice HO_3.out
              subst eo12
              have p162 : 0 ≤ (x5_1 : Int) := of_decide_eq_true (by first | (with_reducible assumption) | assumption)
              have q162 : x5_1 < (t159.length : Int) := of_decide_eq_true (by first | (with_reducible assumption) | assumption)
              obtain ⟨ad162, e162, hx162_0⟩ := Kd.at_int (Kd.R_reads' HO_3.out).2.2 x5_1 p162 q162
              cases e162
              replace p162 := eq_true p162
              replace q162 := eq_true q162
              go_wp2_with (first | ((with_reducible refine gate_callee (f := 21) rfl ?_); refine goesL_ (some 23) rfl rfl Tryd.func21 (by kernel_rfl) rfl #[.int .i64 (rd t159 x5_1)] rfl (by (try simp only [List.map_toArray, List.map_cons, List.map_nil]); first | done | rfl | (simp only [List.length_drop, List.length_take]; rfl)) ?_; (with_reducible refine (caduceusref02_Small.calls (rd t159 x5_1) t163 _ A9.out).mono ?_); rintro e w' ⟨rfl, ⟨nd, rfl⟩⟩; refine ⟨_, rfl, ?_⟩) | ((with_reducible refine gate_callee (f := 33) rfl ?_); refine goesL_ (some 24) rfl rfl Tryd.func33 (by kernel_rfl) rfl #[.int .i64 t163] rfl (by (try simp only [List.map_toArray, List.map_cons, List.map_nil]); first | done | rfl | (simp only [List.length_drop, List.length_take]; rfl)) ?_; (with_reducible refine (caduceusref02_Bytes.calls t163 t164 _ A10.out).mono ?_); rintro e w13 ⟨rfl, hb⟩; refine ⟨_, rfl, ?_⟩; have n0_ := Aside0.mk (Kd.R_below (by (with_reducible repeat (first | apply Kd.R_alloc | apply Kd.R_drewN | apply Kd.R_drew)); exact HO_3.out) hb); have n1_ := Aside0.mk (below_step (by repeat (first | (with_reducible first | exact HB.out | apply below_alloc | apply pw_below_drewN | apply below_drew1) | exact HB.out)) hb); clear HO_3; clear HB; have HO_3 := n0_; have HB := n1_; clear n0_ n1_; (try clear hb); (try clear hb2); (try clear hk); (try clear hi)))
              go_roundg k1
              case measure => have := HK1.out; omega
              case rel => exact ⟨(x4_1 ++ t164), (wrap64 (x5_1 + 1)), (by first | rfl | (simp; done) | (simp [*]; done)), (by first | rfl | (simp; done) | (simp [*]; done)), H', ⟨by have := HK1.out; omega⟩, ⟨by (with_reducible repeat (first | apply Kd.R_alloc | apply Kd.R_drewN | apply Kd.R_drew)); exact HO_3.out⟩, ⟨by repeat (first | (with_reducible first | exact HB.out | apply below_alloc | apply pw_below_drewN | apply below_drew1) | exact HB.out)⟩⟩
            · rw [if_neg c11] at H
              exact absurd H (by simp)
          · rw [if_neg c8] at H
            exact absurd H (by simp)
        · rw [if_neg c7] at H
          have c7b0 : decide (x5_1 < (t159.length : Int)) = false := decide_eq_false c7
          clear c7
          obtain rfl := Option.some.inj H
          obtain ⟨Ao14, co14, eo14⟩ := Kd.R_slice HO_3.out
          subst eo14
          go_wp2
          go_ret
          exact ⟨by first | rfl | (simp [errW_none, errW_some] <;> rfl) | (simp [*, errW_none, errW_some] <;> rfl), by repeat (first | (with_reducible first | exact HB.out | apply below_alloc | apply pw_below_drewN | apply below_drew1) | exact HB.out)⟩
  · replace c3 := Bool.eq_false_iff.mpr c3
    subst c3
    have H1 : (some a0) = some r := by rw [if_neg (show ¬ (false = true) by decide)] at H; exact H
    clear H
    have H := H1
    clear H1
    obtain rfl := Option.some.inj H
    go_enter Tryd.func11, Tryd.ntmps11
    go_wp2_with (first | ((with_reducible refine gate_callee (f := 16) rfl ?_); refine goesL_ (some 7) rfl rfl Tryd.func16 (by kernel_rfl) rfl #[.string a0] rfl (by (try simp only [List.map_toArray, List.map_cons, List.map_nil]); first | done | rfl | (simp only [List.length_drop, List.length_take]; rfl)) ?_; (with_reducible refine (caduceusref02_Valid.calls k a0 false _ A2.out).mono ?_); rintro e w15 ⟨rfl, hb⟩; refine ⟨_, rfl, ?_⟩; have n0_ := Aside0.mk (below_step (by repeat (first | (with_reducible first | exact HB.out | apply below_alloc | apply pw_below_drewN | apply below_drew1) | exact HB.out)) hb); clear HB; have HB := n0_; clear n0_; (try clear hb); (try clear hb2); (try clear hk); (try clear hi)))
    go_ret
    exact ⟨by first | rfl | (simp [errW_none, errW_some] <;> rfl) | (simp [*, errW_none, errW_some] <;> rfl), by repeat (first | (with_reducible first | exact HB.out | apply below_alloc | apply pw_below_drewN | apply below_drew1) | exact HB.out)⟩

/-! ### caduceusref02_Hash: function 14 -/
def caduceusref02_Hash.l0 : Nat → ByteArray → Int → Int → Option (Int)
  | 0, _, _, _ => none
  | k + 1, x0, x3, x4 => if x4 < (x0.size : Int) then (if 0 ≤ x4 then (caduceusref02_Hash.l0 k x0 (IntKind.u64.wrap ((Go.bits .xor .u64 x3 (IntKind.u64.wrap (bt x0 x4))) * 1099511628211)) (wrap64 (x4 + 1))) else (none)) else (some x3)
def caduceusref02_Hash.f (k : Nat) (a0 : ByteArray) : Option (Int) := caduceusref02_Hash.l0 k a0 14695981039346656037 0
theorem caduceusref02_Hash.mono_l : ∀ k, (∀ y0 y1 y2, LeO (caduceusref02_Hash.l0 k y0 y1 y2) (caduceusref02_Hash.l0 (k + 1) y0 y1 y2))
  | 0 => fun _ _ _ r h => by simp [caduceusref02_Hash.l0] at h
  | k + 1 => by
    have ih0 := caduceusref02_Hash.mono_l k
    · intro y0 y1 y2
      unfold caduceusref02_Hash.l0
      repeat' first
      | (with_reducible exact ih0 _ _ _)
      | (with_reducible exact LeO.refl _)
      | (with_reducible exact LeO.none _)
      | (with_reducible refine LeO.ite ?_ ?_)
      | (with_reducible refine LeO.bind ?_ (fun _ => ?_))
      | exact ih0 _ _ _
      | exact LeO.none _
      | refine LeO.ite ?_ ?_
      | refine LeO.bind ?_ (fun _ => ?_)
theorem caduceusref02_Hash.mono : ∀ a0 k, LeO (caduceusref02_Hash.f k a0) (caduceusref02_Hash.f (k + 1) a0) := by
  intro a0 k
  have ih0 := caduceusref02_Hash.mono_l k
  unfold caduceusref02_Hash.f
  repeat' first
      | (with_reducible exact ih0 _ _ _)
      | (with_reducible exact LeO.refl _)
      | (with_reducible exact LeO.none _)
      | (with_reducible refine LeO.ite ?_ ?_)
      | (with_reducible refine LeO.bind ?_ (fun _ => ?_))
      | exact ih0 _ _ _
      | exact LeO.none _
      | refine LeO.ite ?_ ?_
      | refine LeO.bind ?_ (fun _ => ?_)
set_option maxHeartbeats 8000000 in
set_option maxRecDepth 100000 in
theorem caduceusref02_Hash.calls (k : Nat) (a0 : ByteArray) (r : Int) (w : World) (h : caduceusref02_Hash.f k a0 = some r) :
    Calls Tryd.prog 14 #[.string a0] w fun e w' => e = .returned (.int .u64 r) ∧ Drawn0 w w' := by
  have H : (caduceusref02_Hash.l0 k a0 14695981039346656037 0) = some r := h
  clear h
  have H' := Aside0.mk H
  clear H
  go_enter Tryd.func14, Tryd.ntmps14
  go_wp2
  go_loopg [3, 4] k (fun kq v3 v4 w' => ∃ (x3_1 : Int) (x4_1 : Int), v3 = .int .u64 x3_1 ∧ v4 = .int .i64 x4_1 ∧ Aside0 (caduceusref02_Hash.l0 kq a0 x3_1 x4_1 = some r) ∧ Aside0 (kq ≤ k) ∧ Drawn0 w w')
  case atStart => exact ⟨(14695981039346656037), (0), (by first | rfl | (simp; done) | (simp [*]; done)), (by first | rfl | (simp; done) | (simp [*]; done)), H', ⟨Nat.le_refl _⟩, by repeat (first | exact Drawn0.refl _ | apply Drawn0.step)⟩
  case round =>
    clear H'
    try clear c1
    obtain ⟨x3_1, x4_1, rfl, rfl, HA, HK1, ⟨m1, rfl⟩⟩ := hrel
    cases gk with
    | zero => exact absurd HA.out (by simp [caduceusref02_Hash.l0])
    | succ k1 =>
      have H := HA.out
      clear HA
      simp only [caduceusref02_Hash.l0] at H
      by_cases c2 : x4_1 < (a0.size : Int)
      · rw [if_pos c2] at H
        have c2b0 : decide (x4_1 < (a0.size : Int)) = true := decide_eq_true c2
        clear c2
        by_cases c3 : 0 ≤ x4_1
        · rw [if_pos c3] at H
          have c3b0 : decide (0 ≤ x4_1) = true := decide_eq_true c3
          clear c3
          have H' := Aside0.mk H
          clear H
          have p4 : 0 ≤ (x4_1 : Int) := of_decide_eq_true (by first | (with_reducible assumption) | assumption)
          have q4 : x4_1 < (a0.size : Int) := of_decide_eq_true (by first | (with_reducible assumption) | assumption)
          have hx4 := bt_at a0 x4_1
          replace p4 := eq_true p4
          replace q4 := eq_true q4
          go_wp2
          go_roundg k1
          case measure => have := HK1.out; omega
          case rel => exact ⟨(IntKind.u64.wrap ((Go.bits .xor .u64 x3_1 (IntKind.u64.wrap (bt a0 x4_1))) * 1099511628211)), (wrap64 (x4_1 + 1)), (by first | rfl | (simp; done) | (simp [*]; done)), (by first | rfl | (simp; done) | (simp [*]; done)), H', ⟨by have := HK1.out; omega⟩, by repeat (first | exact Drawn0.refl _ | apply Drawn0.step)⟩
        · rw [if_neg c3] at H
          exact absurd H (by simp)
      · rw [if_neg c2] at H
        have c2b0 : decide (x4_1 < (a0.size : Int)) = false := decide_eq_false c2
        clear c2
        obtain rfl := Option.some.inj H
        go_wp2
        go_ret
        exact ⟨by first | rfl | (simp; done) | (simp [*]; done), by repeat (first | exact Drawn0.refl _ | apply Drawn0.step)⟩

/-! ### caduceuslaw02_NameFolds: function 3 -/
def caduceuslaw02_NameFolds.f (k : Nat) (a0 : ByteArray) : Option (Bool) := if (a0.size : Int) > 2000 then ((caduceuslaw02_awake.f k).bind fun t165 => (some t165)) else ((caduceusref02_Fold.f k a0).bind fun t166 => ((caduceuslaw02_awake.f k).bind fun t167 => (if t167 = true then ((name_Fold.f a0).bind fun t168 => (if t168.toList = t166.toList then ((name_Hash.f k a0).bind fun t169 => ((caduceusref02_Hash.f k a0).bind fun t170 => (if t169 = t170 then ((name_Key.f k a0).bind fun t171 => ((caduceusref02_Hash.f k t166).bind fun t172 => (some (t171 == t172)))) else none))) else none)) else none)))
theorem caduceuslaw02_NameFolds.mono : ∀ a0 k, LeO (caduceuslaw02_NameFolds.f k a0) (caduceuslaw02_NameFolds.f (k + 1) a0) := by
  intro a0 k
  unfold caduceuslaw02_NameFolds.f
  repeat' first
      | (with_reducible exact caduceuslaw02_awake.mono _)
      | (with_reducible exact caduceusref02_Fold.mono _ _)
      | (with_reducible exact caduceusref02_Hash.mono _ _)
      | (with_reducible exact name_Hash.mono _ _)
      | (with_reducible exact name_Key.mono _ _)
      | (with_reducible exact LeO.refl _)
      | (with_reducible exact LeO.none _)
      | (with_reducible refine LeO.ite ?_ ?_)
      | (with_reducible refine LeO.bind ?_ (fun _ => ?_))
      | exact caduceuslaw02_awake.mono _
      | exact caduceusref02_Fold.mono _ _
      | exact caduceusref02_Hash.mono _ _
      | exact name_Hash.mono _ _
      | exact name_Key.mono _ _
      | exact LeO.none _
      | refine LeO.ite ?_ ?_
      | refine LeO.bind ?_ (fun _ => ?_)
set_option maxHeartbeats 8000000 in
set_option maxRecDepth 100000 in
theorem caduceuslaw02_NameFolds.calls (k : Nat) (a0 : ByteArray) (r : Bool) (w : World) (h : caduceuslaw02_NameFolds.f k a0 = some r) (hT : NC.TabW w) :
    Calls Tryd.prog 3 #[.string a0] w fun e w' => e = .returned (.bool r) ∧ Below w.heap.size w w' := by
  have HT := Aside0.mk hT
  clear hT
  have HB := Aside0.mk (Below.refl w.heap.size w)
  have H : (if (a0.size : Int) > 2000 then ((caduceuslaw02_awake.f k).bind fun t165 => (some t165)) else ((caduceusref02_Fold.f k a0).bind fun t166 => ((caduceuslaw02_awake.f k).bind fun t167 => (if t167 = true then ((name_Fold.f a0).bind fun t168 => (if t168.toList = t166.toList then ((name_Hash.f k a0).bind fun t169 => ((caduceusref02_Hash.f k a0).bind fun t170 => (if t169 = t170 then ((name_Key.f k a0).bind fun t171 => ((caduceusref02_Hash.f k t166).bind fun t172 => (some (t171 == t172)))) else none))) else none)) else none)))) = some r := h
  clear h
  by_cases c2 : (a0.size : Int) > 2000
  · rw [if_pos c2] at H
    have c2b0 : decide (2000 < (a0.size : Int)) = true := decide_eq_true c2
    have c2b1 : decide (2000 < a0.size) = true := decide_eq_true (by omega)
    clear c2
    replace H := Option.bind_eq_some_iff.mp H
    obtain ⟨t165, A30, H⟩ := H
    replace H : (some t165) = some r := H
    have A3 := Aside0.mk A30
    clear A30
    obtain rfl := Option.some.inj H
    go_enter Tryd.func3, Tryd.ntmps3
    go_wp2_with (first | ((with_reducible refine gate_callee (f := 10) rfl ?_); refine goesL_ (some 7) rfl rfl Tryd.func10 (by kernel_rfl) rfl #[] rfl (by (try simp only [List.map_toArray, List.map_cons, List.map_nil]); first | done | rfl | (simp only [List.length_drop, List.length_take]; rfl)) ?_; (with_reducible refine (caduceuslaw02_awake.calls k  t165 _ A3.out (NC.TabW.below HT.out (by repeat (first | (with_reducible first | exact HB.out | apply below_alloc | apply pw_below_drewN | apply below_drew1) | exact HB.out)))).mono ?_); rintro e w4 ⟨rfl, hb⟩; refine ⟨_, rfl, ?_⟩; have n0_ := Aside0.mk (below_step (by repeat (first | (with_reducible first | exact HB.out | apply below_alloc | apply pw_below_drewN | apply below_drew1) | exact HB.out)) hb); clear HB; have HB := n0_; clear n0_; (try clear hb); (try clear hb2); (try clear hk); (try clear hi)))
    go_ret
    exact ⟨by first | rfl | (simp [errW_none, errW_some] <;> rfl) | (simp [*, errW_none, errW_some] <;> rfl), by repeat (first | (with_reducible first | exact HB.out | apply below_alloc | apply pw_below_drewN | apply below_drew1) | exact HB.out)⟩
  · rw [if_neg c2] at H
    have c2b0 : decide (2000 < (a0.size : Int)) = false := decide_eq_false c2
    have c2b1 : decide (2000 < a0.size) = false := decide_eq_false (by omega)
    clear c2
    replace H := Option.bind_eq_some_iff.mp H
    obtain ⟨t166, A50, H⟩ := H
    replace H : ((caduceuslaw02_awake.f k).bind fun t167 => (if t167 = true then ((name_Fold.f a0).bind fun t168 => (if t168.toList = t166.toList then ((name_Hash.f k a0).bind fun t169 => ((caduceusref02_Hash.f k a0).bind fun t170 => (if t169 = t170 then ((name_Key.f k a0).bind fun t171 => ((caduceusref02_Hash.f k t166).bind fun t172 => (some (t171 == t172)))) else none))) else none)) else none)) = some r := H
    have A5 := Aside0.mk A50
    clear A50
    replace H := Option.bind_eq_some_iff.mp H
    obtain ⟨t167, A60, H⟩ := H
    replace H : (if t167 = true then ((name_Fold.f a0).bind fun t168 => (if t168.toList = t166.toList then ((name_Hash.f k a0).bind fun t169 => ((caduceusref02_Hash.f k a0).bind fun t170 => (if t169 = t170 then ((name_Key.f k a0).bind fun t171 => ((caduceusref02_Hash.f k t166).bind fun t172 => (some (t171 == t172)))) else none))) else none)) else none) = some r := H
    have A6 := Aside0.mk A60
    clear A60
    by_cases c7 : t167 = true
    · subst c7
      have H1 : ((name_Fold.f a0).bind fun t168 => (if t168.toList = t166.toList then ((name_Hash.f k a0).bind fun t169 => ((caduceusref02_Hash.f k a0).bind fun t170 => (if t169 = t170 then ((name_Key.f k a0).bind fun t171 => ((caduceusref02_Hash.f k t166).bind fun t172 => (some (t171 == t172)))) else none))) else none)) = some r := by rw [if_pos rfl] at H; exact H
      clear H
      have H := H1
      clear H1
      replace H := Option.bind_eq_some_iff.mp H
      obtain ⟨t168, A80, H⟩ := H
      replace H : (if t168.toList = t166.toList then ((name_Hash.f k a0).bind fun t169 => ((caduceusref02_Hash.f k a0).bind fun t170 => (if t169 = t170 then ((name_Key.f k a0).bind fun t171 => ((caduceusref02_Hash.f k t166).bind fun t172 => (some (t171 == t172)))) else none))) else none) = some r := H
      have A8 := Aside0.mk A80
      clear A80
      by_cases c9 : t168.toList = t166.toList
      · rw [if_pos c9] at H
        have c9b0 : (t168.toList == t166.toList) = true := beq_iff_eq.mpr c9
        have c9b1 : (t168.toList != t166.toList) = false := bne_eq_false_iff_eq.mpr c9
        clear c9
        replace H := Option.bind_eq_some_iff.mp H
        obtain ⟨t169, A100, H⟩ := H
        replace H : ((caduceusref02_Hash.f k a0).bind fun t170 => (if t169 = t170 then ((name_Key.f k a0).bind fun t171 => ((caduceusref02_Hash.f k t166).bind fun t172 => (some (t171 == t172)))) else none)) = some r := H
        have A10 := Aside0.mk A100
        clear A100
        replace H := Option.bind_eq_some_iff.mp H
        obtain ⟨t170, A110, H⟩ := H
        replace H : (if t169 = t170 then ((name_Key.f k a0).bind fun t171 => ((caduceusref02_Hash.f k t166).bind fun t172 => (some (t171 == t172)))) else none) = some r := H
        have A11 := Aside0.mk A110
        clear A110
        by_cases c12 : t169 = t170
        · rw [if_pos c12] at H
          have c12b0 : (t169 == t170) = true := beq_iff_eq.mpr c12
          have c12b1 : (t169 != t170) = false := bne_eq_false_iff_eq.mpr c12
          clear c12
          replace H := Option.bind_eq_some_iff.mp H
          obtain ⟨t171, A130, H⟩ := H
          replace H : ((caduceusref02_Hash.f k t166).bind fun t172 => (some (t171 == t172))) = some r := H
          have A13 := Aside0.mk A130
          clear A130
          replace H := Option.bind_eq_some_iff.mp H
          obtain ⟨t172, A140, H⟩ := H
          replace H : (some (t171 == t172)) = some r := H
          have A14 := Aside0.mk A140
          clear A140
          obtain rfl := Option.some.inj H
          go_enter Tryd.func3, Tryd.ntmps3
          go_wp2_with (first | ((with_reducible refine gate_callee (f := 11) rfl ?_); refine goesL_ (some 9) rfl rfl Tryd.func11 (by kernel_rfl) rfl #[.string a0] rfl (by (try simp only [List.map_toArray, List.map_cons, List.map_nil]); first | done | rfl | (simp only [List.length_drop, List.length_take]; rfl)) ?_; (with_reducible refine (caduceusref02_Fold.calls k a0 t166 _ A5.out).mono ?_); rintro e w15 ⟨rfl, hb⟩; refine ⟨_, rfl, ?_⟩; have n0_ := Aside0.mk (below_step (by repeat (first | (with_reducible first | exact HB.out | apply below_alloc | apply pw_below_drewN | apply below_drew1) | exact HB.out)) hb); clear HB; have HB := n0_; clear n0_; (try clear hb); (try clear hb2); (try clear hk); (try clear hi)) | ((with_reducible refine gate_callee (f := 10) rfl ?_); refine goesL_ (some 10) rfl rfl Tryd.func10 (by kernel_rfl) rfl #[] rfl (by (try simp only [List.map_toArray, List.map_cons, List.map_nil]); first | done | rfl | (simp only [List.length_drop, List.length_take]; rfl)) ?_; (with_reducible refine (caduceuslaw02_awake.calls k  true _ A6.out (NC.TabW.below HT.out (by repeat (first | (with_reducible first | exact HB.out | apply below_alloc | apply pw_below_drewN | apply below_drew1) | exact HB.out)))).mono ?_); rintro e w16 ⟨rfl, hb⟩; refine ⟨_, rfl, ?_⟩; have n0_ := Aside0.mk (below_step (by repeat (first | (with_reducible first | exact HB.out | apply below_alloc | apply pw_below_drewN | apply below_drew1) | exact HB.out)) hb); clear HB; have HB := n0_; clear n0_; (try clear hb); (try clear hb2); (try clear hk); (try clear hi)) | (go_at_call 12; (with_reducible refine (name_Fold.calls a0 t168 _ A8.out (NC.TabW.below HT.out (by repeat (first | (with_reducible first | exact HB.out | apply below_alloc | apply pw_below_drewN | apply below_drew1) | exact HB.out)))).mono ?_); rintro e w17 ⟨rfl, hb⟩; have n0_ := Aside0.mk (below_step (by repeat (first | (with_reducible first | exact HB.out | apply below_alloc | apply pw_below_drewN | apply below_drew1) | exact HB.out)) hb); clear HB; have HB := n0_; clear n0_; (try clear hb); (try clear hb2); (try clear hk); (try clear hi)) | (go_at_call 13; (with_reducible refine (name_Hash.calls k a0 t169 _ A10.out).mono ?_); rintro e w' ⟨rfl, ⟨nd, rfl⟩⟩) | (go_at_call 14; (with_reducible refine (caduceusref02_Hash.calls k a0 t170 _ A11.out).mono ?_); rintro e w' ⟨rfl, ⟨nd, rfl⟩⟩) | (go_at_call 15; (with_reducible refine (name_Key.calls k a0 t171 _ A13.out (NC.TabW.below HT.out (by repeat (first | (with_reducible first | exact HB.out | apply below_alloc | apply pw_below_drewN | apply below_drew1) | exact HB.out)))).mono ?_); rintro e w18 ⟨rfl, hb⟩; have n0_ := Aside0.mk (below_step (by repeat (first | (with_reducible first | exact HB.out | apply below_alloc | apply pw_below_drewN | apply below_drew1) | exact HB.out)) hb); clear HB; have HB := n0_; clear n0_; (try clear hb); (try clear hb2); (try clear hk); (try clear hi)) | (go_at_call 14; (with_reducible refine (caduceusref02_Hash.calls k t166 t172 _ A14.out).mono ?_); rintro e w' ⟨rfl, ⟨nd, rfl⟩⟩))
          go_ret
          exact ⟨by first | rfl | (simp [errW_none, errW_some] <;> rfl) | (simp [*, errW_none, errW_some] <;> rfl), by repeat (first | (with_reducible first | exact HB.out | apply below_alloc | apply pw_below_drewN | apply below_drew1) | exact HB.out)⟩
        · rw [if_neg c12] at H
          cases H
      · rw [if_neg c9] at H
        cases H
    · replace c7 := Bool.eq_false_iff.mpr c7
      subst c7
      have H1 : (none : Option _) = some r := by rw [if_neg (show ¬ (false = true) by decide)] at H; exact H
      cases H1
/-- THE ONE PURE STATEMENT of caduceuslaw02_NameFolds: yours. -/
def caduceuslaw02_NameFolds.Pure : Prop := ∀ (a0 : ByteArray), a0.size ≤ 140737488351232 → ∃ k, caduceuslaw02_NameFolds.f k a0 = some true
theorem caduceuslaw02_NameFolds.walk (P : caduceuslaw02_NameFolds.Pure) (a0 : ByteArray) (w : World) (w0 : a0.size ≤ 140737488351232) (hT : NC.TabW w) :
    Calls Tryd.prog 3 #[.string a0] w fun e w' => e = .returned (.bool true) ∧ Below w.heap.size w w' := by
  obtain ⟨k, h⟩ := P a0 w0
  refine (caduceuslaw02_NameFolds.calls k a0 true w h hT).mono ?_
  rintro e w' ⟨rfl, hd⟩
  exact ⟨rfl, hd⟩

/-! ### caduceusref02_Letter: function 19 -/
mutual
def caduceusref02_Letter.j0 : Nat → Int → Bool → Option (Bool)
  | 0, _, _ => none
  | k + 1, x0, x16 => if x16 = true then (some true) else (if x0 ≥ 192 then (caduceusref02_Letter.j1 k x0 (decide (x0 ≤ 591))) else (caduceusref02_Letter.j1 k x0 false))
def caduceusref02_Letter.j1 : Nat → Int → Bool → Option (Bool)
  | 0, _, _ => none
  | k + 1, x0, x22 => if x22 = true then (if x0 = 215 then (some false) else (some (x0 != 247))) else (if x0 ≥ 913 then (if x0 ≤ 937 then (some (x0 != 930)) else (if x0 ≥ 945 then (if x0 ≤ 969 then (some true) else (if x0 ≥ 1040 then (if x0 ≤ 1103 then (some true) else (if x0 ≥ 19968 then (some (decide (x0 ≤ 40959))) else (some false))) else (if x0 ≥ 19968 then (some (decide (x0 ≤ 40959))) else (some false)))) else (if x0 ≥ 1040 then (if x0 ≤ 1103 then (some true) else (if x0 ≥ 19968 then (some (decide (x0 ≤ 40959))) else (some false))) else (if x0 ≥ 19968 then (some (decide (x0 ≤ 40959))) else (some false))))) else (if x0 ≥ 945 then (if x0 ≤ 969 then (some true) else (if x0 ≥ 1040 then (if x0 ≤ 1103 then (some true) else (if x0 ≥ 19968 then (some (decide (x0 ≤ 40959))) else (some false))) else (if x0 ≥ 19968 then (some (decide (x0 ≤ 40959))) else (some false)))) else (if x0 ≥ 1040 then (if x0 ≤ 1103 then (some true) else (if x0 ≥ 19968 then (some (decide (x0 ≤ 40959))) else (some false))) else (if x0 ≥ 19968 then (some (decide (x0 ≤ 40959))) else (some false)))))
end
def caduceusref02_Letter.f (k : Nat) (a0 : Int) : Option (Bool) := if a0 ≥ 65 then (if a0 ≤ 90 then (caduceusref02_Letter.j0 k a0 true) else (if a0 ≥ 97 then (caduceusref02_Letter.j0 k a0 (decide (a0 ≤ 122))) else (caduceusref02_Letter.j0 k a0 false))) else (if a0 ≥ 97 then (caduceusref02_Letter.j0 k a0 (decide (a0 ≤ 122))) else (caduceusref02_Letter.j0 k a0 false))
theorem caduceusref02_Letter.mono_l : ∀ k, (∀ y0 y1, LeO (caduceusref02_Letter.j0 k y0 y1) (caduceusref02_Letter.j0 (k + 1) y0 y1)) ∧ (∀ y0 y1, LeO (caduceusref02_Letter.j1 k y0 y1) (caduceusref02_Letter.j1 (k + 1) y0 y1))
  | 0 => ⟨fun _ _ r h => by simp [caduceusref02_Letter.j0] at h, fun _ _ r h => by simp [caduceusref02_Letter.j1] at h⟩
  | k + 1 => by
    obtain ⟨ih0, ih1⟩ := caduceusref02_Letter.mono_l k
    refine ⟨?_, ?_⟩
    · intro y0 y1
      unfold caduceusref02_Letter.j0
      repeat' first
      | (with_reducible exact ih0 _ _)
      | (with_reducible exact ih1 _ _)
      | (with_reducible exact LeO.refl _)
      | (with_reducible exact LeO.none _)
      | (with_reducible refine LeO.ite ?_ ?_)
      | (with_reducible refine LeO.bind ?_ (fun _ => ?_))
      | exact ih0 _ _
      | exact ih1 _ _
      | exact LeO.none _
      | refine LeO.ite ?_ ?_
      | refine LeO.bind ?_ (fun _ => ?_)
    · intro y0 y1
      unfold caduceusref02_Letter.j1
      repeat' first
      | (with_reducible exact ih0 _ _)
      | (with_reducible exact ih1 _ _)
      | (with_reducible exact LeO.refl _)
      | (with_reducible exact LeO.none _)
      | (with_reducible refine LeO.ite ?_ ?_)
      | (with_reducible refine LeO.bind ?_ (fun _ => ?_))
      | exact ih0 _ _
      | exact ih1 _ _
      | exact LeO.none _
      | refine LeO.ite ?_ ?_
      | refine LeO.bind ?_ (fun _ => ?_)
theorem caduceusref02_Letter.mono : ∀ a0 k, LeO (caduceusref02_Letter.f k a0) (caduceusref02_Letter.f (k + 1) a0) := by
  intro a0 k
  obtain ⟨ih0, ih1⟩ := caduceusref02_Letter.mono_l k
  unfold caduceusref02_Letter.f
  repeat' first
      | (with_reducible exact ih0 _ _)
      | (with_reducible exact ih1 _ _)
      | (with_reducible exact LeO.refl _)
      | (with_reducible exact LeO.none _)
      | (with_reducible refine LeO.ite ?_ ?_)
      | (with_reducible refine LeO.bind ?_ (fun _ => ?_))
      | exact ih0 _ _
      | exact ih1 _ _
      | exact LeO.none _
      | refine LeO.ite ?_ ?_
      | refine LeO.bind ?_ (fun _ => ?_)
set_option maxHeartbeats 8000000 in
set_option maxRecDepth 100000 in
theorem caduceusref02_Letter.calls (k : Nat) (a0 : Int) (r : Bool) (w : World) (h : caduceusref02_Letter.f k a0 = some r) :
    Calls Tryd.prog 19 #[.int .i64 a0] w fun e w' => e = .returned (.bool r) ∧ Drawn0 w w' := by
  have H : (if a0 ≥ 65 then (if a0 ≤ 90 then (caduceusref02_Letter.j0 k a0 true) else (if a0 ≥ 97 then (caduceusref02_Letter.j0 k a0 (decide (a0 ≤ 122))) else (caduceusref02_Letter.j0 k a0 false))) else (if a0 ≥ 97 then (caduceusref02_Letter.j0 k a0 (decide (a0 ≤ 122))) else (caduceusref02_Letter.j0 k a0 false))) = some r := h
  clear h
  have HC2 := Aside0.mk H
  clear H
  go_enter Tryd.func19, Tryd.ntmps19
  go_upto_region 1 with (fail)
  go_cut [16] (fun v16 wc => ∃ (kq : Nat) (x16_1 : Bool), v16 = .bool x16_1 ∧ Aside0 (caduceusref02_Letter.j0 kq a0 x16_1 = some r) ∧ Aside0 (kq ≤ k) ∧ Drawn0 w wc)
  case first =>
    have H := HC2.out
    clear HC2
    by_cases c3 : a0 ≥ 65
    · rw [if_pos c3] at H
      have c3b0 : decide (65 ≤ a0) = true := decide_eq_true c3
      clear c3
      (first | rw [c3b0] | (simp only [i64_w, i32_w]; rw [c3b0]) | skip)
      by_cases c4 : a0 ≤ 90
      · rw [if_pos c4] at H
        have c4b0 : decide (a0 ≤ 90) = true := decide_eq_true c4
        clear c4
        have H' := Aside0.mk H
        clear H
        go_wp2
        go_meet
        case rel => exact ⟨_, (true), (by first | rfl | (simp; done) | (simp [*]; done)), H', ⟨by first | omega | exact Nat.le_refl _⟩, by repeat (first | exact Drawn0.refl _ | apply Drawn0.step)⟩
      · rw [if_neg c4] at H
        have c4b0 : decide (a0 ≤ 90) = false := decide_eq_false c4
        clear c4
        by_cases c5 : a0 ≥ 97
        · rw [if_pos c5] at H
          have c5b0 : decide (97 ≤ a0) = true := decide_eq_true c5
          clear c5
          have H' := Aside0.mk H
          clear H
          go_wp2
          go_meet
          case rel => exact ⟨_, (decide (a0 ≤ 122)), (by first | rfl | (simp; done) | (simp [*]; done)), H', ⟨by first | omega | exact Nat.le_refl _⟩, by repeat (first | exact Drawn0.refl _ | apply Drawn0.step)⟩
        · rw [if_neg c5] at H
          have c5b0 : decide (97 ≤ a0) = false := decide_eq_false c5
          clear c5
          have H' := Aside0.mk H
          clear H
          go_wp2
          go_meet
          case rel => exact ⟨_, (false), (by first | rfl | (simp; done) | (simp [*]; done)), H', ⟨by first | omega | exact Nat.le_refl _⟩, by repeat (first | exact Drawn0.refl _ | apply Drawn0.step)⟩
    · rw [if_neg c3] at H
      have c3b0 : decide (65 ≤ a0) = false := decide_eq_false c3
      clear c3
      (first | rw [c3b0] | (simp only [i64_w, i32_w]; rw [c3b0]) | skip)
      by_cases c6 : a0 ≥ 97
      · rw [if_pos c6] at H
        have c6b0 : decide (97 ≤ a0) = true := decide_eq_true c6
        clear c6
        have H' := Aside0.mk H
        clear H
        go_wp2
        go_meet
        case rel => exact ⟨_, (decide (a0 ≤ 122)), (by first | rfl | (simp; done) | (simp [*]; done)), H', ⟨by first | omega | exact Nat.le_refl _⟩, by repeat (first | exact Drawn0.refl _ | apply Drawn0.step)⟩
      · rw [if_neg c6] at H
        have c6b0 : decide (97 ≤ a0) = false := decide_eq_false c6
        clear c6
        have H' := Aside0.mk H
        clear H
        go_wp2
        go_meet
        case rel => exact ⟨_, (false), (by first | rfl | (simp; done) | (simp [*]; done)), H', ⟨by first | omega | exact Nat.le_refl _⟩, by repeat (first | exact Drawn0.refl _ | apply Drawn0.step)⟩
  case rest =>
    clear HC2
    try clear c1
    try clear p2
    try clear c3
    try clear c3b0
    try clear c4
    try clear c4b0
    try clear c5
    try clear c5b0
    try clear c6
    try clear c6b0
    obtain ⟨kq, x16_1, rfl, HA, HJ1, ⟨mc1, rfl⟩⟩ := hcut
    cases kq with
    | zero => exact absurd HA.out (by simp [caduceusref02_Letter.j0])
    | succ kj1 =>
      have H := HA.out
      clear HA
      simp only [caduceusref02_Letter.j0] at H
      by_cases c7 : x16_1 = true
      · subst c7
        have H1 : (some true) = some r := by rw [if_pos rfl] at H; exact H
        clear H
        have H := H1
        clear H1
        obtain rfl := Option.some.inj H
        go_wp2
        go_ret
        exact ⟨by first | rfl | (simp; done) | (simp [*]; done), by repeat (first | exact Drawn0.refl _ | apply Drawn0.step)⟩
      · replace c7 := Bool.eq_false_iff.mpr c7
        subst c7
        have H1 : (if a0 ≥ 192 then (caduceusref02_Letter.j1 kj1 a0 (decide (a0 ≤ 591))) else (caduceusref02_Letter.j1 kj1 a0 false)) = some r := by rw [if_neg (show ¬ (false = true) by decide)] at H; exact H
        clear H
        have H := H1
        clear H1
        have HC8 := Aside0.mk H
        clear H
        go_upto_region 3 with (fail)
        go_cut [22] (fun v22 wc => ∃ (kq : Nat) (x22_7 : Bool), v22 = .bool x22_7 ∧ Aside0 (caduceusref02_Letter.j1 kq a0 x22_7 = some r) ∧ Aside0 (kq ≤ kj1) ∧ Drawn0 w wc)
        case first =>
          have H := HC8.out
          clear HC8
          by_cases c9 : a0 ≥ 192
          · rw [if_pos c9] at H
            have c9b0 : decide (192 ≤ a0) = true := decide_eq_true c9
            clear c9
            (first | rw [c9b0] | (simp only [i64_w, i32_w]; rw [c9b0]) | skip)
            have H' := Aside0.mk H
            clear H
            go_wp2
            go_meet
            case rel => exact ⟨_, (decide (a0 ≤ 591)), (by first | rfl | (simp; done) | (simp [*]; done)), H', ⟨by have := HJ1.out; first | omega | exact Nat.le_refl _⟩, by repeat (first | exact Drawn0.refl _ | apply Drawn0.step)⟩
          · rw [if_neg c9] at H
            have c9b0 : decide (192 ≤ a0) = false := decide_eq_false c9
            clear c9
            (first | rw [c9b0] | (simp only [i64_w, i32_w]; rw [c9b0]) | skip)
            have H' := Aside0.mk H
            clear H
            go_wp2
            go_meet
            case rel => exact ⟨_, (false), (by first | rfl | (simp; done) | (simp [*]; done)), H', ⟨by have := HJ1.out; first | omega | exact Nat.le_refl _⟩, by repeat (first | exact Drawn0.refl _ | apply Drawn0.step)⟩
        case rest =>
          clear HC8
          try clear c1
          try clear p2
          try clear c3
          try clear c3b0
          try clear c4
          try clear c4b0
          try clear c5
          try clear c5b0
          try clear c6
          try clear c6b0
          try clear c7
          try clear c9
          try clear c9b0
          try clear p2
          obtain ⟨kq, x22_7, rfl, HA, HJ7, ⟨mc7, rfl⟩⟩ := hcut
          cases kq with
          | zero => exact absurd HA.out (by simp [caduceusref02_Letter.j1])
          | succ kj7 =>
            have H := HA.out
            clear HA
            simp only [caduceusref02_Letter.j1] at H
            by_cases c10 : x22_7 = true
            · subst c10
              have H1 : (if a0 = 215 then (some false) else (some (a0 != 247))) = some r := by rw [if_pos rfl] at H; exact H
              clear H
              have H := H1
              clear H1
              by_cases c11 : a0 = 215
              · rw [if_pos c11] at H
                have c11b0 : (a0 == 215) = true := beq_iff_eq.mpr c11
                have c11b1 : (a0 != 215) = false := bne_eq_false_iff_eq.mpr c11
                clear c11
                obtain rfl := Option.some.inj H
                go_wp2
                go_ret
                exact ⟨by first | rfl | (simp; done) | (simp [*]; done), by repeat (first | exact Drawn0.refl _ | apply Drawn0.step)⟩
              · rw [if_neg c11] at H
                have c11b0 : (a0 == 215) = false := beq_eq_false_iff_ne.mpr c11
                have c11b1 : (a0 != 215) = true := bne_iff_ne.mpr c11
                obtain rfl := Option.some.inj H
                go_wp2
                go_ret
                exact ⟨by first | rfl | (simp; done) | (simp [*]; done), by repeat (first | exact Drawn0.refl _ | apply Drawn0.step)⟩
            · replace c10 := Bool.eq_false_iff.mpr c10
              subst c10
              have H1 : (if a0 ≥ 913 then (if a0 ≤ 937 then (some (a0 != 930)) else (if a0 ≥ 945 then (if a0 ≤ 969 then (some true) else (if a0 ≥ 1040 then (if a0 ≤ 1103 then (some true) else (if a0 ≥ 19968 then (some (decide (a0 ≤ 40959))) else (some false))) else (if a0 ≥ 19968 then (some (decide (a0 ≤ 40959))) else (some false)))) else (if a0 ≥ 1040 then (if a0 ≤ 1103 then (some true) else (if a0 ≥ 19968 then (some (decide (a0 ≤ 40959))) else (some false))) else (if a0 ≥ 19968 then (some (decide (a0 ≤ 40959))) else (some false))))) else (if a0 ≥ 945 then (if a0 ≤ 969 then (some true) else (if a0 ≥ 1040 then (if a0 ≤ 1103 then (some true) else (if a0 ≥ 19968 then (some (decide (a0 ≤ 40959))) else (some false))) else (if a0 ≥ 19968 then (some (decide (a0 ≤ 40959))) else (some false)))) else (if a0 ≥ 1040 then (if a0 ≤ 1103 then (some true) else (if a0 ≥ 19968 then (some (decide (a0 ≤ 40959))) else (some false))) else (if a0 ≥ 19968 then (some (decide (a0 ≤ 40959))) else (some false))))) = some r := by rw [if_neg (show ¬ (false = true) by decide)] at H; exact H
              clear H
              have H := H1
              clear H1
              by_cases c12 : a0 ≥ 913
              · rw [if_pos c12] at H
                have c12b0 : decide (913 ≤ a0) = true := decide_eq_true c12
                clear c12
                by_cases c13 : a0 ≤ 937
                · rw [if_pos c13] at H
                  have c13b0 : decide (a0 ≤ 937) = true := decide_eq_true c13
                  clear c13
                  obtain rfl := Option.some.inj H
                  go_wp2
                  go_ret
                  exact ⟨by first | rfl | (simp; done) | (simp [*]; done), by repeat (first | exact Drawn0.refl _ | apply Drawn0.step)⟩
                · rw [if_neg c13] at H
                  have c13b0 : decide (a0 ≤ 937) = false := decide_eq_false c13
                  clear c13
                  by_cases c14 : a0 ≥ 945
                  · rw [if_pos c14] at H
                    have c14b0 : decide (945 ≤ a0) = true := decide_eq_true c14
                    clear c14
                    by_cases c15 : a0 ≤ 969
                    · rw [if_pos c15] at H
                      have c15b0 : decide (a0 ≤ 969) = true := decide_eq_true c15
                      clear c15
                      obtain rfl := Option.some.inj H
                      go_wp2
                      go_ret
                      exact ⟨by first | rfl | (simp; done) | (simp [*]; done), by repeat (first | exact Drawn0.refl _ | apply Drawn0.step)⟩
                    · rw [if_neg c15] at H
                      have c15b0 : decide (a0 ≤ 969) = false := decide_eq_false c15
                      clear c15
                      by_cases c16 : a0 ≥ 1040
                      · rw [if_pos c16] at H
                        have c16b0 : decide (1040 ≤ a0) = true := decide_eq_true c16
                        clear c16
                        by_cases c17 : a0 ≤ 1103
                        · rw [if_pos c17] at H
                          have c17b0 : decide (a0 ≤ 1103) = true := decide_eq_true c17
                          clear c17
                          obtain rfl := Option.some.inj H
                          go_wp2
                          go_ret
                          exact ⟨by first | rfl | (simp; done) | (simp [*]; done), by repeat (first | exact Drawn0.refl _ | apply Drawn0.step)⟩
                        · rw [if_neg c17] at H
                          have c17b0 : decide (a0 ≤ 1103) = false := decide_eq_false c17
                          clear c17
                          by_cases c18 : a0 ≥ 19968
                          · rw [if_pos c18] at H
                            have c18b0 : decide (19968 ≤ a0) = true := decide_eq_true c18
                            clear c18
                            obtain rfl := Option.some.inj H
                            go_wp2
                            go_ret
                            exact ⟨by first | rfl | (simp; done) | (simp [*]; done), by repeat (first | exact Drawn0.refl _ | apply Drawn0.step)⟩
                          · rw [if_neg c18] at H
                            have c18b0 : decide (19968 ≤ a0) = false := decide_eq_false c18
                            clear c18
                            obtain rfl := Option.some.inj H
                            go_wp2
                            go_ret
                            exact ⟨by first | rfl | (simp; done) | (simp [*]; done), by repeat (first | exact Drawn0.refl _ | apply Drawn0.step)⟩
                      · rw [if_neg c16] at H
                        have c16b0 : decide (1040 ≤ a0) = false := decide_eq_false c16
                        clear c16
                        by_cases c19 : a0 ≥ 19968
                        · rw [if_pos c19] at H
                          have c19b0 : decide (19968 ≤ a0) = true := decide_eq_true c19
                          clear c19
                          obtain rfl := Option.some.inj H
                          go_wp2
                          go_ret
                          exact ⟨by first | rfl | (simp; done) | (simp [*]; done), by repeat (first | exact Drawn0.refl _ | apply Drawn0.step)⟩
                        · rw [if_neg c19] at H
                          have c19b0 : decide (19968 ≤ a0) = false := decide_eq_false c19
                          clear c19
                          obtain rfl := Option.some.inj H
                          go_wp2
                          go_ret
                          exact ⟨by first | rfl | (simp; done) | (simp [*]; done), by repeat (first | exact Drawn0.refl _ | apply Drawn0.step)⟩
                  · rw [if_neg c14] at H
                    have c14b0 : decide (945 ≤ a0) = false := decide_eq_false c14
                    clear c14
                    by_cases c20 : a0 ≥ 1040
                    · rw [if_pos c20] at H
                      have c20b0 : decide (1040 ≤ a0) = true := decide_eq_true c20
                      clear c20
                      by_cases c21 : a0 ≤ 1103
                      · rw [if_pos c21] at H
                        have c21b0 : decide (a0 ≤ 1103) = true := decide_eq_true c21
                        clear c21
                        obtain rfl := Option.some.inj H
                        go_wp2
                        go_ret
                        exact ⟨by first | rfl | (simp; done) | (simp [*]; done), by repeat (first | exact Drawn0.refl _ | apply Drawn0.step)⟩
                      · rw [if_neg c21] at H
                        have c21b0 : decide (a0 ≤ 1103) = false := decide_eq_false c21
                        clear c21
                        by_cases c22 : a0 ≥ 19968
                        · rw [if_pos c22] at H
                          have c22b0 : decide (19968 ≤ a0) = true := decide_eq_true c22
                          clear c22
                          obtain rfl := Option.some.inj H
                          go_wp2
                          go_ret
                          exact ⟨by first | rfl | (simp; done) | (simp [*]; done), by repeat (first | exact Drawn0.refl _ | apply Drawn0.step)⟩
                        · rw [if_neg c22] at H
                          have c22b0 : decide (19968 ≤ a0) = false := decide_eq_false c22
                          clear c22
                          obtain rfl := Option.some.inj H
                          go_wp2
                          go_ret
                          exact ⟨by first | rfl | (simp; done) | (simp [*]; done), by repeat (first | exact Drawn0.refl _ | apply Drawn0.step)⟩
                    · rw [if_neg c20] at H
                      have c20b0 : decide (1040 ≤ a0) = false := decide_eq_false c20
                      clear c20
                      by_cases c23 : a0 ≥ 19968
                      · rw [if_pos c23] at H
                        have c23b0 : decide (19968 ≤ a0) = true := decide_eq_true c23
                        clear c23
                        obtain rfl := Option.some.inj H
                        go_wp2
                        go_ret
                        exact ⟨by first | rfl | (simp; done) | (simp [*]; done), by repeat (first | exact Drawn0.refl _ | apply Drawn0.step)⟩
                      · rw [if_neg c23] at H
                        have c23b0 : decide (19968 ≤ a0) = false := decide_eq_false c23
                        clear c23
                        obtain rfl := Option.some.inj H
                        go_wp2
                        go_ret
                        exact ⟨by first | rfl | (simp; done) | (simp [*]; done), by repeat (first | exact Drawn0.refl _ | apply Drawn0.step)⟩
              · rw [if_neg c12] at H
                have c12b0 : decide (913 ≤ a0) = false := decide_eq_false c12
                clear c12
                by_cases c24 : a0 ≥ 945
                · rw [if_pos c24] at H
                  have c24b0 : decide (945 ≤ a0) = true := decide_eq_true c24
                  clear c24
                  by_cases c25 : a0 ≤ 969
                  · rw [if_pos c25] at H
                    have c25b0 : decide (a0 ≤ 969) = true := decide_eq_true c25
                    clear c25
                    obtain rfl := Option.some.inj H
                    go_wp2
                    go_ret
                    exact ⟨by first | rfl | (simp; done) | (simp [*]; done), by repeat (first | exact Drawn0.refl _ | apply Drawn0.step)⟩
                  · rw [if_neg c25] at H
                    have c25b0 : decide (a0 ≤ 969) = false := decide_eq_false c25
                    clear c25
                    by_cases c26 : a0 ≥ 1040
                    · rw [if_pos c26] at H
                      have c26b0 : decide (1040 ≤ a0) = true := decide_eq_true c26
                      clear c26
                      by_cases c27 : a0 ≤ 1103
                      · rw [if_pos c27] at H
                        have c27b0 : decide (a0 ≤ 1103) = true := decide_eq_true c27
                        clear c27
                        obtain rfl := Option.some.inj H
                        go_wp2
                        go_ret
                        exact ⟨by first | rfl | (simp; done) | (simp [*]; done), by repeat (first | exact Drawn0.refl _ | apply Drawn0.step)⟩
                      · rw [if_neg c27] at H
                        have c27b0 : decide (a0 ≤ 1103) = false := decide_eq_false c27
                        clear c27
                        by_cases c28 : a0 ≥ 19968
                        · rw [if_pos c28] at H
                          have c28b0 : decide (19968 ≤ a0) = true := decide_eq_true c28
                          clear c28
                          obtain rfl := Option.some.inj H
                          go_wp2
                          go_ret
                          exact ⟨by first | rfl | (simp; done) | (simp [*]; done), by repeat (first | exact Drawn0.refl _ | apply Drawn0.step)⟩
                        · rw [if_neg c28] at H
                          have c28b0 : decide (19968 ≤ a0) = false := decide_eq_false c28
                          clear c28
                          obtain rfl := Option.some.inj H
                          go_wp2
                          go_ret
                          exact ⟨by first | rfl | (simp; done) | (simp [*]; done), by repeat (first | exact Drawn0.refl _ | apply Drawn0.step)⟩
                    · rw [if_neg c26] at H
                      have c26b0 : decide (1040 ≤ a0) = false := decide_eq_false c26
                      clear c26
                      by_cases c29 : a0 ≥ 19968
                      · rw [if_pos c29] at H
                        have c29b0 : decide (19968 ≤ a0) = true := decide_eq_true c29
                        clear c29
                        obtain rfl := Option.some.inj H
                        go_wp2
                        go_ret
                        exact ⟨by first | rfl | (simp; done) | (simp [*]; done), by repeat (first | exact Drawn0.refl _ | apply Drawn0.step)⟩
                      · rw [if_neg c29] at H
                        have c29b0 : decide (19968 ≤ a0) = false := decide_eq_false c29
                        clear c29
                        obtain rfl := Option.some.inj H
                        go_wp2
                        go_ret
                        exact ⟨by first | rfl | (simp; done) | (simp [*]; done), by repeat (first | exact Drawn0.refl _ | apply Drawn0.step)⟩
                · rw [if_neg c24] at H
                  have c24b0 : decide (945 ≤ a0) = false := decide_eq_false c24
                  clear c24
                  by_cases c30 : a0 ≥ 1040
                  · rw [if_pos c30] at H
                    have c30b0 : decide (1040 ≤ a0) = true := decide_eq_true c30
                    clear c30
                    by_cases c31 : a0 ≤ 1103
                    · rw [if_pos c31] at H
                      have c31b0 : decide (a0 ≤ 1103) = true := decide_eq_true c31
                      clear c31
                      obtain rfl := Option.some.inj H
                      go_wp2
                      go_ret
                      exact ⟨by first | rfl | (simp; done) | (simp [*]; done), by repeat (first | exact Drawn0.refl _ | apply Drawn0.step)⟩
                    · rw [if_neg c31] at H
                      have c31b0 : decide (a0 ≤ 1103) = false := decide_eq_false c31
                      clear c31
                      by_cases c32 : a0 ≥ 19968
                      · rw [if_pos c32] at H
                        have c32b0 : decide (19968 ≤ a0) = true := decide_eq_true c32
                        clear c32
                        obtain rfl := Option.some.inj H
                        go_wp2
                        go_ret
                        exact ⟨by first | rfl | (simp; done) | (simp [*]; done), by repeat (first | exact Drawn0.refl _ | apply Drawn0.step)⟩
                      · rw [if_neg c32] at H
                        have c32b0 : decide (19968 ≤ a0) = false := decide_eq_false c32
                        clear c32
                        obtain rfl := Option.some.inj H
                        go_wp2
                        go_ret
                        exact ⟨by first | rfl | (simp; done) | (simp [*]; done), by repeat (first | exact Drawn0.refl _ | apply Drawn0.step)⟩
                  · rw [if_neg c30] at H
                    have c30b0 : decide (1040 ≤ a0) = false := decide_eq_false c30
                    clear c30
                    by_cases c33 : a0 ≥ 19968
                    · rw [if_pos c33] at H
                      have c33b0 : decide (19968 ≤ a0) = true := decide_eq_true c33
                      clear c33
                      obtain rfl := Option.some.inj H
                      go_wp2
                      go_ret
                      exact ⟨by first | rfl | (simp; done) | (simp [*]; done), by repeat (first | exact Drawn0.refl _ | apply Drawn0.step)⟩
                    · rw [if_neg c33] at H
                      have c33b0 : decide (19968 ≤ a0) = false := decide_eq_false c33
                      clear c33
                      obtain rfl := Option.some.inj H
                      go_wp2
                      go_ret
                      exact ⟨by first | rfl | (simp; done) | (simp [*]; done), by repeat (first | exact Drawn0.refl _ | apply Drawn0.step)⟩

/-! ### name_Runes: function 22 -/
def name_Runes.f (a0 : ByteArray) : Option (Int) := (utf8_ValidString.f a0).bind fun t173 => (if t173 = true then ((utf8_RuneCountInString.f a0).bind fun t174 => (some t174)) else (some (-1)))
set_option maxHeartbeats 8000000 in
set_option maxRecDepth 100000 in
theorem name_Runes.calls (a0 : ByteArray) (r : Int) (w : World) (h : name_Runes.f a0 = some r) (hT : NC.TabW w) :
    Calls Tryd.prog 22 #[.string a0] w fun e w' => e = .returned (.int .i64 r) ∧ Below w.heap.size w w' := by
  have HT := Aside0.mk hT
  clear hT
  have HB := Aside0.mk (Below.refl w.heap.size w)
  have H : ((utf8_ValidString.f a0).bind fun t173 => (if t173 = true then ((utf8_RuneCountInString.f a0).bind fun t174 => (some t174)) else (some (-1)))) = some r := h
  clear h
  replace H := Option.bind_eq_some_iff.mp H
  obtain ⟨t173, A20, H⟩ := H
  replace H : (if t173 = true then ((utf8_RuneCountInString.f a0).bind fun t174 => (some t174)) else (some (-1))) = some r := H
  have A2 := Aside0.mk A20
  clear A20
  by_cases c3 : t173 = true
  · subst c3
    have H1 : ((utf8_RuneCountInString.f a0).bind fun t174 => (some t174)) = some r := by rw [if_pos rfl] at H; exact H
    clear H
    have H := H1
    clear H1
    replace H := Option.bind_eq_some_iff.mp H
    obtain ⟨t174, A40, H⟩ := H
    replace H : (some t174) = some r := H
    have A4 := Aside0.mk A40
    clear A40
    obtain rfl := Option.some.inj H
    go_enter Tryd.func22, Tryd.ntmps22
    go_wp2_with (first | ((with_reducible refine gate_callee (f := 34) rfl ?_); refine goesL_ (some 4) rfl rfl Tryd.func34 (by kernel_rfl) rfl #[.string a0] rfl (by (try simp only [List.map_toArray, List.map_cons, List.map_nil]); first | done | rfl | (simp only [List.length_drop, List.length_take]; rfl)) ?_; (with_reducible refine (utf8_ValidString.calls a0 true _ A2.out (NC.TabW.below HT.out (by repeat (first | (with_reducible first | exact HB.out | apply below_alloc | apply pw_below_drewN | apply below_drew1) | exact HB.out)))).mono ?_); rintro e w5 ⟨rfl, hb⟩; refine ⟨_, rfl, ?_⟩; have n0_ := Aside0.mk (below_step (by repeat (first | (with_reducible first | exact HB.out | apply below_alloc | apply pw_below_drewN | apply below_drew1) | exact HB.out)) hb); clear HB; have HB := n0_; clear n0_; (try clear hb); (try clear hb2); (try clear hk); (try clear hi)) | ((with_reducible refine gate_callee (f := 37) rfl ?_); refine goesL_ (some 7) rfl rfl Tryd.func37 (by kernel_rfl) rfl #[.string a0] rfl (by (try simp only [List.map_toArray, List.map_cons, List.map_nil]); first | done | rfl | (simp only [List.length_drop, List.length_take]; rfl)) ?_; (with_reducible refine (utf8_RuneCountInString.calls a0 t174 _ A4.out).mono ?_); rintro e w6 ⟨rfl, hb⟩; refine ⟨_, rfl, ?_⟩; have n0_ := Aside0.mk (below_step (by repeat (first | (with_reducible first | exact HB.out | apply below_alloc | apply pw_below_drewN | apply below_drew1) | exact HB.out)) hb); clear HB; have HB := n0_; clear n0_; (try clear hb); (try clear hb2); (try clear hk); (try clear hi)))
    go_ret
    exact ⟨by first | rfl | (simp [errW_none, errW_some] <;> rfl) | (simp [*, errW_none, errW_some] <;> rfl), by repeat (first | (with_reducible first | exact HB.out | apply below_alloc | apply pw_below_drewN | apply below_drew1) | exact HB.out)⟩
  · replace c3 := Bool.eq_false_iff.mpr c3
    subst c3
    have H1 : (some (-1)) = some r := by rw [if_neg (show ¬ (false = true) by decide)] at H; exact H
    clear H
    have H := H1
    clear H1
    obtain rfl := Option.some.inj H
    go_enter Tryd.func22, Tryd.ntmps22
    go_wp2_with (first | ((with_reducible refine gate_callee (f := 34) rfl ?_); refine goesL_ (some 4) rfl rfl Tryd.func34 (by kernel_rfl) rfl #[.string a0] rfl (by (try simp only [List.map_toArray, List.map_cons, List.map_nil]); first | done | rfl | (simp only [List.length_drop, List.length_take]; rfl)) ?_; (with_reducible refine (utf8_ValidString.calls a0 false _ A2.out (NC.TabW.below HT.out (by repeat (first | (with_reducible first | exact HB.out | apply below_alloc | apply pw_below_drewN | apply below_drew1) | exact HB.out)))).mono ?_); rintro e w7 ⟨rfl, hb⟩; refine ⟨_, rfl, ?_⟩; have n0_ := Aside0.mk (below_step (by repeat (first | (with_reducible first | exact HB.out | apply below_alloc | apply pw_below_drewN | apply below_drew1) | exact HB.out)) hb); clear HB; have HB := n0_; clear n0_; (try clear hb); (try clear hb2); (try clear hk); (try clear hi)))
    go_ret
    exact ⟨by first | rfl | (simp [errW_none, errW_some] <;> rfl) | (simp [*, errW_none, errW_some] <;> rfl), by repeat (first | (with_reducible first | exact HB.out | apply below_alloc | apply pw_below_drewN | apply below_drew1) | exact HB.out)⟩

end Go.Proofs.YtiaacpjibhnhiaaDoor.PAll
