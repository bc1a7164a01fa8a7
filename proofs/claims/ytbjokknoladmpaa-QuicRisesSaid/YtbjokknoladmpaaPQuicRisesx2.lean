-- Written by a program of this session over the kit's printer (with contracts of the session's own).
import Derived.Test.YtbjokknoladmpaaPQuicRisesx0
import Derived.Test.YtbjokknoladmpaaPQuicRisesx1
namespace Go.Proofs.Ytbjokknoladmpaa.PQuicRises
open Go.RowKit Go.Proofs.YtbjokknoladmpaaW.PrintWords Go.Proofs.YtbjokknoladmpaaW.PrintLast Go.Proofs.YtbjokknoladmpaaW.PrintMore
attribute [local go_sem] max2_int min2_int max_two min_two max_three min_three max_four min_four   -- for this text's walks alone
set_option linter.unusedVariables false
set_option linter.unusedSimpArgs false

/-! ### caduceusref01_Size: function 15 -/
def caduceusref01_Size.j0 : Nat → Int → Bool → Option (Int)
  | 0, _, _ => none
  | k + 1, x0, x8 => if x8 = true then (some 0) else (if x0 < 64 then (some 1) else (if x0 < 16384 then (some 2) else (if x0 < 1073741824 then (some 4) else (some 8))))
def caduceusref01_Size.f (k : Nat) (a0 : Int) : Option (Int) := if a0 < 0 then (caduceusref01_Size.j0 k a0 true) else (caduceusref01_Size.j0 k a0 (decide (a0 > 4611686018427387903)))
theorem caduceusref01_Size.mono_l : ∀ k, (∀ y0 y1, LeO (caduceusref01_Size.j0 k y0 y1) (caduceusref01_Size.j0 (k + 1) y0 y1))
  | 0 => fun _ _ r h => by simp [caduceusref01_Size.j0] at h
  | k + 1 => by
    have ih0 := caduceusref01_Size.mono_l k
    · intro y0 y1
      unfold caduceusref01_Size.j0
      repeat' first
      | (with_reducible exact ih0 _ _)
      | (with_reducible exact LeO.refl _)
      | (with_reducible exact LeO.none _)
      | (with_reducible refine LeO.ite ?_ ?_)
      | (with_reducible refine LeO.bind ?_ (fun _ => ?_))
      | exact ih0 _ _
      | exact LeO.none _
      | refine LeO.ite ?_ ?_
      | refine LeO.bind ?_ (fun _ => ?_)
theorem caduceusref01_Size.mono : ∀ a0 k, LeO (caduceusref01_Size.f k a0) (caduceusref01_Size.f (k + 1) a0) := by
  intro a0 k
  have ih0 := caduceusref01_Size.mono_l k
  unfold caduceusref01_Size.f
  repeat' first
      | (with_reducible exact ih0 _ _)
      | (with_reducible exact LeO.refl _)
      | (with_reducible exact LeO.none _)
      | (with_reducible refine LeO.ite ?_ ?_)
      | (with_reducible refine LeO.bind ?_ (fun _ => ?_))
      | exact ih0 _ _
      | exact LeO.none _
      | refine LeO.ite ?_ ?_
      | refine LeO.bind ?_ (fun _ => ?_)
set_option maxHeartbeats 8000000 in
set_option maxRecDepth 100000 in
theorem caduceusref01_Size.calls (k : Nat) (a0 : Int) (r : Int) (w : World) (h : caduceusref01_Size.f k a0 = some r) :
    Calls Try.prog 15 #[.int .i64 a0] w fun e w' => e = .returned (.int .i64 r) ∧ Drawn0 w w' := by
  have H : (if a0 < 0 then (caduceusref01_Size.j0 k a0 true) else (caduceusref01_Size.j0 k a0 (decide (a0 > 4611686018427387903)))) = some r := h
  clear h
  have HC2 := Aside0.mk H
  clear H
  go_enter Try.func15, Try.ntmps15
  go_upto_region 1 with (fail)
  go_cut [8] (fun v8 wc => ∃ (kq : Nat) (x8_1 : Bool), v8 = .bool x8_1 ∧ Aside0 (caduceusref01_Size.j0 kq a0 x8_1 = some r) ∧ Aside0 (kq ≤ k) ∧ Drawn0 w wc)
  case first =>
    have H := HC2.out
    clear HC2
    by_cases c3 : a0 < 0
    · rw [if_pos c3] at H
      have c3b0 : decide (a0 < 0) = true := decide_eq_true c3
      clear c3
      (first | rw [c3b0] | (simp only [i64_w, i32_w]; rw [c3b0]) | skip)
      have H' := Aside0.mk H
      clear H
      go_wp2
      go_meet
      case rel => exact ⟨_, (true), (by first | rfl | (simp; done) | (simp [*]; done)), H', ⟨by first | omega | exact Nat.le_refl _⟩, by repeat (first | exact Drawn0.refl _ | apply Drawn0.step)⟩
    · rw [if_neg c3] at H
      have c3b0 : decide (a0 < 0) = false := decide_eq_false c3
      clear c3
      (first | rw [c3b0] | (simp only [i64_w, i32_w]; rw [c3b0]) | skip)
      have H' := Aside0.mk H
      clear H
      go_wp2
      go_meet
      case rel => exact ⟨_, (decide (a0 > 4611686018427387903)), (by first | rfl | (simp; done) | (simp [*]; done)), H', ⟨by first | omega | exact Nat.le_refl _⟩, by repeat (first | exact Drawn0.refl _ | apply Drawn0.step)⟩
  case rest =>
    clear HC2
    try clear c1
    try clear p2
    try clear c3
    try clear c3b0
    obtain ⟨kq, x8_1, rfl, HA, HJ1, ⟨mc1, rfl⟩⟩ := hcut
    cases kq with
    | zero => exact absurd HA.out (by simp [caduceusref01_Size.j0])
    | succ kj1 =>
      have H := HA.out
      clear HA
      simp only [caduceusref01_Size.j0] at H
      by_cases c4 : x8_1 = true
      · subst c4
        have H1 : (some 0) = some r := by rw [if_pos rfl] at H; exact H
        clear H
        have H := H1
        clear H1
        obtain rfl := Option.some.inj H
        go_wp2
        go_ret
        exact ⟨by first | rfl | (simp; done) | (simp [*]; done), by repeat (first | exact Drawn0.refl _ | apply Drawn0.step)⟩
      · replace c4 := Bool.eq_false_iff.mpr c4
        subst c4
        have H1 : (if a0 < 64 then (some 1) else (if a0 < 16384 then (some 2) else (if a0 < 1073741824 then (some 4) else (some 8)))) = some r := by rw [if_neg (show ¬ (false = true) by decide)] at H; exact H
        clear H
        have H := H1
        clear H1
        by_cases c5 : a0 < 64
        · rw [if_pos c5] at H
          have c5b0 : decide (a0 < 64) = true := decide_eq_true c5
          clear c5
          obtain rfl := Option.some.inj H
          go_wp2
          go_ret
          exact ⟨by first | rfl | (simp; done) | (simp [*]; done), by repeat (first | exact Drawn0.refl _ | apply Drawn0.step)⟩
        · rw [if_neg c5] at H
          have c5b0 : decide (a0 < 64) = false := decide_eq_false c5
          clear c5
          by_cases c6 : a0 < 16384
          · rw [if_pos c6] at H
            have c6b0 : decide (a0 < 16384) = true := decide_eq_true c6
            clear c6
            obtain rfl := Option.some.inj H
            go_wp2
            go_ret
            exact ⟨by first | rfl | (simp; done) | (simp [*]; done), by repeat (first | exact Drawn0.refl _ | apply Drawn0.step)⟩
          · rw [if_neg c6] at H
            have c6b0 : decide (a0 < 16384) = false := decide_eq_false c6
            clear c6
            by_cases c7 : a0 < 1073741824
            · rw [if_pos c7] at H
              have c7b0 : decide (a0 < 1073741824) = true := decide_eq_true c7
              clear c7
              obtain rfl := Option.some.inj H
              go_wp2
              go_ret
              exact ⟨by first | rfl | (simp; done) | (simp [*]; done), by repeat (first | exact Drawn0.refl _ | apply Drawn0.step)⟩
            · rw [if_neg c7] at H
              have c7b0 : decide (a0 < 1073741824) = false := decide_eq_false c7
              clear c7
              obtain rfl := Option.some.inj H
              go_wp2
              go_ret
              exact ⟨by first | rfl | (simp; done) | (simp [*]; done), by repeat (first | exact Drawn0.refl _ | apply Drawn0.step)⟩

/-! ### caduceuslaw01_QuicRises: function 4 -/
def caduceuslaw01_QuicRises.j0 : Nat → Int → Int → ByteArray → ByteArray → Bool → Option (Bool)
  | 0, _, _, _, _, _ => none
  | k + 1, x0, x1, x5, x6, x18 => if x18 = true then ((caduceuslaw01_awake.f k).bind fun t121 => (if t121 = true then (if x5.toList = ([] : List UInt8) then (some true) else (some (x6.toList == ([] : List UInt8)))) else (some false))) else (if x0 ≤ x1 then (if (x5.size : Int) > (x6.size : Int) then (some false) else (if x0 ≥ x1 then (if (x5.size : Int) < (x6.size : Int) then (some false) else (if ((x5.toList == x6.toList) != (x0 == x1)) = true then (some false) else ((caduceuslaw01_awake.f k).bind fun t122 => (if t122 = true then (if (x5.size : Int) = (x6.size : Int) then (some ((Op.bytesLess x5.toList x6.toList) == (decide (x0 < x1)))) else (some true)) else (some false))))) else (if ((x5.toList == x6.toList) != (x0 == x1)) = true then (some false) else ((caduceuslaw01_awake.f k).bind fun t123 => (if t123 = true then (if (x5.size : Int) = (x6.size : Int) then (some ((Op.bytesLess x5.toList x6.toList) == (decide (x0 < x1)))) else (some true)) else (some false)))))) else (if x0 ≥ x1 then (if (x5.size : Int) < (x6.size : Int) then (some false) else (if ((x5.toList == x6.toList) != (x0 == x1)) = true then (some false) else ((caduceuslaw01_awake.f k).bind fun t124 => (if t124 = true then (if (x5.size : Int) = (x6.size : Int) then (some ((Op.bytesLess x5.toList x6.toList) == (decide (x0 < x1)))) else (some true)) else (some false))))) else (if ((x5.toList == x6.toList) != (x0 == x1)) = true then (some false) else ((caduceuslaw01_awake.f k).bind fun t125 => (if t125 = true then (if (x5.size : Int) = (x6.size : Int) then (some ((Op.bytesLess x5.toList x6.toList) == (decide (x0 < x1)))) else (some true)) else (some false))))))
def caduceuslaw01_QuicRises.f (k : Nat) (a0 : Int) (a1 : Int) : Option (Bool) := (quic_Num.f k a0).bind fun t117 => ((quic_Num.f k a1).bind fun t118 => ((caduceusref01_Size.f k a0).bind fun t119 => (if t119 = 0 then (caduceuslaw01_QuicRises.j0 k a0 a1 t117 t118 true) else ((caduceusref01_Size.f k a1).bind fun t120 => (caduceuslaw01_QuicRises.j0 k a0 a1 t117 t118 (t120 == 0))))))
theorem caduceuslaw01_QuicRises.mono_l : ∀ k, (∀ y0 y1 y2 y3 y4, LeO (caduceuslaw01_QuicRises.j0 k y0 y1 y2 y3 y4) (caduceuslaw01_QuicRises.j0 (k + 1) y0 y1 y2 y3 y4))
  | 0 => fun _ _ _ _ _ r h => by simp [caduceuslaw01_QuicRises.j0] at h
  | k + 1 => by
    have ih0 := caduceuslaw01_QuicRises.mono_l k
    · intro y0 y1 y2 y3 y4
      unfold caduceuslaw01_QuicRises.j0
      repeat' first
      | (with_reducible exact ih0 _ _ _ _ _)
      | (with_reducible exact caduceuslaw01_awake.mono _)
      | (with_reducible exact caduceusref01_Size.mono _ _)
      | (with_reducible exact quic_Num.mono _ _)
      | (with_reducible exact LeO.refl _)
      | (with_reducible exact LeO.none _)
      | (with_reducible refine LeO.ite ?_ ?_)
      | (with_reducible refine LeO.bind ?_ (fun _ => ?_))
      | exact ih0 _ _ _ _ _
      | exact caduceuslaw01_awake.mono _
      | exact caduceusref01_Size.mono _ _
      | exact quic_Num.mono _ _
      | exact LeO.none _
      | refine LeO.ite ?_ ?_
      | refine LeO.bind ?_ (fun _ => ?_)
theorem caduceuslaw01_QuicRises.mono : ∀ a0 a1 k, LeO (caduceuslaw01_QuicRises.f k a0 a1) (caduceuslaw01_QuicRises.f (k + 1) a0 a1) := by
  intro a0 a1 k
  have ih0 := caduceuslaw01_QuicRises.mono_l k
  unfold caduceuslaw01_QuicRises.f
  repeat' first
      | (with_reducible exact ih0 _ _ _ _ _)
      | (with_reducible exact caduceuslaw01_awake.mono _)
      | (with_reducible exact caduceusref01_Size.mono _ _)
      | (with_reducible exact quic_Num.mono _ _)
      | (with_reducible exact LeO.refl _)
      | (with_reducible exact LeO.none _)
      | (with_reducible refine LeO.ite ?_ ?_)
      | (with_reducible refine LeO.bind ?_ (fun _ => ?_))
      | exact ih0 _ _ _ _ _
      | exact caduceuslaw01_awake.mono _
      | exact caduceusref01_Size.mono _ _
      | exact quic_Num.mono _ _
      | exact LeO.none _
      | refine LeO.ite ?_ ?_
      | refine LeO.bind ?_ (fun _ => ?_)
set_option maxHeartbeats 8000000 in
set_option maxRecDepth 100000 in
theorem caduceuslaw01_QuicRises.calls (k : Nat) (a0 : Int) (a1 : Int) (r : Bool) (w : World) (h : caduceuslaw01_QuicRises.f k a0 a1 = some r) :
    Calls Try.prog 4 #[.int .i64 a0, .int .i64 a1] w fun e w' => e = .returned (.bool r) ∧ Below w.heap.size w w' := by
  have HB := Aside0.mk (Below.refl w.heap.size w)
  have H : ((quic_Num.f k a0).bind fun t117 => ((quic_Num.f k a1).bind fun t118 => ((caduceusref01_Size.f k a0).bind fun t119 => (if t119 = 0 then (caduceuslaw01_QuicRises.j0 k a0 a1 t117 t118 true) else ((caduceusref01_Size.f k a1).bind fun t120 => (caduceuslaw01_QuicRises.j0 k a0 a1 t117 t118 (t120 == 0))))))) = some r := h
  clear h
  replace H := Option.bind_eq_some_iff.mp H
  obtain ⟨t117, A30, H⟩ := H
  replace H : ((quic_Num.f k a1).bind fun t118 => ((caduceusref01_Size.f k a0).bind fun t119 => (if t119 = 0 then (caduceuslaw01_QuicRises.j0 k a0 a1 t117 t118 true) else ((caduceusref01_Size.f k a1).bind fun t120 => (caduceuslaw01_QuicRises.j0 k a0 a1 t117 t118 (t120 == 0)))))) = some r := H
  have A3 := Aside0.mk A30
  clear A30
  replace H := Option.bind_eq_some_iff.mp H
  obtain ⟨t118, A40, H⟩ := H
  replace H : ((caduceusref01_Size.f k a0).bind fun t119 => (if t119 = 0 then (caduceuslaw01_QuicRises.j0 k a0 a1 t117 t118 true) else ((caduceusref01_Size.f k a1).bind fun t120 => (caduceuslaw01_QuicRises.j0 k a0 a1 t117 t118 (t120 == 0))))) = some r := H
  have A4 := Aside0.mk A40
  clear A40
  have HC5 := Aside0.mk H
  clear H
  go_enter Try.func4, Try.ntmps4
  go_upto_region 2 with (first | ((with_reducible refine gate_callee (f := 14) rfl ?_); refine goesL_ (some 8) rfl rfl Try.func14 (by kernel_rfl) rfl #[.int .i64 a0] rfl (by (try simp only [List.map_toArray, List.map_cons, List.map_nil]); first | done | rfl | (simp only [List.length_drop, List.length_take]; rfl)) ?_; (with_reducible refine (quic_Num.calls k a0 t117 _ A3.out).mono ?_); rintro e w6 ⟨rfl, hb⟩; refine ⟨_, rfl, ?_⟩; have n0_ := Aside0.mk (below_step (by repeat (first | (with_reducible first | exact HB.out | apply below_alloc | apply pw_below_drewN | apply below_drew1) | exact HB.out)) hb); clear HB; have HB := n0_; clear n0_; (try clear hb); (try clear hb2); (try clear hk); (try clear hi)) | ((with_reducible refine gate_callee (f := 14) rfl ?_); refine goesL_ (some 10) rfl rfl Try.func14 (by kernel_rfl) rfl #[.int .i64 a1] rfl (by (try simp only [List.map_toArray, List.map_cons, List.map_nil]); first | done | rfl | (simp only [List.length_drop, List.length_take]; rfl)) ?_; (with_reducible refine (quic_Num.calls k a1 t118 _ A4.out).mono ?_); rintro e w7 ⟨rfl, hb⟩; refine ⟨_, rfl, ?_⟩; have n0_ := Aside0.mk (below_step (by repeat (first | (with_reducible first | exact HB.out | apply below_alloc | apply pw_below_drewN | apply below_drew1) | exact HB.out)) hb); clear HB; have HB := n0_; clear n0_; (try clear hb); (try clear hb2); (try clear hk); (try clear hi)))
  (try simp only [Act.put, List.setIfInBounds_toArray, List.set_cons_zero, List.set_cons_succ])
  go_cut [18] (fun v18 wc => ∃ (kq : Nat) (x18_4 : Bool), v18 = .bool x18_4 ∧ Aside0 (caduceuslaw01_QuicRises.j0 kq a0 a1 t117 t118 x18_4 = some r) ∧ Aside0 (kq ≤ k) ∧ Aside0 (Below w.heap.size w wc))
  case first =>
    have H := HC5.out
    clear HC5
    replace H := Option.bind_eq_some_iff.mp H
    obtain ⟨t119, A80, H⟩ := H
    replace H : (if t119 = 0 then (caduceuslaw01_QuicRises.j0 k a0 a1 t117 t118 true) else ((caduceusref01_Size.f k a1).bind fun t120 => (caduceuslaw01_QuicRises.j0 k a0 a1 t117 t118 (t120 == 0)))) = some r := H
    have A8 := Aside0.mk A80
    clear A80
    by_cases c9 : t119 = 0
    · rw [if_pos c9] at H
      have c9b0 : (t119 == 0) = true := beq_iff_eq.mpr c9
      have c9b1 : (t119 != 0) = false := bne_eq_false_iff_eq.mpr c9
      clear c9
      (first | rw [c9b0] | (simp only [i64_w, i32_w]; rw [c9b0]) | skip)
      have H' := Aside0.mk H
      clear H
      go_wp2_with (first | ((with_reducible refine gate_callee (f := 15) rfl ?_); refine goesL_ (some 12) rfl rfl Try.func15 (by kernel_rfl) rfl #[.int .i64 a0] rfl (by (try simp only [List.map_toArray, List.map_cons, List.map_nil]); first | done | rfl | (simp only [List.length_drop, List.length_take]; rfl)) ?_; (with_reducible refine (caduceusref01_Size.calls k a0 t119 _ A8.out).mono ?_); rintro e w' ⟨rfl, ⟨nd, rfl⟩⟩; refine ⟨_, rfl, ?_⟩))
      go_meet
      case rel => exact ⟨_, (true), (by first | rfl | (simp; done) | (simp [*]; done)), H', ⟨by first | omega | exact Nat.le_refl _⟩, ⟨by repeat (first | (with_reducible first | exact HB.out | apply below_alloc | apply pw_below_drewN | apply below_drew1) | exact HB.out)⟩⟩
    · rw [if_neg c9] at H
      have c9b0 : (t119 == 0) = false := beq_eq_false_iff_ne.mpr c9
      have c9b1 : (t119 != 0) = true := bne_iff_ne.mpr c9
      (first | rw [c9b0] | (simp only [i64_w, i32_w]; rw [c9b0]) | skip)
      replace H := Option.bind_eq_some_iff.mp H
      obtain ⟨t120, A100, H⟩ := H
      replace H : (caduceuslaw01_QuicRises.j0 k a0 a1 t117 t118 (t120 == 0)) = some r := H
      have A10 := Aside0.mk A100
      clear A100
      have H' := Aside0.mk H
      clear H
      go_wp2_with (first | ((with_reducible refine gate_callee (f := 15) rfl ?_); refine goesL_ (some 12) rfl rfl Try.func15 (by kernel_rfl) rfl #[.int .i64 a0] rfl (by (try simp only [List.map_toArray, List.map_cons, List.map_nil]); first | done | rfl | (simp only [List.length_drop, List.length_take]; rfl)) ?_; (with_reducible refine (caduceusref01_Size.calls k a0 t119 _ A8.out).mono ?_); rintro e w' ⟨rfl, ⟨nd, rfl⟩⟩; refine ⟨_, rfl, ?_⟩) | (go_at_call 15; (with_reducible refine (caduceusref01_Size.calls k a1 t120 _ A10.out).mono ?_); rintro e w' ⟨rfl, ⟨nd, rfl⟩⟩))
      go_meet
      case rel => exact ⟨_, ((t120 == 0)), (by first | rfl | (simp; done) | (simp [*]; done)), H', ⟨by first | omega | exact Nat.le_refl _⟩, ⟨by repeat (first | (with_reducible first | exact HB.out | apply below_alloc | apply pw_below_drewN | apply below_drew1) | exact HB.out)⟩⟩
  case rest =>
    clear HC5
    try clear c1
    try clear p2
    try clear c4
    try clear c9
    try clear c9b0
    try clear c9b1
    obtain ⟨kq, x18_4, rfl, HA, HJ4, HB⟩ := hcut
    cases kq with
    | zero => exact absurd HA.out (by simp [caduceuslaw01_QuicRises.j0])
    | succ kj4 =>
      have H := HA.out
      clear HA
      simp only [caduceuslaw01_QuicRises.j0] at H
      by_cases c11 : x18_4 = true
      · subst c11
        have H1 : ((caduceuslaw01_awake.f kj4).bind fun t121 => (if t121 = true then (if t117.toList = ([] : List UInt8) then (some true) else (some (t118.toList == ([] : List UInt8)))) else (some false))) = some r := by rw [if_pos rfl] at H; exact H
        clear H
        have H := H1
        clear H1
        replace H := Option.bind_eq_some_iff.mp H
        obtain ⟨t121, A120, H⟩ := H
        replace H : (if t121 = true then (if t117.toList = ([] : List UInt8) then (some true) else (some (t118.toList == ([] : List UInt8)))) else (some false)) = some r := H
        have A12 := Aside0.mk A120
        clear A120
        by_cases c13 : t121 = true
        · subst c13
          have H1 : (if t117.toList = ([] : List UInt8) then (some true) else (some (t118.toList == ([] : List UInt8)))) = some r := by rw [if_pos rfl] at H; exact H
          clear H
          have H := H1
          clear H1
          by_cases c14 : t117.toList = ([] : List UInt8)
          · rw [if_pos c14] at H
            have c14b0 : (t117.toList == ([] : List UInt8)) = true := beq_iff_eq.mpr c14
            have c14b1 : (t117.toList != ([] : List UInt8)) = false := bne_eq_false_iff_eq.mpr c14
            clear c14
            obtain rfl := Option.some.inj H
            go_wp2_with (first | ((with_reducible refine gate_callee (f := 13) rfl ?_); refine goesL_ (some 19) rfl rfl Try.func13 (by kernel_rfl) rfl #[] rfl (by (try simp only [List.map_toArray, List.map_cons, List.map_nil]); first | done | rfl | (simp only [List.length_drop, List.length_take]; rfl)) ?_; (with_reducible refine (caduceuslaw01_awake.calls kj4  true _ A12.out).mono ?_); rintro e w15 ⟨rfl, hb⟩; refine ⟨_, rfl, ?_⟩; have n0_ := Aside0.mk (below_step (by repeat (first | (with_reducible first | exact HB.out | apply below_alloc | apply pw_below_drewN | apply below_drew1) | exact HB.out)) hb); clear HB; have HB := n0_; clear n0_; (try clear hb); (try clear hb2); (try clear hk); (try clear hi)))
            go_ret
            exact ⟨by first | rfl | (simp [errW_none, errW_some] <;> rfl) | (simp [*, errW_none, errW_some] <;> rfl), by repeat (first | (with_reducible first | exact HB.out | apply below_alloc | apply pw_below_drewN | apply below_drew1) | exact HB.out)⟩
          · rw [if_neg c14] at H
            have c14b0 : (t117.toList == ([] : List UInt8)) = false := beq_eq_false_iff_ne.mpr c14
            have c14b1 : (t117.toList != ([] : List UInt8)) = true := bne_iff_ne.mpr c14
            obtain rfl := Option.some.inj H
            go_wp2_with (first | ((with_reducible refine gate_callee (f := 13) rfl ?_); refine goesL_ (some 19) rfl rfl Try.func13 (by kernel_rfl) rfl #[] rfl (by (try simp only [List.map_toArray, List.map_cons, List.map_nil]); first | done | rfl | (simp only [List.length_drop, List.length_take]; rfl)) ?_; (with_reducible refine (caduceuslaw01_awake.calls kj4  true _ A12.out).mono ?_); rintro e w16 ⟨rfl, hb⟩; refine ⟨_, rfl, ?_⟩; have n0_ := Aside0.mk (below_step (by repeat (first | (with_reducible first | exact HB.out | apply below_alloc | apply pw_below_drewN | apply below_drew1) | exact HB.out)) hb); clear HB; have HB := n0_; clear n0_; (try clear hb); (try clear hb2); (try clear hk); (try clear hi)))
            go_ret
            exact ⟨by first | rfl | (simp [errW_none, errW_some] <;> rfl) | (simp [*, errW_none, errW_some] <;> rfl), by repeat (first | (with_reducible first | exact HB.out | apply below_alloc | apply pw_below_drewN | apply below_drew1) | exact HB.out)⟩
        · replace c13 := Bool.eq_false_iff.mpr c13
          subst c13
          have H1 : (some false) = some r := by rw [if_neg (show ¬ (false = true) by decide)] at H; exact H
          clear H
          have H := H1
          clear H1
          obtain rfl := Option.some.inj H
          go_wp2_with (first | ((with_reducible refine gate_callee (f := 13) rfl ?_); refine goesL_ (some 19) rfl rfl Try.func13 (by kernel_rfl) rfl #[] rfl (by (try simp only [List.map_toArray, List.map_cons, List.map_nil]); first | done | rfl | (simp only [List.length_drop, List.length_take]; rfl)) ?_; (with_reducible refine (caduceuslaw01_awake.calls kj4  false _ A12.out).mono ?_); rintro e w17 ⟨rfl, hb⟩; refine ⟨_, rfl, ?_⟩; have n0_ := Aside0.mk (below_step (by repeat (first | (with_reducible first | exact HB.out | apply below_alloc | apply pw_below_drewN | apply below_drew1) | exact HB.out)) hb); clear HB; have HB := n0_; clear n0_; (try clear hb); (try clear hb2); (try clear hk); (try clear hi)))
          go_ret
          exact ⟨by first | rfl | (simp [errW_none, errW_some] <;> rfl) | (simp [*, errW_none, errW_some] <;> rfl), by repeat (first | (with_reducible first | exact HB.out | apply below_alloc | apply pw_below_drewN | apply below_drew1) | exact HB.out)⟩
      · replace c11 := Bool.eq_false_iff.mpr c11
        subst c11
        have H1 : (if a0 ≤ a1 then (if (t117.size : Int) > (t118.size : Int) then (some false) else (if a0 ≥ a1 then (if (t117.size : Int) < (t118.size : Int) then (some false) else (if ((t117.toList == t118.toList) != (a0 == a1)) = true then (some false) else ((caduceuslaw01_awake.f kj4).bind fun t122 => (if t122 = true then (if (t117.size : Int) = (t118.size : Int) then (some ((Op.bytesLess t117.toList t118.toList) == (decide (a0 < a1)))) else (some true)) else (some false))))) else (if ((t117.toList == t118.toList) != (a0 == a1)) = true then (some false) else ((caduceuslaw01_awake.f kj4).bind fun t123 => (if t123 = true then (if (t117.size : Int) = (t118.size : Int) then (some ((Op.bytesLess t117.toList t118.toList) == (decide (a0 < a1)))) else (some true)) else (some false)))))) else (if a0 ≥ a1 then (if (t117.size : Int) < (t118.size : Int) then (some false) else (if ((t117.toList == t118.toList) != (a0 == a1)) = true then (some false) else ((caduceuslaw01_awake.f kj4).bind fun t124 => (if t124 = true then (if (t117.size : Int) = (t118.size : Int) then (some ((Op.bytesLess t117.toList t118.toList) == (decide (a0 < a1)))) else (some true)) else (some false))))) else (if ((t117.toList == t118.toList) != (a0 == a1)) = true then (some false) else ((caduceuslaw01_awake.f kj4).bind fun t125 => (if t125 = true then (if (t117.size : Int) = (t118.size : Int) then (some ((Op.bytesLess t117.toList t118.toList) == (decide (a0 < a1)))) else (some true)) else (some false)))))) = some r := by rw [if_neg (show ¬ (false = true) by decide)] at H; exact H
        clear H
        have H := H1
        clear H1
        by_cases c18 : a0 ≤ a1
        · rw [if_pos c18] at H
          have c18b0 : decide (a0 ≤ a1) = true := decide_eq_true c18
          clear c18
          by_cases c19 : (t117.size : Int) > (t118.size : Int)
          · rw [if_pos c19] at H
            have c19b0 : decide ((t118.size : Int) < (t117.size : Int)) = true := decide_eq_true c19
            have c19b1 : decide (t118.size < t117.size) = true := decide_eq_true (Int.ofNat_lt.mp c19)
            clear c19
            obtain rfl := Option.some.inj H
            go_wp2
            go_ret
            exact ⟨by first | rfl | (simp [errW_none, errW_some] <;> rfl) | (simp [*, errW_none, errW_some] <;> rfl), by repeat (first | (with_reducible first | exact HB.out | apply below_alloc | apply pw_below_drewN | apply below_drew1) | exact HB.out)⟩
          · rw [if_neg c19] at H
            have c19b0 : decide ((t118.size : Int) < (t117.size : Int)) = false := decide_eq_false c19
            have c19b1 : decide (t118.size < t117.size) = false := decide_eq_false (fun h => c19 (Int.ofNat_lt.mpr h))
            clear c19
            by_cases c20 : a0 ≥ a1
            · rw [if_pos c20] at H
              have c20b0 : decide (a1 ≤ a0) = true := decide_eq_true c20
              clear c20
              by_cases c21 : (t117.size : Int) < (t118.size : Int)
              · rw [if_pos c21] at H
                have c21b0 : decide ((t117.size : Int) < (t118.size : Int)) = true := decide_eq_true c21
                have c21b1 : decide (t117.size < t118.size) = true := decide_eq_true (Int.ofNat_lt.mp c21)
                clear c21
                obtain rfl := Option.some.inj H
                go_wp2
                go_ret
                exact ⟨by first | rfl | (simp [errW_none, errW_some] <;> rfl) | (simp [*, errW_none, errW_some] <;> rfl), by repeat (first | (with_reducible first | exact HB.out | apply below_alloc | apply pw_below_drewN | apply below_drew1) | exact HB.out)⟩
              · rw [if_neg c21] at H
                have c21b0 : decide ((t117.size : Int) < (t118.size : Int)) = false := decide_eq_false c21
                have c21b1 : decide (t117.size < t118.size) = false := decide_eq_false (fun h => c21 (Int.ofNat_lt.mpr h))
                clear c21
                by_cases c22 : ((t117.toList == t118.toList) != (a0 == a1)) = true
                · rw [if_pos c22] at H
                  have c22b0 : ((t117.toList == t118.toList) != (a0 == a1)) = true := c22
                  (try (have c22b1 : decide ((t117.toList == t118.toList) = (a0 == a1)) = false := by simpa using c22))
                  (try (have c22b2 : ((t117.toList == t118.toList) == (a0 == a1)) = false := by simpa using c22))
                  (try (have c22b3 : ¬ ((t117.toList == t118.toList) = (a0 == a1)) := by simpa using c22))
                  clear c22
                  obtain rfl := Option.some.inj H
                  go_wp2
                  go_ret
                  exact ⟨by first | rfl | (simp [errW_none, errW_some] <;> rfl) | (simp [*, errW_none, errW_some] <;> rfl), by repeat (first | (with_reducible first | exact HB.out | apply below_alloc | apply pw_below_drewN | apply below_drew1) | exact HB.out)⟩
                · rw [if_neg c22] at H
                  have c22b0 : ((t117.toList == t118.toList) != (a0 == a1)) = false := by simpa using c22
                  (try (have c22b1 : decide ((t117.toList == t118.toList) = (a0 == a1)) = true := by simpa using c22))
                  (try (have c22b2 : ((t117.toList == t118.toList) == (a0 == a1)) = true := by simpa using c22))
                  clear c22
                  replace H := Option.bind_eq_some_iff.mp H
                  obtain ⟨t122, A230, H⟩ := H
                  replace H : (if t122 = true then (if (t117.size : Int) = (t118.size : Int) then (some ((Op.bytesLess t117.toList t118.toList) == (decide (a0 < a1)))) else (some true)) else (some false)) = some r := H
                  have A23 := Aside0.mk A230
                  clear A230
                  by_cases c24 : t122 = true
                  · subst c24
                    have H1 : (if (t117.size : Int) = (t118.size : Int) then (some ((Op.bytesLess t117.toList t118.toList) == (decide (a0 < a1)))) else (some true)) = some r := by rw [if_pos rfl] at H; exact H
                    clear H
                    have H := H1
                    clear H1
                    by_cases c25 : (t117.size : Int) = (t118.size : Int)
                    · rw [if_pos c25] at H
                      have c25b0 : ((t117.size : Int) == (t118.size : Int)) = true := beq_iff_eq.mpr c25
                      have c25b1 : ((t117.size : Int) != (t118.size : Int)) = false := bne_eq_false_iff_eq.mpr c25
                      have c25b2 : (t117.size == t118.size) = true := by first | simpa using c25 | (simp at c25 ⊢; omega)
                      clear c25
                      obtain rfl := Option.some.inj H
                      go_wp2_with (first | ((with_reducible refine gate_callee (f := 13) rfl ?_); refine goesL_ (some 59) rfl rfl Try.func13 (by kernel_rfl) rfl #[] rfl (by (try simp only [List.map_toArray, List.map_cons, List.map_nil]); first | done | rfl | (simp only [List.length_drop, List.length_take]; rfl)) ?_; (with_reducible refine (caduceuslaw01_awake.calls kj4  true _ A23.out).mono ?_); rintro e w26 ⟨rfl, hb⟩; refine ⟨_, rfl, ?_⟩; have n0_ := Aside0.mk (below_step (by repeat (first | (with_reducible first | exact HB.out | apply below_alloc | apply pw_below_drewN | apply below_drew1) | exact HB.out)) hb); clear HB; have HB := n0_; clear n0_; (try clear hb); (try clear hb2); (try clear hk); (try clear hi)))
                      go_ret
                      exact ⟨by first | rfl | (simp [errW_none, errW_some] <;> rfl) | (simp [*, errW_none, errW_some] <;> rfl), by repeat (first | (with_reducible first | exact HB.out | apply below_alloc | apply pw_below_drewN | apply below_drew1) | exact HB.out)⟩
                    · rw [if_neg c25] at H
                      have c25b0 : ((t117.size : Int) == (t118.size : Int)) = false := beq_eq_false_iff_ne.mpr c25
                      have c25b1 : ((t117.size : Int) != (t118.size : Int)) = true := bne_iff_ne.mpr c25
                      have c25b2 : (t117.size == t118.size) = false := by first | simpa using c25 | (simp at c25 ⊢; omega)
                      obtain rfl := Option.some.inj H
                      go_wp2_with (first | ((with_reducible refine gate_callee (f := 13) rfl ?_); refine goesL_ (some 59) rfl rfl Try.func13 (by kernel_rfl) rfl #[] rfl (by (try simp only [List.map_toArray, List.map_cons, List.map_nil]); first | done | rfl | (simp only [List.length_drop, List.length_take]; rfl)) ?_; (with_reducible refine (caduceuslaw01_awake.calls kj4  true _ A23.out).mono ?_); rintro e w27 ⟨rfl, hb⟩; refine ⟨_, rfl, ?_⟩; have n0_ := Aside0.mk (below_step (by repeat (first | (with_reducible first | exact HB.out | apply below_alloc | apply pw_below_drewN | apply below_drew1) | exact HB.out)) hb); clear HB; have HB := n0_; clear n0_; (try clear hb); (try clear hb2); (try clear hk); (try clear hi)))
                      go_ret
                      exact ⟨by first | rfl | (simp [errW_none, errW_some] <;> rfl) | (simp [*, errW_none, errW_some] <;> rfl), by repeat (first | (with_reducible first | exact HB.out | apply below_alloc | apply pw_below_drewN | apply below_drew1) | exact HB.out)⟩
                  · replace c24 := Bool.eq_false_iff.mpr c24
                    subst c24
                    have H1 : (some false) = some r := by rw [if_neg (show ¬ (false = true) by decide)] at H; exact H
                    clear H
                    have H := H1
                    clear H1
                    obtain rfl := Option.some.inj H
                    go_wp2_with (first | ((with_reducible refine gate_callee (f := 13) rfl ?_); refine goesL_ (some 59) rfl rfl Try.func13 (by kernel_rfl) rfl #[] rfl (by (try simp only [List.map_toArray, List.map_cons, List.map_nil]); first | done | rfl | (simp only [List.length_drop, List.length_take]; rfl)) ?_; (with_reducible refine (caduceuslaw01_awake.calls kj4  false _ A23.out).mono ?_); rintro e w28 ⟨rfl, hb⟩; refine ⟨_, rfl, ?_⟩; have n0_ := Aside0.mk (below_step (by repeat (first | (with_reducible first | exact HB.out | apply below_alloc | apply pw_below_drewN | apply below_drew1) | exact HB.out)) hb); clear HB; have HB := n0_; clear n0_; (try clear hb); (try clear hb2); (try clear hk); (try clear hi)))
                    go_ret
                    exact ⟨by first | rfl | (simp [errW_none, errW_some] <;> rfl) | (simp [*, errW_none, errW_some] <;> rfl), by repeat (first | (with_reducible first | exact HB.out | apply below_alloc | apply pw_below_drewN | apply below_drew1) | exact HB.out)⟩
            · rw [if_neg c20] at H
              have c20b0 : decide (a1 ≤ a0) = false := decide_eq_false c20
              clear c20
              by_cases c29 : ((t117.toList == t118.toList) != (a0 == a1)) = true
              · rw [if_pos c29] at H
                have c29b0 : ((t117.toList == t118.toList) != (a0 == a1)) = true := c29
                (try (have c29b1 : decide ((t117.toList == t118.toList) = (a0 == a1)) = false := by simpa using c29))
                (try (have c29b2 : ((t117.toList == t118.toList) == (a0 == a1)) = false := by simpa using c29))
                (try (have c29b3 : ¬ ((t117.toList == t118.toList) = (a0 == a1)) := by simpa using c29))
                clear c29
                obtain rfl := Option.some.inj H
                go_wp2
                go_ret
                exact ⟨by first | rfl | (simp [errW_none, errW_some] <;> rfl) | (simp [*, errW_none, errW_some] <;> rfl), by repeat (first | (with_reducible first | exact HB.out | apply below_alloc | apply pw_below_drewN | apply below_drew1) | exact HB.out)⟩
              · rw [if_neg c29] at H
                have c29b0 : ((t117.toList == t118.toList) != (a0 == a1)) = false := by simpa using c29
                (try (have c29b1 : decide ((t117.toList == t118.toList) = (a0 == a1)) = true := by simpa using c29))
                (try (have c29b2 : ((t117.toList == t118.toList) == (a0 == a1)) = true := by simpa using c29))
                clear c29
                replace H := Option.bind_eq_some_iff.mp H
                obtain ⟨t123, A300, H⟩ := H
                replace H : (if t123 = true then (if (t117.size : Int) = (t118.size : Int) then (some ((Op.bytesLess t117.toList t118.toList) == (decide (a0 < a1)))) else (some true)) else (some false)) = some r := H
                have A30 := Aside0.mk A300
                clear A300
                by_cases c31 : t123 = true
                · subst c31
                  have H1 : (if (t117.size : Int) = (t118.size : Int) then (some ((Op.bytesLess t117.toList t118.toList) == (decide (a0 < a1)))) else (some true)) = some r := by rw [if_pos rfl] at H; exact H
                  clear H
                  have H := H1
                  clear H1
                  by_cases c32 : (t117.size : Int) = (t118.size : Int)
                  · rw [if_pos c32] at H
                    have c32b0 : ((t117.size : Int) == (t118.size : Int)) = true := beq_iff_eq.mpr c32
                    have c32b1 : ((t117.size : Int) != (t118.size : Int)) = false := bne_eq_false_iff_eq.mpr c32
                    have c32b2 : (t117.size == t118.size) = true := by first | simpa using c32 | (simp at c32 ⊢; omega)
                    clear c32
                    obtain rfl := Option.some.inj H
                    go_wp2_with (first | ((with_reducible refine gate_callee (f := 13) rfl ?_); refine goesL_ (some 59) rfl rfl Try.func13 (by kernel_rfl) rfl #[] rfl (by (try simp only [List.map_toArray, List.map_cons, List.map_nil]); first | done | rfl | (simp only [List.length_drop, List.length_take]; rfl)) ?_; (with_reducible refine (caduceuslaw01_awake.calls kj4  true _ A30.out).mono ?_); rintro e w33 ⟨rfl, hb⟩; refine ⟨_, rfl, ?_⟩; have n0_ := Aside0.mk (below_step (by repeat (first | (with_reducible first | exact HB.out | apply below_alloc | apply pw_below_drewN | apply below_drew1) | exact HB.out)) hb); clear HB; have HB := n0_; clear n0_; (try clear hb); (try clear hb2); (try clear hk); (try clear hi)))
                    go_ret
                    exact ⟨by first | rfl | (simp [errW_none, errW_some] <;> rfl) | (simp [*, errW_none, errW_some] <;> rfl), by repeat (first | (with_reducible first | exact HB.out | apply below_alloc | apply pw_below_drewN | apply below_drew1) | exact HB.out)⟩
                  · rw [if_neg c32] at H
                    have c32b0 : ((t117.size : Int) == (t118.size : Int)) = false := beq_eq_false_iff_ne.mpr c32
                    have c32b1 : ((t117.size : Int) != (t118.size : Int)) = true := bne_iff_ne.mpr c32
                    have c32b2 : (t117.size == t118.size) = false := by first | simpa using c32 | (simp at c32 ⊢; omega)
                    obtain rfl := Option.some.inj H
                    go_wp2_with (first | ((with_reducible refine gate_callee (f := 13) rfl ?_); refine goesL_ (some 59) rfl rfl Try.func13 (by kernel_rfl) rfl #[] rfl (by (try simp only [List.map_toArray, List.map_cons, List.map_nil]); first | done | rfl | (simp only [List.length_drop, List.length_take]; rfl)) ?_; (with_reducible refine (caduceuslaw01_awake.calls kj4  true _ A30.out).mono ?_); rintro e w34 ⟨rfl, hb⟩; refine ⟨_, rfl, ?_⟩; have n0_ := Aside0.mk (below_step (by repeat (first | (with_reducible first | exact HB.out | apply below_alloc | apply pw_below_drewN | apply below_drew1) | exact HB.out)) hb); clear HB; have HB := n0_; clear n0_; (try clear hb); (try clear hb2); (try clear hk); (try clear hi)))
                    go_ret
                    exact ⟨by first | rfl | (simp [errW_none, errW_some] <;> rfl) | (simp [*, errW_none, errW_some] <;> rfl), by repeat (first | (with_reducible first | exact HB.out | apply below_alloc | apply pw_below_drewN | apply below_drew1) | exact HB.out)⟩
                · replace c31 := Bool.eq_false_iff.mpr c31
                  subst c31
                  have H1 : (some false) = some r := by rw [if_neg (show ¬ (false = true) by decide)] at H; exact H
                  clear H
                  have H := H1
                  clear H1
                  obtain rfl := Option.some.inj H
                  go_wp2_with (first | ((with_reducible refine gate_callee (f := 13) rfl ?_); refine goesL_ (some 59) rfl rfl Try.func13 (by kernel_rfl) rfl #[] rfl (by (try simp only [List.map_toArray, List.map_cons, List.map_nil]); first | done | rfl | (simp only [List.length_drop, List.length_take]; rfl)) ?_; (with_reducible refine (caduceuslaw01_awake.calls kj4  false _ A30.out).mono ?_); rintro e w35 ⟨rfl, hb⟩; refine ⟨_, rfl, ?_⟩; have n0_ := Aside0.mk (below_step (by repeat (first | (with_reducible first | exact HB.out | apply below_alloc | apply pw_below_drewN | apply below_drew1) | exact HB.out)) hb); clear HB; have HB := n0_; clear n0_; (try clear hb); (try clear hb2); (try clear hk); (try clear hi)))
                  go_ret
                  exact ⟨by first | rfl | (simp [errW_none, errW_some] <;> rfl) | (simp [*, errW_none, errW_some] <;> rfl), by repeat (first | (with_reducible first | exact HB.out | apply below_alloc | apply pw_below_drewN | apply below_drew1) | exact HB.out)⟩
        · rw [if_neg c18] at H
          have c18b0 : decide (a0 ≤ a1) = false := decide_eq_false c18
          clear c18
          by_cases c36 : a0 ≥ a1
          · rw [if_pos c36] at H
            have c36b0 : decide (a1 ≤ a0) = true := decide_eq_true c36
            clear c36
            by_cases c37 : (t117.size : Int) < (t118.size : Int)
            · rw [if_pos c37] at H
              have c37b0 : decide ((t117.size : Int) < (t118.size : Int)) = true := decide_eq_true c37
              have c37b1 : decide (t117.size < t118.size) = true := decide_eq_true (Int.ofNat_lt.mp c37)
              clear c37
              obtain rfl := Option.some.inj H
              go_wp2
              go_ret
              exact ⟨by first | rfl | (simp [errW_none, errW_some] <;> rfl) | (simp [*, errW_none, errW_some] <;> rfl), by repeat (first | (with_reducible first | exact HB.out | apply below_alloc | apply pw_below_drewN | apply below_drew1) | exact HB.out)⟩
            · rw [if_neg c37] at H
              have c37b0 : decide ((t117.size : Int) < (t118.size : Int)) = false := decide_eq_false c37
              have c37b1 : decide (t117.size < t118.size) = false := decide_eq_false (fun h => c37 (Int.ofNat_lt.mpr h))
              clear c37
              by_cases c38 : ((t117.toList == t118.toList) != (a0 == a1)) = true
              · rw [if_pos c38] at H
                have c38b0 : ((t117.toList == t118.toList) != (a0 == a1)) = true := c38
                (try (have c38b1 : decide ((t117.toList == t118.toList) = (a0 == a1)) = false := by simpa using c38))
                (try (have c38b2 : ((t117.toList == t118.toList) == (a0 == a1)) = false := by simpa using c38))
                (try (have c38b3 : ¬ ((t117.toList == t118.toList) = (a0 == a1)) := by simpa using c38))
                clear c38
                obtain rfl := Option.some.inj H
                go_wp2
                go_ret
                exact ⟨by first | rfl | (simp [errW_none, errW_some] <;> rfl) | (simp [*, errW_none, errW_some] <;> rfl), by repeat (first | (with_reducible first | exact HB.out | apply below_alloc | apply pw_below_drewN | apply below_drew1) | exact HB.out)⟩
              · rw [if_neg c38] at H
                have c38b0 : ((t117.toList == t118.toList) != (a0 == a1)) = false := by simpa using c38
                (try (have c38b1 : decide ((t117.toList == t118.toList) = (a0 == a1)) = true := by simpa using c38))
                (try (have c38b2 : ((t117.toList == t118.toList) == (a0 == a1)) = true := by simpa using c38))
                clear c38
                replace H := Option.bind_eq_some_iff.mp H
                obtain ⟨t124, A390, H⟩ := H
                replace H : (if t124 = true then (if (t117.size : Int) = (t118.size : Int) then (some ((Op.bytesLess t117.toList t118.toList) == (decide (a0 < a1)))) else (some true)) else (some false)) = some r := H
                have A39 := Aside0.mk A390
                clear A390
                by_cases c40 : t124 = true
                · subst c40
                  have H1 : (if (t117.size : Int) = (t118.size : Int) then (some ((Op.bytesLess t117.toList t118.toList) == (decide (a0 < a1)))) else (some true)) = some r := by rw [if_pos rfl] at H; exact H
                  clear H
                  have H := H1
                  clear H1
                  by_cases c41 : (t117.size : Int) = (t118.size : Int)
                  · rw [if_pos c41] at H
                    have c41b0 : ((t117.size : Int) == (t118.size : Int)) = true := beq_iff_eq.mpr c41
                    have c41b1 : ((t117.size : Int) != (t118.size : Int)) = false := bne_eq_false_iff_eq.mpr c41
                    have c41b2 : (t117.size == t118.size) = true := by first | simpa using c41 | (simp at c41 ⊢; omega)
                    clear c41
                    obtain rfl := Option.some.inj H
                    go_wp2_with (first | ((with_reducible refine gate_callee (f := 13) rfl ?_); refine goesL_ (some 59) rfl rfl Try.func13 (by kernel_rfl) rfl #[] rfl (by (try simp only [List.map_toArray, List.map_cons, List.map_nil]); first | done | rfl | (simp only [List.length_drop, List.length_take]; rfl)) ?_; (with_reducible refine (caduceuslaw01_awake.calls kj4  true _ A39.out).mono ?_); rintro e w42 ⟨rfl, hb⟩; refine ⟨_, rfl, ?_⟩; have n0_ := Aside0.mk (below_step (by repeat (first | (with_reducible first | exact HB.out | apply below_alloc | apply pw_below_drewN | apply below_drew1) | exact HB.out)) hb); clear HB; have HB := n0_; clear n0_; (try clear hb); (try clear hb2); (try clear hk); (try clear hi)))
                    go_ret
                    exact ⟨by first | rfl | (simp [errW_none, errW_some] <;> rfl) | (simp [*, errW_none, errW_some] <;> rfl), by repeat (first | (with_reducible first | exact HB.out | apply below_alloc | apply pw_below_drewN | apply below_drew1) | exact HB.out)⟩
                  · rw [if_neg c41] at H
                    have c41b0 : ((t117.size : Int) == (t118.size : Int)) = false := beq_eq_false_iff_ne.mpr c41
                    have c41b1 : ((t117.size : Int) != (t118.size : Int)) = true := bne_iff_ne.mpr c41
                    have c41b2 : (t117.size == t118.size) = false := by first | simpa using c41 | (simp at c41 ⊢; omega)
                    obtain rfl := Option.some.inj H
                    go_wp2_with (first | ((with_reducible refine gate_callee (f := 13) rfl ?_); refine goesL_ (some 59) rfl rfl Try.func13 (by kernel_rfl) rfl #[] rfl (by (try simp only [List.map_toArray, List.map_cons, List.map_nil]); first | done | rfl | (simp only [List.length_drop, List.length_take]; rfl)) ?_; (with_reducible refine (caduceuslaw01_awake.calls kj4  true _ A39.out).mono ?_); rintro e w43 ⟨rfl, hb⟩; refine ⟨_, rfl, ?_⟩; have n0_ := Aside0.mk (below_step (by repeat (first | (with_reducible first | exact HB.out | apply below_alloc | apply pw_below_drewN | apply below_drew1) | exact HB.out)) hb); clear HB; have HB := n0_; clear n0_; (try clear hb); (try clear hb2); (try clear hk); (try clear hi)))
                    go_ret
                    exact ⟨by first | rfl | (simp [errW_none, errW_some] <;> rfl) | (simp [*, errW_none, errW_some] <;> rfl), by repeat (first | (with_reducible first | exact HB.out | apply below_alloc | apply pw_below_drewN | apply below_drew1) | exact HB.out)⟩
                · replace c40 := Bool.eq_false_iff.mpr c40
                  subst c40
                  have H1 : (some false) = some r := by rw [if_neg (show ¬ (false = true) by decide)] at H; exact H
                  clear H
                  have H := H1
                  clear H1
                  obtain rfl := Option.some.inj H
                  go_wp2_with (first | ((with_reducible refine gate_callee (f := 13) rfl ?_); refine goesL_ (some 59) rfl rfl Try.func13 (by kernel_rfl) rfl #[] rfl (by (try simp only [List.map_toArray, List.map_cons, List.map_nil]); first | done | rfl | (simp only [List.length_drop, List.length_take]; rfl)) ?_; (with_reducible refine (caduceuslaw01_awake.calls kj4  false _ A39.out).mono ?_); rintro e w44 ⟨rfl, hb⟩; refine ⟨_, rfl, ?_⟩; have n0_ := Aside0.mk (below_step (by repeat (first | (with_reducible first | exact HB.out | apply below_alloc | apply pw_below_drewN | apply below_drew1) | exact HB.out)) hb); clear HB; have HB := n0_; clear n0_; (try clear hb); (try clear hb2); (try clear hk); (try clear hi)))
                  go_ret
                  exact ⟨by first | rfl | (simp [errW_none, errW_some] <;> rfl) | (simp [*, errW_none, errW_some] <;> rfl), by repeat (first | (with_reducible first | exact HB.out | apply below_alloc | apply pw_below_drewN | apply below_drew1) | exact HB.out)⟩
          · rw [if_neg c36] at H
            have c36b0 : decide (a1 ≤ a0) = false := decide_eq_false c36
            clear c36
            by_cases c45 : ((t117.toList == t118.toList) != (a0 == a1)) = true
            · rw [if_pos c45] at H
              have c45b0 : ((t117.toList == t118.toList) != (a0 == a1)) = true := c45
              (try (have c45b1 : decide ((t117.toList == t118.toList) = (a0 == a1)) = false := by simpa using c45))
              (try (have c45b2 : ((t117.toList == t118.toList) == (a0 == a1)) = false := by simpa using c45))
              (try (have c45b3 : ¬ ((t117.toList == t118.toList) = (a0 == a1)) := by simpa using c45))
              clear c45
              obtain rfl := Option.some.inj H
              go_wp2
              go_ret
              exact ⟨by first | rfl | (simp [errW_none, errW_some] <;> rfl) | (simp [*, errW_none, errW_some] <;> rfl), by repeat (first | (with_reducible first | exact HB.out | apply below_alloc | apply pw_below_drewN | apply below_drew1) | exact HB.out)⟩
            · rw [if_neg c45] at H
              have c45b0 : ((t117.toList == t118.toList) != (a0 == a1)) = false := by simpa using c45
              (try (have c45b1 : decide ((t117.toList == t118.toList) = (a0 == a1)) = true := by simpa using c45))
              (try (have c45b2 : ((t117.toList == t118.toList) == (a0 == a1)) = true := by simpa using c45))
              clear c45
              replace H := Option.bind_eq_some_iff.mp H
              obtain ⟨t125, A460, H⟩ := H
              replace H : (if t125 = true then (if (t117.size : Int) = (t118.size : Int) then (some ((Op.bytesLess t117.toList t118.toList) == (decide (a0 < a1)))) else (some true)) else (some false)) = some r := H
              have A46 := Aside0.mk A460
              clear A460
              by_cases c47 : t125 = true
              · subst c47
                have H1 : (if (t117.size : Int) = (t118.size : Int) then (some ((Op.bytesLess t117.toList t118.toList) == (decide (a0 < a1)))) else (some true)) = some r := by rw [if_pos rfl] at H; exact H
                clear H
                have H := H1
                clear H1
                by_cases c48 : (t117.size : Int) = (t118.size : Int)
                · rw [if_pos c48] at H
                  have c48b0 : ((t117.size : Int) == (t118.size : Int)) = true := beq_iff_eq.mpr c48
                  have c48b1 : ((t117.size : Int) != (t118.size : Int)) = false := bne_eq_false_iff_eq.mpr c48
                  have c48b2 : (t117.size == t118.size) = true := by first | simpa using c48 | (simp at c48 ⊢; omega)
                  clear c48
                  obtain rfl := Option.some.inj H
                  go_wp2_with (first | ((with_reducible refine gate_callee (f := 13) rfl ?_); refine goesL_ (some 59) rfl rfl Try.func13 (by kernel_rfl) rfl #[] rfl (by (try simp only [List.map_toArray, List.map_cons, List.map_nil]); first | done | rfl | (simp only [List.length_drop, List.length_take]; rfl)) ?_; (with_reducible refine (caduceuslaw01_awake.calls kj4  true _ A46.out).mono ?_); rintro e w49 ⟨rfl, hb⟩; refine ⟨_, rfl, ?_⟩; have n0_ := Aside0.mk (below_step (by repeat (first | (with_reducible first | exact HB.out | apply below_alloc | apply pw_below_drewN | apply below_drew1) | exact HB.out)) hb); clear HB; have HB := n0_; clear n0_; (try clear hb); (try clear hb2); (try clear hk); (try clear hi)))
                  go_ret
                  exact ⟨by first | rfl | (simp [errW_none, errW_some] <;> rfl) | (simp [*, errW_none, errW_some] <;> rfl), by repeat (first | (with_reducible first | exact HB.out | apply below_alloc | apply pw_below_drewN | apply below_drew1) | exact HB.out)⟩
                · rw [if_neg c48] at H
                  have c48b0 : ((t117.size : Int) == (t118.size : Int)) = false := beq_eq_false_iff_ne.mpr c48
                  have c48b1 : ((t117.size : Int) != (t118.size : Int)) = true := bne_iff_ne.mpr c48
                  have c48b2 : (t117.size == t118.size) = false := by first | simpa using c48 | (simp at c48 ⊢; omega)
                  obtain rfl := Option.some.inj H
                  go_wp2_with (first | ((with_reducible refine gate_callee (f := 13) rfl ?_); refine goesL_ (some 59) rfl rfl Try.func13 (by kernel_rfl) rfl #[] rfl (by (try simp only [List.map_toArray, List.map_cons, List.map_nil]); first | done | rfl | (simp only [List.length_drop, List.length_take]; rfl)) ?_; (with_reducible refine (caduceuslaw01_awake.calls kj4  true _ A46.out).mono ?_); rintro e w50 ⟨rfl, hb⟩; refine ⟨_, rfl, ?_⟩; have n0_ := Aside0.mk (below_step (by repeat (first | (with_reducible first | exact HB.out | apply below_alloc | apply pw_below_drewN | apply below_drew1) | exact HB.out)) hb); clear HB; have HB := n0_; clear n0_; (try clear hb); (try clear hb2); (try clear hk); (try clear hi)))
                  go_ret
                  exact ⟨by first | rfl | (simp [errW_none, errW_some] <;> rfl) | (simp [*, errW_none, errW_some] <;> rfl), by repeat (first | (with_reducible first | exact HB.out | apply below_alloc | apply pw_below_drewN | apply below_drew1) | exact HB.out)⟩
              · replace c47 := Bool.eq_false_iff.mpr c47
                subst c47
                have H1 : (some false) = some r := by rw [if_neg (show ¬ (false = true) by decide)] at H; exact H
                clear H
                have H := H1
                clear H1
                obtain rfl := Option.some.inj H
                go_wp2_with (first | ((with_reducible refine gate_callee (f := 13) rfl ?_); refine goesL_ (some 59) rfl rfl Try.func13 (by kernel_rfl) rfl #[] rfl (by (try simp only [List.map_toArray, List.map_cons, List.map_nil]); first | done | rfl | (simp only [List.length_drop, List.length_take]; rfl)) ?_; (with_reducible refine (caduceuslaw01_awake.calls kj4  false _ A46.out).mono ?_); rintro e w51 ⟨rfl, hb⟩; refine ⟨_, rfl, ?_⟩; have n0_ := Aside0.mk (below_step (by repeat (first | (with_reducible first | exact HB.out | apply below_alloc | apply pw_below_drewN | apply below_drew1) | exact HB.out)) hb); clear HB; have HB := n0_; clear n0_; (try clear hb); (try clear hb2); (try clear hk); (try clear hi)))
                go_ret
                exact ⟨by first | rfl | (simp [errW_none, errW_some] <;> rfl) | (simp [*, errW_none, errW_some] <;> rfl), by repeat (first | (with_reducible first | exact HB.out | apply below_alloc | apply pw_below_drewN | apply below_drew1) | exact HB.out)⟩

/-- THE ONE PURE STATEMENT of caduceuslaw01_QuicRises: yours. -/
def caduceuslaw01_QuicRises.Pure : Prop := ∀ (a0 : Int) (a1 : Int), (Lit.int .i64 a0).wf = true → (Lit.int .i64 a1).wf = true → ∃ k, caduceuslaw01_QuicRises.f k a0 a1 = some true
theorem caduceuslaw01_QuicRises.walk (P : caduceuslaw01_QuicRises.Pure) (a0 : Int) (a1 : Int) (w : World) (w0 : (Lit.int .i64 a0).wf = true) (w1 : (Lit.int .i64 a1).wf = true) :
    Calls Try.prog 4 #[.int .i64 a0, .int .i64 a1] w fun e w' => e = .returned (.bool true) ∧ Below w.heap.size w w' := by
  obtain ⟨k, h⟩ := P a0 a1 w0 w1
  refine (caduceuslaw01_QuicRises.calls k a0 a1 true w h).mono ?_
  rintro e w' ⟨rfl, hd⟩
  exact ⟨rfl, hd⟩

end Go.Proofs.Ytbjokknoladmpaa.PQuicRises
