-- Written by a program of this session over the kit's printer (with contracts of the session's own).
import Derived.Test.YtpdalofhekmbeaaDoorPViewHeirsx0
namespace Go.Proofs.YtpdalofhekmbeaaDoor.PViewHeirs
open Go.RowKit Go.Proofs.YtpdalofhekmbeaaDoorW.PrintWords Go.Proofs.YtpdalofhekmbeaaDoorW.PrintLast Go.Proofs.YtpdalofhekmbeaaDoorW.PrintMore
attribute [local go_sem] max2_int min2_int max_two min_two max_three min_three max_four min_four   -- for this text's walks alone
set_option linter.unusedVariables false
set_option linter.unusedSimpArgs false

/-! ### caduceuslaw14_few: function 4 -/
def caduceuslaw14_few.f (a0_0 : Int) (l0_1 : List (S44)) : Option (Bool) := some (decide ((l0_1.length : Int) ≤ 40))
set_option maxHeartbeats 8000000 in
set_option maxRecDepth 100000 in
theorem caduceuslaw14_few.calls (a0_0 : Int) (A0_1 : Option Addr) (c0_1 : Nat) (l0_1 : List (S44)) (r : Bool) (w : World) (hr0_1 : Kd.C k44 w A0_1 l0_1.length l0_1) (hc0_1 : l0_1.length ≤ c0_1) (h : caduceuslaw14_few.f a0_0 l0_1 = some r) :
    Calls Tryd.prog 4 #[.agg #[.int .i64 a0_0, .slice A0_1 l0_1.length c0_1]] w fun e w' => e = .returned (.bool r) ∧ Below w.heap.size w w' := by
  have hu24 := Tryd.underlying24
  have HR0_1 := Aside0.mk hr0_1
  have HC0_1 := Aside0.mk hc0_1
  clear hr0_1 hc0_1
  have HB := Aside0.mk (Below.refl w.heap.size w)
  have H : (some (decide ((l0_1.length : Int) ≤ 40))) = some r := h
  clear h
  obtain rfl := Option.some.inj H
  go_enter Tryd.func4, Tryd.ntmps4
  go_wp2_with (first | ((with_reducible refine gate_dst (N := 1) rfl ?_); refine box_event ?hg (N := 1) ?hd (cs := #[.int .i64 a0_0, .slice A0_1 l0_1.length c0_1]) (t := 24) ?hr ?_; (case hd => rfl); (case hg => rfl); (case hr => first | (go_simp; done) | (go_simp; rfl)); intro gb101 hg w2 hbox hb; have n0_ := Aside0.mk (below_step (by repeat (first | (with_reducible first | exact HB.out | apply below_alloc | apply pw_below_drewN | apply below_drew1) | exact HB.out)) hb); have n1_ := Aside0.mk (hbox); have n2_ := Aside0.mk ((by rw [hg]; exact (below_size (by repeat (first | (with_reducible first | exact HB.out | apply below_alloc | apply pw_below_drewN | apply below_drew1) | exact HB.out))) : w.heap.size ≤ gb101)); have n3_ := Aside0.mk ((by rw [hg]; exact (below_size (by repeat (first | (with_reducible first | exact HB.out | apply below_alloc | apply pw_below_drewN | apply below_drew1) | exact HB.out))) : w.heap.size ≤ gb101)); clear HB; have HB := n0_; have BK101 := n1_; have GW101 := n2_; have GE101 := n3_; clear n0_ n1_ n2_ n3_; clear hb hbox hg; have hcz3_0 : w2.cell? ⟨gb101, 0, none⟩ = some (.int .i64 a0_0) := (blk_cell BK101.out 0).trans rfl; have hcz3_1 : w2.cell? ⟨gb101, 1, none⟩ = some (.slice A0_1 l0_1.length c0_1) := (blk_cell BK101.out 1).trans rfl; have hfz3_0 := blk_frozen BK101.out 0; have hfz3_1 := blk_frozen BK101.out 1))
  go_ret
  exact ⟨by first | rfl | (simp [errW_none, errW_some] <;> rfl) | (simp [*, errW_none, errW_some] <;> rfl), by repeat (first | (with_reducible first | exact HB.out | apply below_alloc | apply pw_below_drewN | apply below_drew1 | refine below_set ?_ GE101.out) | exact HB.out)⟩

/-! ### view_count: function 14 -/
def view_count.f (a0 : Int) : Option (Bool) := if a0 ≥ 1 then (some (decide (a0 ≤ 1099511627775))) else (some false)
set_option maxHeartbeats 8000000 in
set_option maxRecDepth 100000 in
theorem view_count.calls (a0 : Int) (r : Bool) (w : World) (h : view_count.f a0 = some r) :
    Calls Tryd.prog 14 #[.int .i64 a0] w fun e w' => e = .returned (.bool r) ∧ Drawn0 w w' := by
  have H : (if a0 ≥ 1 then (some (decide (a0 ≤ 1099511627775))) else (some false)) = some r := h
  clear h
  by_cases c2 : a0 ≥ 1
  · rw [if_pos c2] at H
    have c2b0 : decide (1 ≤ a0) = true := decide_eq_true c2
    clear c2
    obtain rfl := Option.some.inj H
    go_enter Tryd.func14, Tryd.ntmps14
    go_wp2
    go_ret
    exact ⟨by first | rfl | (simp; done) | (simp [*]; done), by repeat (first | exact Drawn0.refl _ | apply Drawn0.step)⟩
  · rw [if_neg c2] at H
    have c2b0 : decide (1 ≤ a0) = false := decide_eq_false c2
    clear c2
    obtain rfl := Option.some.inj H
    go_enter Tryd.func14, Tryd.ntmps14
    go_wp2
    go_ret
    exact ⟨by first | rfl | (simp; done) | (simp [*]; done), by repeat (first | exact Drawn0.refl _ | apply Drawn0.step)⟩

/-! ### ring_node: function 29 -/
def ring_node.f (a0 : Int) : Option (Bool) := if a0 ≥ 1 then (some (decide (a0 ≤ 15))) else (some false)
set_option maxHeartbeats 8000000 in
set_option maxRecDepth 100000 in
theorem ring_node.calls (a0 : Int) (r : Bool) (w : World) (h : ring_node.f a0 = some r) :
    Calls Tryd.prog 29 #[.int .i64 a0] w fun e w' => e = .returned (.bool r) ∧ Drawn0 w w' := by
  have H : (if a0 ≥ 1 then (some (decide (a0 ≤ 15))) else (some false)) = some r := h
  clear h
  by_cases c2 : a0 ≥ 1
  · rw [if_pos c2] at H
    have c2b0 : decide (1 ≤ a0) = true := decide_eq_true c2
    clear c2
    obtain rfl := Option.some.inj H
    go_enter Tryd.func29, Tryd.ntmps29
    go_wp2
    go_ret
    exact ⟨by first | rfl | (simp; done) | (simp [*]; done), by repeat (first | exact Drawn0.refl _ | apply Drawn0.step)⟩
  · rw [if_neg c2] at H
    have c2b0 : decide (1 ≤ a0) = false := decide_eq_false c2
    clear c2
    obtain rfl := Option.some.inj H
    go_enter Tryd.func29, Tryd.ntmps29
    go_wp2
    go_ret
    exact ⟨by first | rfl | (simp; done) | (simp [*]; done), by repeat (first | exact Drawn0.refl _ | apply Drawn0.step)⟩

/-! ### ring_Nodes: function 15 -/
def ring_Nodes.l0 : Nat → List Int → List Int → Int → Int → Option (Bool)
  | 0, _, _, _, _ => none
  | k + 1, x0, x5, x6, x7 => if x7 < x6 then (if 0 ≤ x7 then (if x7 < (x5.length : Int) then ((ring_node.f (rd x5 x7)).bind fun t103 => (if t103 = true then (if x7 > 0 then (if 0 ≤ (wrap64 (x7 - 1)) then (if (wrap64 (x7 - 1)) < (x0.length : Int) then (if (rd x0 (wrap64 (x7 - 1))) ≥ (rd x5 x7) then (some false) else (ring_Nodes.l0 k x0 x5 x6 (wrap64 (x7 + 1)))) else (none)) else (none)) else (ring_Nodes.l0 k x0 x5 x6 (wrap64 (x7 + 1)))) else (some false))) else (none)) else (none)) else (some true)
def ring_Nodes.f (k : Nat) (l0 : List Int) : Option (Bool) := ring_Nodes.l0 k l0 l0 (l0.length : Int) 0
theorem ring_Nodes.mono_l : ∀ k, (∀ y0 y1 y2 y3, LeO (ring_Nodes.l0 k y0 y1 y2 y3) (ring_Nodes.l0 (k + 1) y0 y1 y2 y3))
  | 0 => fun _ _ _ _ r h => by simp [ring_Nodes.l0] at h
  | k + 1 => by
    have ih0 := ring_Nodes.mono_l k
    · intro y0 y1 y2 y3
      unfold ring_Nodes.l0
      repeat' first
      | (with_reducible exact ih0 _ _ _ _)
      | (with_reducible exact LeO.refl _)
      | (with_reducible exact LeO.none _)
      | (with_reducible refine LeO.ite ?_ ?_)
      | (with_reducible refine LeO.bind ?_ (fun _ => ?_))
      | exact ih0 _ _ _ _
      | exact LeO.none _
      | refine LeO.ite ?_ ?_
      | refine LeO.bind ?_ (fun _ => ?_)
theorem ring_Nodes.mono : ∀ a0 k, LeO (ring_Nodes.f k a0) (ring_Nodes.f (k + 1) a0) := by
  intro a0 k
  have ih0 := ring_Nodes.mono_l k
  unfold ring_Nodes.f
  repeat' first
      | (with_reducible exact ih0 _ _ _ _)
      | (with_reducible exact LeO.refl _)
      | (with_reducible exact LeO.none _)
      | (with_reducible refine LeO.ite ?_ ?_)
      | (with_reducible refine LeO.bind ?_ (fun _ => ?_))
      | exact ih0 _ _ _ _
      | exact LeO.none _
      | refine LeO.ite ?_ ?_
      | refine LeO.bind ?_ (fun _ => ?_)
set_option maxHeartbeats 8000000 in
set_option maxRecDepth 100000 in
theorem ring_Nodes.calls (k : Nat) (A0 : Option Addr) (c0 : Nat) (l0 : List Int) (r : Bool) (w : World) (hr0 : Kd.C (Kd.int .i64) w A0 l0.length l0) (hc0 : l0.length ≤ c0) (h : ring_Nodes.f k l0 = some r) :
    Calls Tryd.prog 15 #[.slice A0 l0.length c0] w fun e w' => e = .returned (.bool r) ∧ Drawn0 w w' := by
  have HR0 := Aside0.mk hr0
  have HC0 := Aside0.mk hc0
  clear hr0 hc0
  have H : (ring_Nodes.l0 k l0 l0 (l0.length : Int) 0) = some r := h
  clear h
  have H' := Aside0.mk H
  clear H
  go_enter Tryd.func15, Tryd.ntmps15
  go_wp2
  go_loopg [7] k (fun kq v7 w' => ∃ (x7_1 : Int), v7 = .int .i64 x7_1 ∧ Aside0 (ring_Nodes.l0 kq l0 l0 (l0.length : Int) x7_1 = some r) ∧ Aside0 (kq ≤ k) ∧ Drawn0 w w')
  case atStart => exact ⟨(0), (by first | rfl | (simp; done) | (simp [*]; done)), H', ⟨Nat.le_refl _⟩, by repeat (first | exact Drawn0.refl _ | apply Drawn0.step)⟩
  case round =>
    clear H'
    try clear c1
    obtain ⟨x7_1, rfl, HA, HK1, ⟨m1, rfl⟩⟩ := hrel
    cases gk with
    | zero => exact absurd HA.out (by simp [ring_Nodes.l0])
    | succ k1 =>
      have H := HA.out
      clear HA
      simp only [ring_Nodes.l0] at H
      by_cases c2 : x7_1 < (l0.length : Int)
      · rw [if_pos c2] at H
        have c2b0 : decide (x7_1 < (l0.length : Int)) = true := decide_eq_true c2
        clear c2
        by_cases c3 : 0 ≤ x7_1
        · rw [if_pos c3] at H
          have c3b0 : decide (0 ≤ x7_1) = true := decide_eq_true c3
          clear c3
          by_cases c4 : x7_1 < (l0.length : Int)
          · rw [if_pos c4] at H
            have c4b0 : decide (x7_1 < (l0.length : Int)) = true := decide_eq_true c4
            clear c4
            replace H := Option.bind_eq_some_iff.mp H
            obtain ⟨t103, A50, H⟩ := H
            replace H : (if t103 = true then (if x7_1 > 0 then (if 0 ≤ (wrap64 (x7_1 - 1)) then (if (wrap64 (x7_1 - 1)) < (l0.length : Int) then (if (rd l0 (wrap64 (x7_1 - 1))) ≥ (rd l0 x7_1) then (some false) else (ring_Nodes.l0 k1 l0 l0 (l0.length : Int) (wrap64 (x7_1 + 1)))) else (none)) else (none)) else (ring_Nodes.l0 k1 l0 l0 (l0.length : Int) (wrap64 (x7_1 + 1)))) else (some false)) = some r := H
            have A5 := Aside0.mk A50
            clear A50
            by_cases c6 : t103 = true
            · subst c6
              have H1 : (if x7_1 > 0 then (if 0 ≤ (wrap64 (x7_1 - 1)) then (if (wrap64 (x7_1 - 1)) < (l0.length : Int) then (if (rd l0 (wrap64 (x7_1 - 1))) ≥ (rd l0 x7_1) then (some false) else (ring_Nodes.l0 k1 l0 l0 (l0.length : Int) (wrap64 (x7_1 + 1)))) else (none)) else (none)) else (ring_Nodes.l0 k1 l0 l0 (l0.length : Int) (wrap64 (x7_1 + 1)))) = some r := by rw [if_pos rfl] at H; exact H
              clear H
              have H := H1
              clear H1
              by_cases c7 : x7_1 > 0
              · rw [if_pos c7] at H
                have c7b0 : decide (0 < x7_1) = true := decide_eq_true c7
                clear c7
                obtain ⟨ji8, hji8⟩ : ∃ j_ : Int, (wrap64 (x7_1 - 1)) = j_ := ⟨_, rfl⟩
                replace H : (if 0 ≤ (ji8) then (if (ji8) < (l0.length : Int) then (if (rd l0 (ji8)) ≥ (rd l0 x7_1) then (some false) else (ring_Nodes.l0 k1 l0 l0 (l0.length : Int) (wrap64 (x7_1 + 1)))) else (none)) else (none)) = some r := by first | (rw [hji8] at H; exact H) | (simp only [hji8] at H ⊢; exact H)
                (try rw [hji8] at A5)
                have hji8w : (IntKind.i64.wrap (x7_1 - 1)) = ji8 := (i64_w _).trans hji8
                by_cases c9 : 0 ≤ (ji8)
                · rw [if_pos c9] at H
                  have c9b0 : decide (0 ≤ (ji8)) = true := decide_eq_true c9
                  clear c9
                  by_cases c10 : (ji8) < (l0.length : Int)
                  · rw [if_pos c10] at H
                    have c10b0 : decide ((ji8) < (l0.length : Int)) = true := decide_eq_true c10
                    clear c10
                    by_cases c11 : (rd l0 (ji8)) ≥ (rd l0 x7_1)
                    · rw [if_pos c11] at H
                      have c11b0 : decide ((rd l0 x7_1) ≤ (rd l0 (ji8))) = true := decide_eq_true c11
                      clear c11
                      obtain rfl := Option.some.inj H
                      have p102 : 0 ≤ (x7_1 : Int) := of_decide_eq_true (by first | (with_reducible assumption) | assumption)
                      have q102 : x7_1 < (l0.length : Int) := of_decide_eq_true (by first | (with_reducible assumption) | assumption)
                      obtain ⟨ad102, e102, hx102_0⟩ := Kd.at_int HR0.out x7_1 p102 q102
                      cases e102
                      replace p102 := eq_true p102
                      replace q102 := eq_true q102
                      go_wp2_with (first | ((with_reducible refine gate_callee (f := 29) rfl ?_); refine goesL_ (some 13) rfl rfl Tryd.func29 (by kernel_rfl) rfl #[.int .i64 (rd l0 x7_1)] rfl (by (try simp only [List.map_toArray, List.map_cons, List.map_nil]); first | done | rfl | (simp only [List.length_drop, List.length_take]; rfl)) ?_; (with_reducible refine (ring_node.calls (rd l0 x7_1) true _ A5.out).mono ?_); rintro e w' ⟨rfl, ⟨nd, rfl⟩⟩; refine ⟨_, rfl, ?_⟩; have p104 : 0 ≤ ((ji8) : Int) := of_decide_eq_true (by first | (with_reducible assumption) | assumption); have q104 : (ji8) < (l0.length : Int) := of_decide_eq_true (by first | (with_reducible assumption) | assumption); obtain ⟨ad104, e104, hx104_0⟩ := Kd.at_int HR0.out (ji8) p104 q104; obtain rfl : ad102 = ad104 := (by injection e104); replace p104 := eq_true p104; replace q104 := eq_true q104))
                      go_ret
                      exact ⟨by first | rfl | (simp; done) | (simp only [← hji8] <;> (first | rfl | simp)) | (simp [*]; done), by repeat (first | exact Drawn0.refl _ | apply Drawn0.step)⟩
                    · rw [if_neg c11] at H
                      have c11b0 : decide ((rd l0 x7_1) ≤ (rd l0 (ji8))) = false := decide_eq_false c11
                      clear c11
                      have H' := Aside0.mk H
                      clear H
                      have p102 : 0 ≤ (x7_1 : Int) := of_decide_eq_true (by first | (with_reducible assumption) | assumption)
                      have q102 : x7_1 < (l0.length : Int) := of_decide_eq_true (by first | (with_reducible assumption) | assumption)
                      obtain ⟨ad102, e102, hx102_0⟩ := Kd.at_int HR0.out x7_1 p102 q102
                      cases e102
                      replace p102 := eq_true p102
                      replace q102 := eq_true q102
                      go_wp2_with (first | ((with_reducible refine gate_callee (f := 29) rfl ?_); refine goesL_ (some 13) rfl rfl Tryd.func29 (by kernel_rfl) rfl #[.int .i64 (rd l0 x7_1)] rfl (by (try simp only [List.map_toArray, List.map_cons, List.map_nil]); first | done | rfl | (simp only [List.length_drop, List.length_take]; rfl)) ?_; (with_reducible refine (ring_node.calls (rd l0 x7_1) true _ A5.out).mono ?_); rintro e w' ⟨rfl, ⟨nd, rfl⟩⟩; refine ⟨_, rfl, ?_⟩; have p104 : 0 ≤ ((ji8) : Int) := of_decide_eq_true (by first | (with_reducible assumption) | assumption); have q104 : (ji8) < (l0.length : Int) := of_decide_eq_true (by first | (with_reducible assumption) | assumption); obtain ⟨ad104, e104, hx104_0⟩ := Kd.at_int HR0.out (ji8) p104 q104; obtain rfl : ad102 = ad104 := (by injection e104); replace p104 := eq_true p104; replace q104 := eq_true q104))
                      go_roundg k1
                      case measure => have := HK1.out; omega
                      case rel => exact ⟨(wrap64 (x7_1 + 1)), (by first | rfl | (simp; done) | (simp [*]; done)), H', ⟨by have := HK1.out; omega⟩, by repeat (first | exact Drawn0.refl _ | apply Drawn0.step)⟩
                  · rw [if_neg c10] at H
                    exact absurd H (by simp)
                · rw [if_neg c9] at H
                  exact absurd H (by simp)
              · rw [if_neg c7] at H
                have c7b0 : decide (0 < x7_1) = false := decide_eq_false c7
                clear c7
                have H' := Aside0.mk H
                clear H
                have p102 : 0 ≤ (x7_1 : Int) := of_decide_eq_true (by first | (with_reducible assumption) | assumption)
                have q102 : x7_1 < (l0.length : Int) := of_decide_eq_true (by first | (with_reducible assumption) | assumption)
                obtain ⟨ad102, e102, hx102_0⟩ := Kd.at_int HR0.out x7_1 p102 q102
                cases e102
                replace p102 := eq_true p102
                replace q102 := eq_true q102
                go_wp2_with (first | ((with_reducible refine gate_callee (f := 29) rfl ?_); refine goesL_ (some 13) rfl rfl Tryd.func29 (by kernel_rfl) rfl #[.int .i64 (rd l0 x7_1)] rfl (by (try simp only [List.map_toArray, List.map_cons, List.map_nil]); first | done | rfl | (simp only [List.length_drop, List.length_take]; rfl)) ?_; (with_reducible refine (ring_node.calls (rd l0 x7_1) true _ A5.out).mono ?_); rintro e w' ⟨rfl, ⟨nd, rfl⟩⟩; refine ⟨_, rfl, ?_⟩))
                go_roundg k1
                case measure => have := HK1.out; omega
                case rel => exact ⟨(wrap64 (x7_1 + 1)), (by first | rfl | (simp; done) | (simp [*]; done)), H', ⟨by have := HK1.out; omega⟩, by repeat (first | exact Drawn0.refl _ | apply Drawn0.step)⟩
            · replace c6 := Bool.eq_false_iff.mpr c6
              subst c6
              have H1 : (some false) = some r := by rw [if_neg (show ¬ (false = true) by decide)] at H; exact H
              clear H
              have H := H1
              clear H1
              obtain rfl := Option.some.inj H
              have p102 : 0 ≤ (x7_1 : Int) := of_decide_eq_true (by first | (with_reducible assumption) | assumption)
              have q102 : x7_1 < (l0.length : Int) := of_decide_eq_true (by first | (with_reducible assumption) | assumption)
              obtain ⟨ad102, e102, hx102_0⟩ := Kd.at_int HR0.out x7_1 p102 q102
              cases e102
              replace p102 := eq_true p102
              replace q102 := eq_true q102
              go_wp2_with (first | ((with_reducible refine gate_callee (f := 29) rfl ?_); refine goesL_ (some 13) rfl rfl Tryd.func29 (by kernel_rfl) rfl #[.int .i64 (rd l0 x7_1)] rfl (by (try simp only [List.map_toArray, List.map_cons, List.map_nil]); first | done | rfl | (simp only [List.length_drop, List.length_take]; rfl)) ?_; (with_reducible refine (ring_node.calls (rd l0 x7_1) false _ A5.out).mono ?_); rintro e w' ⟨rfl, ⟨nd, rfl⟩⟩; refine ⟨_, rfl, ?_⟩))
              go_ret
              exact ⟨by first | rfl | (simp; done) | (simp [*]; done), by repeat (first | exact Drawn0.refl _ | apply Drawn0.step)⟩
          · rw [if_neg c4] at H
            exact absurd H (by simp)
        · rw [if_neg c3] at H
          exact absurd H (by simp)
      · rw [if_neg c2] at H
        have c2b0 : decide (x7_1 < (l0.length : Int)) = false := decide_eq_false c2
        clear c2
        obtain rfl := Option.some.inj H
        go_wp2
        go_ret
        exact ⟨by first | rfl | (simp; done) | (simp [*]; done), by repeat (first | exact Drawn0.refl _ | apply Drawn0.step)⟩

/-! ### view_nodes: function 16 -/
def view_nodes.l0 : Nat → List Int → List (S44) → Int → Int → Option (List Int)
  | 0, _, _, _, _ => none
  | k + 1, x3, x6, x7, x8 => if x8 < x7 then (if 0 ≤ x8 then (if x8 < (x6.length : Int) then (if x3.length < 17592186044416 then (view_nodes.l0 k (x3 ++ [(rd_T44 x6 x8).f0]) x6 x7 (wrap64 (x8 + 1))) else (none)) else (none)) else (none)) else (some x3)
def view_nodes.f (k : Nat) (l0 : List (S44)) : Option (List Int) := view_nodes.l0 k ([] : List Int) l0 (l0.length : Int) 0
theorem view_nodes.mono_l : ∀ k, (∀ y0 y1 y2 y3, LeO (view_nodes.l0 k y0 y1 y2 y3) (view_nodes.l0 (k + 1) y0 y1 y2 y3))
  | 0 => fun _ _ _ _ r h => by simp [view_nodes.l0] at h
  | k + 1 => by
    have ih0 := view_nodes.mono_l k
    · intro y0 y1 y2 y3
      unfold view_nodes.l0
      repeat' first
      | (with_reducible exact ih0 _ _ _ _)
      | (with_reducible exact LeO.refl _)
      | (with_reducible exact LeO.none _)
      | (with_reducible refine LeO.ite ?_ ?_)
      | (with_reducible refine LeO.bind ?_ (fun _ => ?_))
      | exact ih0 _ _ _ _
      | exact LeO.none _
      | refine LeO.ite ?_ ?_
      | refine LeO.bind ?_ (fun _ => ?_)
theorem view_nodes.mono : ∀ a0 k, LeO (view_nodes.f k a0) (view_nodes.f (k + 1) a0) := by
  intro a0 k
  have ih0 := view_nodes.mono_l k
  unfold view_nodes.f
  repeat' first
      | (with_reducible exact ih0 _ _ _ _)
      | (with_reducible exact LeO.refl _)
      | (with_reducible exact LeO.none _)
      | (with_reducible refine LeO.ite ?_ ?_)
      | (with_reducible refine LeO.bind ?_ (fun _ => ?_))
      | exact ih0 _ _ _ _
      | exact LeO.none _
      | refine LeO.ite ?_ ?_
      | refine LeO.bind ?_ (fun _ => ?_)
set_option maxHeartbeats 8000000 in
set_option maxRecDepth 100000 in
theorem view_nodes.calls (k : Nat) (A0 : Option Addr) (c0 : Nat) (l0 : List (S44)) (r : List Int) (w : World) (hr0 : Kd.C k44 w A0 l0.length l0) (hc0 : l0.length ≤ c0) (h : view_nodes.f k l0 = some r) :
    Calls Tryd.prog 16 #[.slice A0 l0.length c0] w fun e w' => ∃ v0_ : Value, e = .returned (v0_) ∧ Kd.R (Kd.int .i64) 3 w' w.heap.size (fun _ => True) v0_ r ∧ Below w.heap.size w w' := by
  have hu44 := Tryd.underlying44
  have HR0 := Aside0.mk hr0
  have HC0 := Aside0.mk hc0
  clear hr0 hc0
  have HB := Aside0.mk (Below.refl w.heap.size w)
  have H : (view_nodes.l0 k ([] : List Int) l0 (l0.length : Int) 0) = some r := h
  clear h
  have H' := Aside0.mk H
  clear H
  go_enter Tryd.func16, Tryd.ntmps16
  go_wp2
  go_loopg [3, 8] k (fun kq v3 v8 w' => ∃ (x3_1 : List Int) (x8_1 : Int), v8 = .int .i64 x8_1 ∧ Aside0 (view_nodes.l0 kq x3_1 l0 (l0.length : Int) x8_1 = some r) ∧ Aside0 (kq ≤ k) ∧ Aside0 (Kd.R (Kd.int .i64) 3 w' w.heap.size (fun _ => True) v3 x3_1) ∧ Aside0 (Below w.heap.size w w'))
  case atStart => exact ⟨(([] : List Int)), (0), (by first | rfl | (simp; done) | (simp [*]; done)), H', ⟨Nat.le_refl _⟩, ⟨by first | exact Kd.R_nil _ _ _ _ _ | exact Kd.N_nil _ _ _ _ _ | exact Kd.V_nil _ _ _ _ _ | exact Kd.Q_nil _ _ _ _ _ | exact Kd.S_nil _ _ _ _ _⟩, ⟨by repeat (first | (with_reducible first | exact HB.out | apply below_alloc | apply pw_below_drewN | apply below_drew1) | exact HB.out)⟩⟩
  case round =>
    clear H'
    try clear c1
    obtain ⟨x3_1, x8_1, rfl, HA, HK1, HO_3, HB⟩ := hrel
    cases gk with
    | zero => exact absurd HA.out (by simp [view_nodes.l0])
    | succ k1 =>
      have H := HA.out
      clear HA
      simp only [view_nodes.l0] at H
      by_cases c2 : x8_1 < (l0.length : Int)
      · rw [if_pos c2] at H
        have c2b0 : decide (x8_1 < (l0.length : Int)) = true := decide_eq_true c2
        clear c2
        by_cases c3 : 0 ≤ x8_1
        · rw [if_pos c3] at H
          have c3b0 : decide (0 ≤ x8_1) = true := decide_eq_true c3
          clear c3
          by_cases c4 : x8_1 < (l0.length : Int)
          · rw [if_pos c4] at H
            have c4b0 : decide (x8_1 < (l0.length : Int)) = true := decide_eq_true c4
            clear c4
            by_cases c5 : x3_1.length < 17592186044416
            · rw [if_pos c5] at H
              have LMc5 := Aside0.mk c5
              clear c5
              obtain ⟨y107, hy107⟩ : ∃ y_ : List Int, y_ = (x3_1 ++ [(rd_T44 l0 x8_1).f0]) := ⟨_, rfl⟩
              replace H : (view_nodes.l0 k1 y107 l0 (l0.length : Int) (wrap64 (x8_1 + 1))) = some r := by first | (rw [hy107]; with_reducible exact H) | (have H2_ := (Option.bind_some _ _).symm.trans H; rw [hy107]; with_reducible exact H2_) | (have H2_ := (Option.bind_some _ _).symm.trans H; with_reducible exact H2_) | with_reducible exact H | (rw [hy107]; exact H) | exact H
              have Ny107 := Aside0.mk hy107
              clear hy107
              have H' := Aside0.mk H
              clear H
              have p105 : 0 ≤ (x8_1 : Int) := of_decide_eq_true (by first | (with_reducible assumption) | assumption)
              have q105 : x8_1 < (l0.length : Int) := of_decide_eq_true (by first | (with_reducible assumption) | assumption)
              obtain ⟨ad105, e105, hx105_0, hx105_1, hx105_2⟩ := at_T44 HR0.out x8_1 p105 q105
              cases e105
              replace hx105_0 := (HB.out.cell (World.block_lt_of_cell? w _ hx105_0)).trans hx105_0
              replace hx105_1 := (HB.out.cell (World.block_lt_of_cell? w _ hx105_1)).trans hx105_1
              replace hx105_2 := (HB.out.cell (World.block_lt_of_cell? w _ hx105_2)).trans hx105_2
              replace p105 := eq_true p105
              replace q105 := eq_true q105
              go_wp2_with (first | ((with_reducible refine gate_dst (N := 5) rfl ?_); refine box_event ?hg (N := 5) ?hd (cs := #[.int .i64 0, .int .i64 0, .bool false]) (t := 44) ?hr ?_; (case hd => rfl); (case hg => rfl); (case hr => first | (go_simp; done) | (go_simp; rfl)); intro gb106 hg w6 hbox hb; have n0_ := Aside0.mk (Kd.R_below (by (with_reducible repeat (first | apply Kd.R_alloc | apply Kd.R_drewN | apply Kd.R_drew)); exact HO_3.out) hb); have n1_ := Aside0.mk (below_step (by repeat (first | (with_reducible first | exact HB.out | apply below_alloc | apply pw_below_drewN | apply below_drew1) | exact HB.out)) hb); have n2_ := Aside0.mk (hbox); have n3_ := Aside0.mk ((by rw [hg]; exact (below_size (by repeat (first | (with_reducible first | exact HB.out | apply below_alloc | apply pw_below_drewN | apply below_drew1) | exact HB.out))) : w.heap.size ≤ gb106)); have n4_ := Aside0.mk ((by rw [hg]; exact (below_size (by repeat (first | (with_reducible first | exact HB.out | apply below_alloc | apply pw_below_drewN | apply below_drew1) | exact HB.out))) : w.heap.size ≤ gb106)); clear HO_3; clear HB; have HO_3 := n0_; have HB := n1_; have BK106 := n2_; have GW106 := n3_; have GE106 := n4_; clear n0_ n1_ n2_ n3_ n4_; clear hb hbox hg; have hcz7_0 : w6.cell? ⟨gb106, 0, none⟩ = some (.int .i64 0) := (blk_cell BK106.out 0).trans rfl; have hcz7_1 : w6.cell? ⟨gb106, 1, none⟩ = some (.int .i64 0) := (blk_cell BK106.out 1).trans rfl; have hcz7_2 : w6.cell? ⟨gb106, 2, none⟩ = some (.bool false) := (blk_cell BK106.out 2).trans rfl; have hfz7_0 := blk_frozen BK106.out 0; have hfz7_1 := blk_frozen BK106.out 1; have hfz7_2 := blk_frozen BK106.out 2) | ((with_reducible refine gate_builtin (b := .append) (xs := #[.tmp 12, .tmp 15]) rfl ?_); at_builtin; refine Kd.R_append (Kd.int .i64) (w0 := w) w.heap.size rfl (.tmp 12) (.tmp 15) 27 3 (.int .i64 0) 8 rfl Tryd.underlying27 info3 rfl (by decide) (by omega) u3 x3_1 ((rd_T44 l0 x8_1).f0) [.int .i64 ((rd_T44 l0 x8_1).f0)] (fun _ => True) (fun _ => False) rfl (by first | (go_simp; done) | (go_simp; rfl)) ?aP (fun _ hk => hk.elim) ?aF ?aO ?aB ?aS ?aL ?_; (case aP => exact rfl); (case aB => exact (by repeat (first | (with_reducible first | exact HB.out | apply below_alloc | apply pw_below_drewN | apply below_drew1 | refine below_set ?_ GE106.out) | exact HB.out))); (case aF => exact (fun _ _ => trivial)); (case aO => exact (by (with_reducible repeat (first | apply Kd.R_alloc | apply Kd.R_drewN | apply Kd.R_drew)); exact Kd.R_mono (Kd.R_far (p := ⟨gb106, 2, none⟩) (Kd.R_far (p := ⟨gb106, 1, none⟩) (Kd.R_far (p := ⟨gb106, 0, none⟩) (Kd.R_types HO_3.out BK106.out (by decide)) (fun _ hk => hk.2) (.int .i64 ((rd_T44 l0 x8_1).f0))) (fun _ hk => hk.2) (.int .i64 ((rd_T44 l0 x8_1).f1))) (fun _ hk => hk.2) (.bool ((rd_T44 l0 x8_1).f2))) (fun _ hk => trivial))); (case aS => exact (below_size (by repeat (first | (with_reducible first | exact HB.out | apply below_alloc | apply pw_below_drewN | apply below_drew1 | refine below_set ?_ GE106.out) | exact HB.out)))); (case aL => have := LMc5.out; omega); intro v108 w8 ho hb hg hat; rw [← Ny107.out] at ho; have n0_ := Aside0.mk (blk_grown (g := gb106) (o := .cells #[.int .i64 ((rd_T44 l0 x8_1).f0), .int .i64 ((rd_T44 l0 x8_1).f1), .bool ((rd_T44 l0 x8_1).f2)] 44 (0, 0)) (by (with_reducible repeat (first | refine blk_drewN ?_ _ | refine blk_drew ?_ | refine blk_alloc ?_ _)); refine blk_put (cs := #[.int .i64 ((rd_T44 l0 x8_1).f0), .int .i64 ((rd_T44 l0 x8_1).f1), .bool false]) ?_ 2 _ rfl; (with_reducible repeat (first | refine blk_drewN ?_ _ | refine blk_drew ?_ | refine blk_alloc ?_ _)); refine blk_put (cs := #[.int .i64 ((rd_T44 l0 x8_1).f0), .int .i64 0, .bool false]) ?_ 1 _ rfl; (with_reducible repeat (first | refine blk_drewN ?_ _ | refine blk_drew ?_ | refine blk_alloc ?_ _)); refine blk_put (cs := #[.int .i64 0, .int .i64 0, .bool false]) ?_ 0 _ rfl; (with_reducible repeat (first | refine blk_drewN ?_ _ | refine blk_drew ?_ | refine blk_alloc ?_ _)); exact BK106.out) hg (Kd.R_ne HO_3.out BK106.out (by decide))); have n1_ := Aside0.mk (hb); have n2_ := Aside0.mk (ho); clear BK106; clear HB; clear HO_3; have BK106 := n0_; have HB := n1_; have HO109 := n2_; clear n0_ n1_ n2_; clear ho hb hg hat))
              go_roundg k1
              case measure => have := HK1.out; omega
              case rel => exact ⟨(y107), (wrap64 (x8_1 + 1)), (by first | rfl | (simp; done) | (simp [*]; done)), H', ⟨by have := HK1.out; omega⟩, ⟨by (with_reducible repeat (first | apply Kd.R_alloc | apply Kd.R_drewN | apply Kd.R_drew)); exact HO109.out⟩, ⟨by repeat (first | (with_reducible first | exact HB.out | apply below_alloc | apply pw_below_drewN | apply below_drew1 | refine below_set ?_ GE106.out) | exact HB.out)⟩⟩
            · rw [if_neg c5] at H
              exact absurd H (by simp)
          · rw [if_neg c4] at H
            exact absurd H (by simp)
        · rw [if_neg c3] at H
          exact absurd H (by simp)
      · rw [if_neg c2] at H
        have c2b0 : decide (x8_1 < (l0.length : Int)) = false := decide_eq_false c2
        clear c2
        obtain rfl := Option.some.inj H
        go_wp2
        go_ret
        exact ⟨_, by first | rfl | (simp [errW_none, errW_some] <;> rfl) | (simp [*, errW_none, errW_some] <;> rfl), by (with_reducible repeat (first | apply Kd.R_alloc | apply Kd.R_drewN | apply Kd.R_drew)); exact HO_3.out, by repeat (first | (with_reducible first | exact HB.out | apply below_alloc | apply pw_below_drewN | apply below_drew1) | exact HB.out)⟩

/-! ### view_Check_1: function 18 (a contract of this session's own) -/
/-- A builder stays as it is where what lies is left alone. -/
theorem bld_below {T e : TypeId} {B b : Nat} {bs : List Value} {w w1 : World} (h : Lib.IsBuilder T e B b bs w) (hb : Below w.heap.size w w1) : Lib.IsBuilder T e B b bs w1 := by
  have one : ∀ p, Lib.BuilderAt T e B b p bs w → Lib.BuilderAt T e B b p bs w1 := by
    intro p hp
    have hlt := hp.lt
    obtain ⟨hB, v, hbk, hown, hne⟩ := hp
    exact ⟨hB, v, by rw [hb.block b hlt]; exact hbk, pw_own_below hown hb, hne⟩
  rcases h with h | h
  · exact .inl (one _ h)
  · exact .inr (one _ h)
theorem bld_alloc {T e : TypeId} {B b : Nat} {bs : List Value} {w : World} (h : Lib.IsBuilder T e B b bs w) (o : Obj) : Lib.IsBuilder T e B b bs (w.alloc o) := bld_below h (below_alloc (Below.refl _ _) o)
theorem bld_cells (s t : ByteArray) : Lib.byteCells s.data.toList ++ Lib.strCells t = Lib.byteCells (s ++ t).data.toList := by
  simp [Lib.byteCells, Lib.strCells]
theorem bld_len (s : ByteArray) : (Lib.byteCells s.data.toList).length = s.size := by
  simp [Lib.byteCells]
theorem bld_str (s : ByteArray) : (⟨s.data.toList.toArray⟩ : ByteArray) = s := by simp
theorem R_lit0 {α : Type} (d : Kd α) (e : Nat) (w : World) (base : Nat) (hb : base ≤ w.heap.size) : d.R e (w.alloc (.cells #[] e)) base (fun _ => True) (.slice (some ⟨w.heap.size, 0, none⟩) 0 0) [] := by
  refine ⟨fun _ _ => trivial, [], ?_, Reps.none _ _⟩
  have h2 := World.ownsRow_lit (base := base) (e := e) (size := d.sz) w #[] 0 hb (by decide) (by simp)
  simpa using h2
theorem C_none_nil {α : Type} {d : Kd α} {w : World} {n : Nat} {xs : List α} (h : Kd.C d w none n xs) : xs = [] := by
  rcases Nat.eq_zero_or_pos n with h0 | h0
  · subst h0
    exact List.eq_nil_of_length_eq_zero h.1
  · obtain ⟨ad, h, _⟩ := h.2.2 h0
    cases h
/-- The first place of an element for which p holds, or -1. -/
def idxF (p : S44 → Bool) : List S44 → Int → Int
  | [], _ => -1
  | x :: l, i => if p x then i else idxF p l (i + 1)
theorem rdM_drop {l : List S44} {i : Nat} {x : S44} {r : List S44} (h : l.drop i = x :: r) : rd_T44 l (i : Int) = x ∧ i < l.length ∧ l.drop (i + 1) = r := by
  have hi : i < l.length := by
    rcases Nat.lt_or_ge i l.length with g | g
    · exact g
    · rw [List.drop_eq_nil_of_le g] at h; cases h
  rw [List.drop_eq_getElem_cons hi] at h
  injection h with h1 h2
  refine ⟨?_, hi, h2⟩
  unfold rd_T44
  rw [Int.toNat_natCast, List.getD_eq_getElem?_getD, List.getElem?_eq_getElem hi]
  exact h1

section
variable {P : Program} {ops : Array Oper} {Q : Exit → Act → World → Prop}
/-- The operation is a call of the function value in this slot (a cheap look ahead of a dear step). -/
theorem gate_value {rest : List Oper} {o : Oper} {a : Act} {W : World} {s : Tmp} {ars : Array Operand} {ts : Array TypeId} (_ho : o.op = .call { callee := .value (.tmp s), args := ars, argTypes := ts }) (h : wpList P ops Q (o :: rest) a W) : wpList P ops Q (o :: rest) a W := h
/-- A call of a function value that a slot holds, as an arm of go_wp2_with. -/
theorem goesV_ {rest : List Oper} {oi : Oper} {a : Act} {w : World} (N : Option Tmp) (hd : oi.dst = N) (hg : oi.guard = none) {f : FuncId} {fn : Func} {ars : Array Operand} {ts : Array TypeId} (hf : P.funcs[f]? = some fn) (hname : (fn.name == "runtime.NumGoroutine") = false) (hb : fn.body.isSome = true) {s : Tmp} {caps : Array Value} (args : Array Value)
    (hop : oi.op = .call { callee := .value (.tmp s), args := ars, argTypes := ts }) (hs : a.eval (.tmp s) = .func (.func f) #[] caps) (hargs : ars.map a.eval = args)
    (h : Calls P f (args ++ caps) w fun e w' => ∃ v, e = .returned v ∧ wpList P ops Q rest (a.put N v) w') : wpList P ops Q (oi :: rest) a w := by
  refine wpList_plain hg fun K hK => ?_
  have he := enters_ hf hname hb (args ++ caps) w
  have hrun : (execOp a.eval oi).run P w = .ok (.enter f (args ++ caps)) w := by
    unfold execOp
    simp [hop, resolve, Deferred.ofValue, invoke, hs, hargs, he]
  unfold Oper.wp
  rw [hrun, Oper.upon_enter]
  refine h.mono fun e w'' hh => ?_
  obtain ⟨v, rfl, hk⟩ := hh
  subst hd
  exact hK _ _ hk
end

set_option maxHeartbeats 4000000 in
set_option maxRecDepth 100000 in
theorem indexFunc_plain (fid : Nat) (caps : Array Value) (fn : Func) (hfn : Tryd.prog.funcs[fid]? = some fn) (hname : (fn.name == "runtime.NumGoroutine") = false) (hbody : fn.body.isSome = true) (p : S44 → Bool) (A0 : Option Addr) (c0 : Nat) (l0 : List S44) (w : World) (hr0 : Kd.C k44 w A0 l0.length l0) (hc0 : l0.length ≤ c0)
    (hf : ∀ (W : World) (x : S44), Below w.heap.size w W → Calls Tryd.prog fid (#[.agg #[.int .i64 x.f0, .int .i64 x.f1, .bool x.f2]] ++ caps) W fun e W' => e = .returned (.bool (p x)) ∧ Below W.heap.size W W') :
    Calls Tryd.prog 30 #[.slice A0 l0.length c0, .func (.func fid) #[] caps] w fun e w' => e = .returned (.int .i64 (idxF p l0 0)) ∧ Below w.heap.size w w' := by
  have hu44 := Tryd.underlying44
  have HR0 := Aside0.mk hr0
  have HC0 := Aside0.mk hc0
  have HF := Aside0.mk hf
  have HFN := Aside0.mk (And.intro hfn (And.intro hname hbody))
  clear hr0 hc0 hf hfn hname hbody
  have HB := Aside0.mk (Below.refl w.heap.size w)
  have HM := Aside0.mk (Kd.C_max HR0.out)
  go_enter Tryd.func30, Tryd.ntmps30
  go_wp2
  go_loopg [8] l0.length (fun kq v8 w' => ∃ (i : Nat) (r : List S44), v8 = .int .i64 i ∧ Aside0 (l0.drop i = r ∧ i + kq = l0.length) ∧ Aside0 (idxF p r i = idxF p l0 0) ∧ Aside0 (Below w.heap.size w w'))
  case atStart => exact ⟨0, l0, rfl, ⟨rfl, by omega⟩, ⟨rfl⟩, HB⟩
  case round =>
    obtain ⟨i, r, rfl, HD, HI, HB⟩ := hrel
    have hd := HD.out.1
    have hk := HD.out.2
    clear HD
    cases r with
    | nil =>
      have hle : l0.length ≤ i := List.drop_eq_nil_iff.1 hd
      have c1 : decide ((i : Int) < (l0.length : Int)) = false := decide_eq_false (by omega)
      have c2 : decide (i < l0.length) = false := decide_eq_false (by omega)
      have HI2 : idxF p l0 0 = -1 := HI.out.symm
      clear hd hk hle HI
      have HI := Aside0.mk HI2
      clear HI2
      go_wp2
      go_ret
      exact ⟨by rw [HI.out]; rfl, HB.out⟩
    | cons x r =>
      obtain ⟨hx, hi, hd2⟩ := rdM_drop hd
      obtain ⟨k1, rfl⟩ : ∃ m, gk = m + 1 := ⟨gk - 1, by omega⟩
      have c1 : decide ((i : Int) < (l0.length : Int)) = true := decide_eq_true (by omega)
      have c2 : decide (i < l0.length) = true := decide_eq_true (by omega)
      have q0 : 0 ≤ (i : Int) := by omega
      have q1 : (i : Int) < (l0.length : Int) := by omega
      obtain ⟨ad155, e155, hx155_0, hx155_1, hx155_2⟩ := at_T44 HR0.out (i : Int) q0 q1
      cases e155
      rw [hx, Int.toNat_natCast] at hx155_0 hx155_1 hx155_2
      replace hx155_0 := (HB.out.cell (World.block_lt_of_cell? w _ hx155_0)).trans hx155_0
      replace hx155_1 := (HB.out.cell (World.block_lt_of_cell? w _ hx155_1)).trans hx155_1
      replace hx155_2 := (HB.out.cell (World.block_lt_of_cell? w _ hx155_2)).trans hx155_2
      have hm := HM.out
      have hsum : wrap64 ((i : Int) + 1) = ((i + 1 : Nat) : Int) := by unfold wrap64; omega
      have HS := Aside0.mk hsum
      have HD2 := Aside0.mk hd2
      have HK := Aside0.mk hk
      have HIL := Aside0.mk hi
      clear hd hd2 hk hx hsum hm
      by_cases hp : p x = true
      · have HI2 : idxF p l0 0 = (i : Int) := by rw [← HI.out]; simp [idxF, hp]
        have HC := Aside0.mk (HF.out wr x HB.out)
        rw [hp] at HC
        clear hp HI
        have HI := Aside0.mk HI2
        clear HI2
        go_wp2_with (first | ((with_reducible refine gate_value (s := 11) rfl ?_); refine goesV_ (some 16) rfl rfl HFN.out.1 HFN.out.2.1 HFN.out.2.2 #[.agg #[.int .i64 x.f0, .int .i64 x.f1, .bool x.f2]] rfl rfl (by (try simp only [List.map_toArray, List.map_cons, List.map_nil]); first | done | rfl) ?_; refine HC.out.mono ?_; rintro e w7 ⟨rfl, hb⟩; refine ⟨_, rfl, ?_⟩; have n0_ := Aside0.mk (below_step HB.out hb); clear HB; have HB := n0_; clear n0_ hb))
        go_ret
        exact ⟨by rw [HI.out]; rfl, HB.out⟩
      · have hp2 : p x = false := by simpa using hp
        have HI2 : idxF p r (((i + 1 : Nat) : Int)) = idxF p l0 0 := by rw [← HI.out]; simp only [idxF, hp2]; simp
        have HC := Aside0.mk (HF.out wr x HB.out)
        rw [hp2] at HC
        clear hp hp2 HI
        have HI := Aside0.mk HI2
        clear HI2
        go_wp2_with (first | ((with_reducible refine gate_value (s := 11) rfl ?_); refine goesV_ (some 16) rfl rfl HFN.out.1 HFN.out.2.1 HFN.out.2.2 #[.agg #[.int .i64 x.f0, .int .i64 x.f1, .bool x.f2]] rfl rfl (by (try simp only [List.map_toArray, List.map_cons, List.map_nil]); first | done | rfl) ?_; refine HC.out.mono ?_; rintro e w7 ⟨rfl, hb⟩; refine ⟨_, rfl, ?_⟩; have n0_ := Aside0.mk (below_step HB.out hb); clear HB; have HB := n0_; clear n0_ hb))
        go_roundg k1
        case measure => omega
        case rel => exact ⟨i + 1, r, by rw [← HS.out], ⟨HD2.out, by have := HK.out; have := HIL.out; omega⟩, HI, HB⟩
set_option maxHeartbeats 4000000 in
set_option maxRecDepth 100000 in
theorem containsFunc_plain (fid : Nat) (caps : Array Value) (fn : Func) (hfn : Tryd.prog.funcs[fid]? = some fn) (hname : (fn.name == "runtime.NumGoroutine") = false) (hbody : fn.body.isSome = true) (p : S44 → Bool) (A0 : Option Addr) (c0 : Nat) (l0 : List S44) (w : World) (hr0 : Kd.C k44 w A0 l0.length l0) (hc0 : l0.length ≤ c0)
    (hf : ∀ (W : World) (x : S44), Below w.heap.size w W → Calls Tryd.prog fid (#[.agg #[.int .i64 x.f0, .int .i64 x.f1, .bool x.f2]] ++ caps) W fun e W' => e = .returned (.bool (p x)) ∧ Below W.heap.size W W') :
    Calls Tryd.prog 17 #[.slice A0 l0.length c0, .func (.func fid) #[] caps] w fun e w' => e = .returned (.bool (decide (0 ≤ idxF p l0 0))) ∧ Below w.heap.size w w' := by
  have HC := Aside0.mk (indexFunc_plain fid caps fn hfn hname hbody p A0 c0 l0 w hr0 hc0 hf)
  clear hr0 hc0 hf hfn hname hbody
  go_enter Tryd.func17, Tryd.ntmps17
  go_wp2_with ((with_reducible refine gate_callee (f := 30) rfl ?_); refine goesL_ (some 7) rfl rfl Tryd.func30 (by kernel_rfl) rfl #[.slice A0 l0.length c0, .func (.func fid) #[] caps] rfl (by (try simp only [List.map_toArray, List.map_cons, List.map_nil]); first | done | rfl) ?_; refine HC.out.mono ?_; rintro e w7 ⟨rfl, hb⟩; refine ⟨_, rfl, ?_⟩; have HB := Aside0.mk hb; clear hb)
  go_ret
  exact ⟨rfl, HB.out⟩

/-- Does a member's life not count? -/
def lifeBad (x : S44) : Bool := !(decide (1 ≤ x.f1) && decide (x.f1 ≤ 1099511627775))
theorem view_count_is (n : Int) : view_count.f n = some (decide (1 ≤ n) && decide (n ≤ 1099511627775)) := by
  unfold view_count.f
  by_cases h : n ≥ 1
  · rw [if_pos h, decide_eq_true (show 1 ≤ n from h), Bool.true_and]
  · rw [if_neg h, decide_eq_false (show ¬ 1 ≤ n from h), Bool.false_and]
set_option maxHeartbeats 4000000 in
set_option maxRecDepth 100000 in
theorem view_Check_1.calls (x : S44) (w : World) :
    Calls Tryd.prog 18 #[.agg #[.int .i64 x.f0, .int .i64 x.f1, .bool x.f2]] w fun e w' => e = .returned (.bool (lifeBad x)) ∧ Below w.heap.size w w' := by
  have hu44 := Tryd.underlying44
  have A1 := Aside0.mk (view_count_is x.f1)
  have HB := Aside0.mk (Below.refl w.heap.size w)
  go_enter Tryd.func18, Tryd.ntmps18
  go_wp2_with ((with_reducible refine gate_callee (f := 14) rfl ?_); refine goesL_ (some 5) rfl rfl Tryd.func14 (by kernel_rfl) rfl #[.int .i64 x.f1] rfl (by (try simp only [List.map_toArray, List.map_cons, List.map_nil]); first | done | rfl) ?_; (with_reducible refine (view_count.calls x.f1 _ _ A1.out).mono ?_); rintro e w5 ⟨rfl, hd⟩; refine ⟨_, rfl, ?_⟩; have hb := hd.below; clear hd; have n0_ := Aside0.mk (below_step (by repeat (first | (with_reducible first | exact HB.out | apply below_alloc | apply pw_below_drewN | apply below_drew1) | exact HB.out)) hb); clear HB; have HB := n0_; clear n0_ hb)
  go_ret
  exact ⟨by first | rfl | (simp [lifeBad]; done) | simp [lifeBad, Bool.not_and], HB.out⟩

/-! ### view_Check: function 5 (a contract of this session's own) -/
theorem view_Check.contains (A0 : Option Addr) (c0 : Nat) (l0 : List S44) (w : World) (hr0 : Kd.C k44 w A0 l0.length l0) (hc0 : l0.length ≤ c0) :
    Calls Tryd.prog 17 #[.slice A0 l0.length c0, .func (.func 18) #[] #[]] w fun e w' => e = .returned (.bool (decide (0 ≤ idxF lifeBad l0 0))) ∧ Below w.heap.size w w' :=
  containsFunc_plain 18 #[] Tryd.f18 Tryd.func18 (by kernel_rfl) rfl lifeBad A0 c0 l0 w hr0 hc0 (fun W x _ => by rw [Array.append_empty]; exact view_Check_1.calls x W)
def view_Check.f (k : Nat) (a0_0 : Int) (l0_1 : List (S44)) : Option (Bool) := (view_count.f a0_0).bind fun t1 => (if t1 = true then (if (l0_1.length : Int) > 0 then ((view_nodes.f k l0_1).bind fun t2 => ((ring_Nodes.f k t2).bind fun t3 => (if t3 = true then (some (!(decide (0 ≤ idxF lifeBad l0_1 0)))) else (some false)))) else (some false)) else (some false))
theorem view_Check.mono : ∀ a0 a1 k, LeO (view_Check.f k a0 a1) (view_Check.f (k + 1) a0 a1) := by
  intro a0 a1 k
  unfold view_Check.f
  exact LeO.bind (LeO.refl _) fun _ => LeO.ite (LeO.ite (LeO.bind (view_nodes.mono _ _) fun _ => LeO.bind (ring_Nodes.mono _ _) fun _ => LeO.refl _) (LeO.refl _)) (LeO.refl _)
set_option maxHeartbeats 8000000 in
set_option maxRecDepth 100000 in
theorem view_Check.calls (k : Nat) (a0_0 : Int) (A0_1 : Option Addr) (c0_1 : Nat) (l0_1 : List (S44)) (r : Bool) (w : World) (hr0_1 : Kd.C k44 w A0_1 l0_1.length l0_1) (hc0_1 : l0_1.length ≤ c0_1) (h : view_Check.f k a0_0 l0_1 = some r) :
    Calls Tryd.prog 5 #[.agg #[.int .i64 a0_0, .slice A0_1 l0_1.length c0_1]] w fun e w' => e = .returned (.bool r) ∧ Below w.heap.size w w' := by
  have hu24 := Tryd.underlying24
  have HR := Aside0.mk hr0_1
  have HC := Aside0.mk hc0_1
  have HM := Aside0.mk (Kd.C_max HR.out)
  clear hr0_1 hc0_1
  have HB := Aside0.mk (Below.refl w.heap.size w)
  have hx : (w.alloc (.cells #[.int .i64 a0_0, .slice A0_1 l0_1.length c0_1] 24)).cell? ⟨w.heap.size, 1, none⟩ = some (.slice A0_1 l0_1.length c0_1) := by simp
  unfold view_Check.f at h
  obtain ⟨t1, h1, h⟩ := Option.bind_eq_some_iff.mp h
  have A1 := Aside0.mk h1
  clear h1
  by_cases g1 : t1 = true
  · subst g1
    rw [if_pos rfl] at h
    by_cases g2 : (l0_1.length : Int) > 0
    · rw [if_pos g2] at h
      have g2b0 : decide (0 < (l0_1.length : Int)) = true := decide_eq_true g2
      have g2b1 : decide (0 < l0_1.length) = true := decide_eq_true (by omega)
      clear g2
      obtain ⟨t2, h2, h⟩ := Option.bind_eq_some_iff.mp h
      obtain ⟨t3, h3, h⟩ := Option.bind_eq_some_iff.mp h
      have A2 := Aside0.mk h2
      have A3 := Aside0.mk h3
      clear h2 h3
      by_cases g3 : t3 = true
      · subst g3
        rw [if_pos rfl] at h
        obtain rfl := Option.some.inj h
        clear h
        go_enter Tryd.func5, Tryd.ntmps5
        go_wp2_with (first
          | ((with_reducible refine gate_callee (f := 14) rfl ?_); (try (refine gate_guard (by rfl) ?_; dsimp only)); refine goesL_ (some 5) rfl rfl Tryd.func14 (by kernel_rfl) rfl #[.int .i64 a0_0] rfl (by (try simp only [List.map_toArray, List.map_cons, List.map_nil]); first | done | rfl) ?_; (with_reducible refine (view_count.calls a0_0 true _ A1.out).mono ?_); rintro e w5 ⟨rfl, hd⟩; refine ⟨_, rfl, ?_⟩; have hb := hd.below; clear hd; have hn_ := (hb.cell (World.block_lt_of_cell? _ _ hx)).trans hx; clear hx; have hx := hn_; clear hn_; have n0_ := Aside0.mk (below_step (by repeat (first | (with_reducible first | exact HB.out | apply below_alloc | apply pw_below_drewN | apply below_drew1) | exact HB.out)) hb); clear HB; have HB := n0_; clear n0_ hb)
          | ((with_reducible refine gate_callee (f := 16) rfl ?_); (try (refine gate_guard (by rfl) ?_; dsimp only)); refine goesL_ (some 15) rfl rfl Tryd.func16 (by kernel_rfl) rfl #[.slice A0_1 l0_1.length c0_1] rfl (by (try simp only [List.map_toArray, List.map_cons, List.map_nil]); first | done | rfl) ?_; (with_reducible refine (view_nodes.calls k A0_1 c0_1 l0_1 t2 _ (Kd.C_below HR.out (by repeat (first | (with_reducible first | exact HB.out | apply below_alloc | apply pw_below_drewN | apply below_drew1) | exact HB.out))) HC.out A2.out).mono ?_); rintro e w15 ⟨v0_, rfl, hv, hb⟩; refine ⟨_, rfl, ?_⟩; have hn_ := (hb.cell (World.block_lt_of_cell? _ _ hx)).trans hx; clear hx; have hx := hn_; clear hn_; obtain ⟨A2_, c2_, rfl, hc2, hr2⟩ := Kd.R_reads hv; have HR2 := Aside0.mk hr2; have HC2 := Aside0.mk hc2; clear hv hr2 hc2; have n0_ := Aside0.mk (below_step (by repeat (first | (with_reducible first | exact HB.out | apply below_alloc | apply pw_below_drewN | apply below_drew1) | exact HB.out)) hb); clear HB; have HB := n0_; clear n0_ hb)
          | ((with_reducible refine gate_callee (f := 15) rfl ?_); (try (refine gate_guard (by rfl) ?_; dsimp only)); refine goesL_ (some 16) rfl rfl Tryd.func15 (by kernel_rfl) rfl #[.slice A2_ t2.length c2_] rfl (by (try simp only [List.map_toArray, List.map_cons, List.map_nil]); first | done | rfl) ?_; (with_reducible refine (ring_Nodes.calls k A2_ c2_ t2 true _ HR2.out HC2.out A3.out).mono ?_); rintro e w16 ⟨rfl, hd⟩; refine ⟨_, rfl, ?_⟩; have hb := hd.below; clear hd; have hn_ := (hb.cell (World.block_lt_of_cell? _ _ hx)).trans hx; clear hx; have hx := hn_; clear hn_; have n0_ := Aside0.mk (below_step (by repeat (first | (with_reducible first | exact HB.out | apply below_alloc | apply pw_below_drewN | apply below_drew1) | exact HB.out)) hb); clear HB; have HB := n0_; clear n0_ hb)
          | ((with_reducible refine gate_callee (f := 17) rfl ?_); (try (refine gate_guard (by rfl) ?_; dsimp only)); refine goesL_ (some 21) rfl rfl Tryd.func17 (by kernel_rfl) rfl #[.slice A0_1 l0_1.length c0_1, .func (.func 18) #[] #[]] rfl (by (try simp only [List.map_toArray, List.map_cons, List.map_nil]); first | done | rfl) ?_; (with_reducible refine (view_Check.contains A0_1 c0_1 l0_1 _ (Kd.C_below HR.out (by repeat (first | (with_reducible first | exact HB.out | apply below_alloc | apply pw_below_drewN | apply below_drew1) | exact HB.out))) HC.out).mono ?_); rintro e w21 ⟨rfl, hb⟩; refine ⟨_, rfl, ?_⟩; have n0_ := Aside0.mk (below_step (by repeat (first | (with_reducible first | exact HB.out | apply below_alloc | apply pw_below_drewN | apply below_drew1) | exact HB.out)) hb); clear HB; have HB := n0_; clear n0_ hb))
        go_ret
        exact ⟨rfl, HB.out⟩
      · replace g3 := Bool.eq_false_iff.mpr g3
        subst g3
        rw [if_neg (by decide)] at h
        obtain rfl := Option.some.inj h
        clear h
        go_enter Tryd.func5, Tryd.ntmps5
        go_wp2_with (first
          | ((with_reducible refine gate_callee (f := 14) rfl ?_); (try (refine gate_guard (by rfl) ?_; dsimp only)); refine goesL_ (some 5) rfl rfl Tryd.func14 (by kernel_rfl) rfl #[.int .i64 a0_0] rfl (by (try simp only [List.map_toArray, List.map_cons, List.map_nil]); first | done | rfl) ?_; (with_reducible refine (view_count.calls a0_0 true _ A1.out).mono ?_); rintro e w5 ⟨rfl, hd⟩; refine ⟨_, rfl, ?_⟩; have hb := hd.below; clear hd; have hn_ := (hb.cell (World.block_lt_of_cell? _ _ hx)).trans hx; clear hx; have hx := hn_; clear hn_; have n0_ := Aside0.mk (below_step (by repeat (first | (with_reducible first | exact HB.out | apply below_alloc | apply pw_below_drewN | apply below_drew1) | exact HB.out)) hb); clear HB; have HB := n0_; clear n0_ hb)
          | ((with_reducible refine gate_callee (f := 16) rfl ?_); (try (refine gate_guard (by rfl) ?_; dsimp only)); refine goesL_ (some 15) rfl rfl Tryd.func16 (by kernel_rfl) rfl #[.slice A0_1 l0_1.length c0_1] rfl (by (try simp only [List.map_toArray, List.map_cons, List.map_nil]); first | done | rfl) ?_; (with_reducible refine (view_nodes.calls k A0_1 c0_1 l0_1 t2 _ (Kd.C_below HR.out (by repeat (first | (with_reducible first | exact HB.out | apply below_alloc | apply pw_below_drewN | apply below_drew1) | exact HB.out))) HC.out A2.out).mono ?_); rintro e w15 ⟨v0_, rfl, hv, hb⟩; refine ⟨_, rfl, ?_⟩; have hn_ := (hb.cell (World.block_lt_of_cell? _ _ hx)).trans hx; clear hx; have hx := hn_; clear hn_; obtain ⟨A2_, c2_, rfl, hc2, hr2⟩ := Kd.R_reads hv; have HR2 := Aside0.mk hr2; have HC2 := Aside0.mk hc2; clear hv hr2 hc2; have n0_ := Aside0.mk (below_step (by repeat (first | (with_reducible first | exact HB.out | apply below_alloc | apply pw_below_drewN | apply below_drew1) | exact HB.out)) hb); clear HB; have HB := n0_; clear n0_ hb)
          | ((with_reducible refine gate_callee (f := 15) rfl ?_); (try (refine gate_guard (by rfl) ?_; dsimp only)); refine goesL_ (some 16) rfl rfl Tryd.func15 (by kernel_rfl) rfl #[.slice A2_ t2.length c2_] rfl (by (try simp only [List.map_toArray, List.map_cons, List.map_nil]); first | done | rfl) ?_; (with_reducible refine (ring_Nodes.calls k A2_ c2_ t2 false _ HR2.out HC2.out A3.out).mono ?_); rintro e w16 ⟨rfl, hd⟩; refine ⟨_, rfl, ?_⟩; have hb := hd.below; clear hd; have hn_ := (hb.cell (World.block_lt_of_cell? _ _ hx)).trans hx; clear hx; have hx := hn_; clear hn_; have n0_ := Aside0.mk (below_step (by repeat (first | (with_reducible first | exact HB.out | apply below_alloc | apply pw_below_drewN | apply below_drew1) | exact HB.out)) hb); clear HB; have HB := n0_; clear n0_ hb))
        go_ret
        exact ⟨rfl, by repeat (first | (with_reducible first | exact HB.out | apply below_alloc | apply pw_below_drewN | apply below_drew1) | exact HB.out)⟩
    · rw [if_neg g2] at h
      have g2b0 : decide (0 < (l0_1.length : Int)) = false := decide_eq_false g2
      have g2b1 : decide (0 < l0_1.length) = false := decide_eq_false (by omega)
      clear g2
      obtain rfl := Option.some.inj h
      clear h
      go_enter Tryd.func5, Tryd.ntmps5
      go_wp2_with (((with_reducible refine gate_callee (f := 14) rfl ?_); (try (refine gate_guard (by rfl) ?_; dsimp only)); refine goesL_ (some 5) rfl rfl Tryd.func14 (by kernel_rfl) rfl #[.int .i64 a0_0] rfl (by (try simp only [List.map_toArray, List.map_cons, List.map_nil]); first | done | rfl) ?_; (with_reducible refine (view_count.calls a0_0 true _ A1.out).mono ?_); rintro e w5 ⟨rfl, hd⟩; refine ⟨_, rfl, ?_⟩; have hb := hd.below; clear hd; have hn_ := (hb.cell (World.block_lt_of_cell? _ _ hx)).trans hx; clear hx; have hx := hn_; clear hn_; have n0_ := Aside0.mk (below_step (by repeat (first | (with_reducible first | exact HB.out | apply below_alloc | apply pw_below_drewN | apply below_drew1) | exact HB.out)) hb); clear HB; have HB := n0_; clear n0_ hb))
      go_ret
      exact ⟨rfl, by repeat (first | (with_reducible first | exact HB.out | apply below_alloc | apply pw_below_drewN | apply below_drew1) | exact HB.out)⟩
  · replace g1 := Bool.eq_false_iff.mpr g1
    subst g1
    rw [if_neg (by decide)] at h
    obtain rfl := Option.some.inj h
    clear h
    go_enter Tryd.func5, Tryd.ntmps5
    go_wp2_with (((with_reducible refine gate_callee (f := 14) rfl ?_); (try (refine gate_guard (by rfl) ?_; dsimp only)); refine goesL_ (some 5) rfl rfl Tryd.func14 (by kernel_rfl) rfl #[.int .i64 a0_0] rfl (by (try simp only [List.map_toArray, List.map_cons, List.map_nil]); first | done | rfl) ?_; (with_reducible refine (view_count.calls a0_0 false _ A1.out).mono ?_); rintro e w5 ⟨rfl, hd⟩; refine ⟨_, rfl, ?_⟩; have hb := hd.below; clear hd; have hn_ := (hb.cell (World.block_lt_of_cell? _ _ hx)).trans hx; clear hx; have hx := hn_; clear hn_; have n0_ := Aside0.mk (below_step (by repeat (first | (with_reducible first | exact HB.out | apply below_alloc | apply pw_below_drewN | apply below_drew1) | exact HB.out)) hb); clear HB; have HB := n0_; clear n0_ hb))
    go_ret
    exact ⟨rfl, by repeat (first | (with_reducible first | exact HB.out | apply below_alloc | apply pw_below_drewN | apply below_drew1) | exact HB.out)⟩

/-! ### view_Live: function 9 (a contract of this session's own) -/
section
attribute [local go_sem] Oper.semAt_some
def agM (x : S44) : Value := .agg #[.int .i64 x.f0, .int .i64 x.f1, .bool x.f2]
def upTo (zs : List S44) (k : Nat) : List S44 := (zs.take k).filter (·.f2)

theorem upTo_succ (zs : List S44) {k : Nat} (h : k < zs.length) : upTo zs (k + 1) = upTo zs k ++ (if (rd_T44 zs (k : Int)).f2 then [rd_T44 zs (k : Int)] else []) := by
  unfold upTo
  rw [List.take_add_one, List.getElem?_eq_getElem h]
  have hr : rd_T44 zs (k : Int) = zs[k] := by
    unfold rd_T44
    rw [Int.toNat_natCast, List.getD_eq_getElem?_getD, List.getElem?_eq_getElem h]
    rfl
  rw [hr, Option.toList_some, List.filter_append]
  congr 1
  by_cases h2 : zs[k].f2 = true
  · simp [h2]
  · simp [h2]
theorem upTo_prefix (zs : List S44) (k : Nat) : upTo zs k <+: zs.filter (·.f2) := (List.take_prefix k zs).filter _
set_option maxRecDepth 100000 in
set_option maxHeartbeats 2000000 in
theorem up1_in (F : Fence) (n : Nat) (h50 : F.fn 39) (hro : F.round = none) (hn : 1 ≤ n) (l Bs : Nat) (w0 : World) (A : Option Addr) (c : Nat) (zs : List S44) (hC : Kd.C k44 w0 A zs.length zs) (J Jx : List S44 → World → Prop)
    (hJ : ∀ s W W', J s W → W.grownBy W' none → J s W')
    (hY : ∀ pre x W, J pre W → pre.length < zs.length → YieldAt F (n - 1) Tryd.prog l #[agM x] W fun e W' =>
      (e = .returned (.bool true) ∧ J (pre ++ [x]) W' ∧ Below w0.heap.size W W') ∨ (e = .returned (.bool false) ∧ Jx (pre ++ [x]) W'))
    (W : World) (hb : Below w0.heap.size w0 W) (hBs : W.cell? ⟨Bs, 1, none⟩ = some (.slice A zs.length c)) (h0 : J [] W) :
    CallsIn F n Tryd.prog 39 #[.func (.yield l) #[] #[], .pointer (some ⟨Bs, 0, none⟩)] W fun e W' => (∃ v, e = .returned v) ∧
      ((∃ ys, ys = zs.filter (·.f2) ∧ J ys W') ∨ (∃ pre, pre <+: zs.filter (·.f2) ∧ Jx pre W')) := by
  refine callsIn_of_wp Tryd.func39 rfl h50 ?_ hro
  simp only [Tryd.ntmps39, List.size_toArray, List.length_cons, List.length_nil, Nat.reduceAdd, Nat.reduceSub, Array.replicate_succ, Array.replicate_zero, List.push_toArray, List.append_toArray, List.nil_append, List.cons_append]
  gi_wp2
  gi_loopw [8] (fun i wr => ∃ k : Nat, k ≤ zs.length ∧ i = .int .i64 k ∧ J (upTo zs k) wr ∧ Below w0.heap.size w0 wr)
    (fun i _ => zs.length - (intOf i).toNat)
  case atStart => exact ⟨0, Nat.zero_le _, rfl, h0, hb⟩
  case round =>
    obtain ⟨k, hk, rfl, hJs, hnx⟩ := hrel
    by_cases hlt : k < zs.length
    · have q0 : 0 ≤ (k : Int) := by omega
      have q1 : (k : Int) < (zs.length : Int) := by omega
      obtain ⟨ad, e1, hx0, hx1, hx2⟩ := at_T44 hC (k : Int) q0 q1
      cases e1
      replace hx0 := (hnx.cell (World.block_lt_of_cell? w0 _ hx0)).trans hx0
      replace hx1 := (hnx.cell (World.block_lt_of_cell? w0 _ hx1)).trans hx1
      replace hx2 := (hnx.cell (World.block_lt_of_cell? w0 _ hx2)).trans hx2
      obtain ⟨x, hx⟩ : ∃ x, rd_T44 zs (k : Int) = x := ⟨_, rfl⟩
      rw [hx, Int.toNat_natCast] at hx0 hx1 hx2
      have hm := Kd.C_max hC
      have hw : wrap64 ((k : Int) + 1) = (k : Int) + 1 := by unfold wrap64; omega
      have hlen : (upTo zs k).length < zs.length := Nat.lt_of_le_of_lt (Nat.le_trans (List.length_filter_le _ _) (by rw [List.length_take]; exact Nat.min_le_left _ _)) hlt
      by_cases hup : x.f2 = true
      · rw [hup] at hx2
        have hsucc : upTo zs (k + 1) = upTo zs k ++ [x] := by rw [upTo_succ zs hlt, hx, hup]; rfl
        obtain ⟨fn, tmps, assign, body, hy, hR⟩ := hY (upTo zs k) x (wr.alloc (.cells #[.int .i64 x.f0, .int .i64 x.f1, .bool true] 44)) (hJ _ _ _ hJs (World.grownBy_alloc _ _ _)) hlen
        simp only [agM, hup] at hy
        have hB2 := below_alloc hnx (.cells #[.int .i64 x.f0, .int .i64 x.f1, .bool true] 44)
        gi_wp2
        refine hR.mono ?_
        rintro e W3 (⟨rfl, hJ3, hk3⟩ | ⟨rfl, hJx3⟩)
        · gi_wp2
          go_roundw
          case rel => exact ⟨k + 1, by omega, rfl, by rw [hsucc]; exact hJ3, hB2.trans hk3⟩
          case measure => simp [intOf, hw]; omega
        · gi_wp2
          refine bodyPost_ret (results_none rfl _ _ _) rfl ?_
          exact ⟨⟨_, rfl⟩, .inr ⟨_, by rw [← hsucc]; exact upTo_prefix zs (k + 1), hJx3⟩⟩
      · have hup : x.f2 = false := by simpa using hup
        rw [hup] at hx2
        have hsucc : upTo zs (k + 1) = upTo zs k := by rw [upTo_succ zs hlt, hx, hup]; simp
        have hB2 := below_alloc hnx (.cells #[.int .i64 x.f0, .int .i64 x.f1, .bool false] 44)
        have hJ2 := hJ _ _ _ hJs (World.grownBy_alloc wr (.cells #[.int .i64 x.f0, .int .i64 x.f1, .bool false] 44) none)
        gi_wp2
        refine ⟨fun _ h => (by cases h), ?_⟩
        gi_wp2
        go_roundw
        case rel => exact ⟨k + 1, by omega, rfl, by rw [hsucc]; exact hJ2, hB2⟩
        case measure => simp [intOf, hw]; omega
    · obtain rfl : k = zs.length := by omega
      have hJ2 : J (zs.filter (·.f2)) wr := by unfold upTo at hJs; rwa [List.take_length] at hJs
      gi_wp2
      go_end0
      exact ⟨⟨_, rfl⟩, .inl ⟨_, rfl, hJ2⟩⟩

theorem up_in (F : Fence) (n : Nat) (h38 : F.fn 25) (hro : F.round = none) (a0 : Int) (A : Option Addr) (m c : Nat) (w : World) :
    CallsIn F n Tryd.prog 25 #[.agg #[.int .i64 a0, .slice A m c]] w fun e w' => e = .returned (.func (.func 39) #[] #[.pointer (some ⟨w.heap.size, 0, none⟩)]) ∧ w' = w.alloc (.cells #[.int .i64 a0, .slice A m c] 24) := by
  have hu24 := Tryd.underlying24
  refine callsIn_of_wp Tryd.func25 rfl h38 ?_ hro
  simp only [Tryd.ntmps25, List.size_toArray, List.length_cons, List.length_nil, Nat.reduceAdd, Nat.reduceSub, Array.replicate_succ, Array.replicate_zero, List.push_toArray, List.append_toArray, List.nil_append, List.cons_append]
  gi_wp2
  go_ret
  exact ⟨rfl, rfl⟩

theorem up_stops (F : Fence) (n : Nat) (h50 : F.fn 39) (hro : F.round = none) (hn : 1 ≤ n) (Bs : Nat) (A : Option Addr) (c : Nat) (zs : List S44) (w0 w : World) (hC : Kd.C k44 w0 A zs.length zs) (hb0 : Below w0.heap.size w0 w) (hBs : w.cell? ⟨Bs, 1, none⟩ = some (.slice A zs.length c)) :
    SeqStopsK F n Tryd.prog 39 #[.pointer (some ⟨Bs, 0, none⟩)] (fun x : S44 => #[agM x]) (Below w0.heap.size) (fun ys => ys = zs.filter (·.f2)) (fun pre => pre <+: zs.filter (·.f2)) zs.length w := fun l J Jx W hW hJ _ hY h0 =>
  up1_in F n h50 hro hn l Bs w0 A c zs hC J Jx (fun s X Y hs hg => hJ s X Y none hs hg (fun r e => by cases e)) hY W (hb0.trans (hW.mono hb0.size)) ((hW.cell (p := ⟨Bs, 1, none⟩) (World.block_lt_of_cell? w _ hBs)).trans hBs) h0

/-- A block of three cells that holds a member. -/
def BoxM (W : World) (B : Nat) (x : S44) : Prop := W.heap[B]? = some (.cells #[.int .i64 x.f0, .int .i64 x.f1, .bool x.f2] 44 (0, 0))
theorem BoxM.lt {W : World} {B : Nat} {x : S44} (h : BoxM W B x) : B < W.heap.size := (Array.getElem?_eq_some_iff.1 h).1
theorem BoxM.new (W : World) (x : S44) : BoxM (W.alloc (.cells #[.int .i64 x.f0, .int .i64 x.f1, .bool x.f2] 44)) W.heap.size x := World.alloc_heap_new W _
theorem BoxM.cell0 {W : World} {B : Nat} {x : S44} (h : BoxM W B x) : W.cell? ⟨B, 0, none⟩ = some (.int .i64 x.f0) := by simp [World.cell?, show W.heap[B]? = _ from h]
theorem BoxM.cell1 {W : World} {B : Nat} {x : S44} (h : BoxM W B x) : W.cell? ⟨B, 1, none⟩ = some (.int .i64 x.f1) := by simp [World.cell?, show W.heap[B]? = _ from h]
theorem BoxM.cell2 {W : World} {B : Nat} {x : S44} (h : BoxM W B x) : W.cell? ⟨B, 2, none⟩ = some (.bool x.f2) := by simp [World.cell?, show W.heap[B]? = _ from h]
theorem BoxM.own {W W' : World} {row : Option Nat} {B : Nat} {x : S44} (h : BoxM W B x) (hg : W.grownBy W' row) (hr : ∀ r, row = some r → ∃ o : Obj, W.heap[r]? = some o ∧ o.isCells = false) : BoxM W' B x := by
  refine (hg.block B h.lt (fun e => ?_)).trans h
  obtain ⟨o, ho, hc⟩ := hr B e.symm
  rw [show W.heap[B]? = _ from h] at ho
  cases ho
  cases hc

def numsOf (l : List S44) : List Int := (l.filter (·.f2)).map (·.f0)
end
section
attribute [local go_sem] Oper.semAt_some
def view_Live.f (k : Nat) (a0_0 : Int) (l0_1 : List S44) : Option (List Int) := (view_Check.f k a0_0 l0_1).bind fun t => if t = true then (if l0_1.length ≤ 1099511627776 then some (numsOf l0_1) else none) else some []
theorem view_Live.mono : ∀ a0 a1 k, LeO (view_Live.f k a0 a1) (view_Live.f (k + 1) a0 a1) := by
  intro a0 a1 k
  unfold view_Live.f
  exact LeO.bind (view_Check.mono _ _ _) fun _ => LeO.refl _
set_option maxHeartbeats 8000000 in
set_option maxRecDepth 100000 in
theorem view_Live.calls (k : Nat) (a0_0 : Int) (A0_1 : Option Addr) (c0_1 : Nat) (l0_1 : List (S44)) (r : List Int) (w : World) (hr0_1 : Kd.C k44 w A0_1 l0_1.length l0_1) (hc0_1 : l0_1.length ≤ c0_1) (h : view_Live.f k a0_0 l0_1 = some r) :
    Calls Tryd.prog 9 #[.agg #[.int .i64 a0_0, .slice A0_1 l0_1.length c0_1]] w fun e w' => ∃ v0_ : Value, e = .returned (v0_) ∧ Kd.R (Kd.int .i64) 3 w' w.heap.size (fun _ => True) v0_ r ∧ Below w.heap.size w w' := by
  have hu24 := Tryd.underlying24
  have hu44 := Tryd.underlying44
  unfold view_Live.f at h
  obtain ⟨t, h1, h⟩ := Option.bind_eq_some_iff.mp h
  have hB1 := below_alloc (Below.refl w.heap.size w) (.cells #[.int .i64 a0_0, .slice A0_1 l0_1.length c0_1] 24)
  have hA1 := view_Check.calls k a0_0 A0_1 c0_1 l0_1 t _ (Kd.C_below hr0_1 hB1) hc0_1 h1
  have hx0 : (w.alloc (.cells #[.int .i64 a0_0, .slice A0_1 l0_1.length c0_1] 24)).cell? ⟨w.heap.size, 0, none⟩ = some (.int .i64 a0_0) := by simp
  have hx1 : (w.alloc (.cells #[.int .i64 a0_0, .slice A0_1 l0_1.length c0_1] 24)).cell? ⟨w.heap.size, 1, none⟩ = some (.slice A0_1 l0_1.length c0_1) := by simp
  clear h1
  have hFN : Fence.wide.fn 39 := trivial
  cases t with
  | false =>
    rw [if_neg (by decide)] at h
    obtain rfl := Option.some.inj h
    clear h
    refine (callsIn_wide (n := 5)).1 ?_
    refine callsIn_of_wp_marks Tryd.func9 rfl trivial ?_ rfl
    simp only [Tryd.ntmps9, List.size_toArray, List.length_cons, List.length_nil, Nat.reduceAdd, Nat.reduceSub, Array.replicate_succ, Array.replicate_zero, List.push_toArray, List.append_toArray, List.nil_append, List.cons_append]
    gi_wp2_with (refine ⟨trivial, ?_⟩; gi_at_call 5; refine (callsIn_wide.2 hA1).mono ?_; rintro e w5 ⟨rfl, hb⟩)
    exact ⟨_, results_tmp rfl _ _ _, _, rfl, Kd.R_nil _ _ _ _ _, hB1.trans (hb.mono (by simp))⟩
  | true =>
    rw [if_pos rfl] at h
    by_cases hl : l0_1.length ≤ 1099511627776
    case neg =>
      rw [if_neg hl] at h
      cases h
    rw [if_pos hl] at h
    obtain rfl := Option.some.inj h
    clear h
    obtain ⟨i0, hi, hz0, hz1, hz2⟩ := info_parts info3
    refine (callsIn_wide (n := 5)).1 ?_
    refine callsIn_of_wp_marks Tryd.func9 rfl trivial ?_ rfl
    simp only [Tryd.ntmps9, List.size_toArray, List.length_cons, List.length_nil, Nat.reduceAdd, Nat.reduceSub, Array.replicate_succ, Array.replicate_zero, List.push_toArray, List.append_toArray, List.nil_append, List.cons_append]
    gi_wp2_with (first
      | (refine ⟨trivial, ?_⟩; gi_at_call 5; refine (callsIn_wide.2 hA1).mono ?_; rintro e w5 ⟨rfl, hb⟩; have hy0 := (hb.cell (World.block_lt_of_cell? _ _ hx0)).trans hx0; have hy1 := (hb.cell (World.block_lt_of_cell? _ _ hx1)).trans hx1; have hv0 := (below_alloc (Below.refl w5.heap.size w5) (.cells #[.slice none 0 0] 27)).cell (World.block_lt_of_cell? _ _ hy0) |>.trans hy0; have hv1 := (below_alloc (Below.refl w5.heap.size w5) (.cells #[.slice none 0 0] 27)).cell (World.block_lt_of_cell? _ _ hy1) |>.trans hy1)
      | (refine ⟨trivial, ?_⟩; gi_at_call 25; refine (up_in Fence.wide _ trivial rfl _ _ _ _ _).mono ?_; rintro e w7 ⟨rfl, rfl⟩))
    have hb' : Below w.heap.size w w5 := hB1.trans (hb.mono (by simp))
    have hsz5 : w.heap.size < w5.heap.size := by have := hb.size; simp at this; omega
    have bO := Boxed.new w5 27 (.slice none 0 0)
    obtain ⟨W0, hW0⟩ : ∃ W0, (w5.alloc (.cells #[.slice none 0 0] 27)).alloc (.cells #[.int .i64 a0_0, .slice A0_1 l0_1.length c0_1] 24) = W0 := ⟨_, rfl⟩
    have hBW0 : Below w.heap.size w W0 := by rw [← hW0]; exact below_alloc (below_alloc hb' _) _
    have hszW : W0.heap.size = w5.heap.size + 2 := by rw [← hW0]; simp
    have bO0 : Boxed W0 w5.heap.size 27 (.slice none 0 0) := by rw [← hW0]; exact bO.alloc _
    have hBs : W0.cell? ⟨w5.heap.size + 1, 1, none⟩ = some (.slice A0_1 l0_1.length c0_1) := by rw [← hW0]; simp
    rw [hW0]
    clear hW0 bO hv0 hv1 hy0 hy1 hb hx0 hx1 hA1
    refine wpIn_rangeFunc_ownH rfl (by omega) (gf := 39) (lb := #[.pointer (some ⟨w5.heap.size + 1, 0, none⟩)]) rfl trivial (enters_of Tryd.func39 (by kernel_rfl) rfl)
      (up_stops Fence.wide _ trivial rfl (by omega) (w5.heap.size + 1) A0_1 c0_1 l0_1 w W0 hr0_1 hBW0 hBs) belowK_t (belowK_b (by omega)) (Below.refl _ _) (fun _ => rfl)
      (fun pre W => (∃ v, Boxed W w5.heap.size 27 v ∧ W.ownsRow w.heap.size 3 1 v pre.length ((pre.map (·.f0)).map (Value.int .i64)) ∧ True) ∧ Below w.heap.size w W)
      (fun _ _ _ => False)
      (OwnFrom.and (Own.from (holdsRow_own w.heap.size w5.heap.size 27 3 1 (fun (pre : List S44) => pre.length) (fun (pre : List S44) => (pre.map (·.f0)).map (Value.int .i64)) (fun _ _ => True)) _) (ownFrom_below (Nat.le_refl _) (by omega)))
      (fun _ _ _ _ _ hs _ _ => hs)
      ⟨⟨_, bO0, World.ownsRow_nil _ _ _ _, trivial⟩, hBW0⟩
      (fun x a' W => ∃ Bx, w5.heap.size < Bx ∧ BoxM W Bx x ∧ a' = { tmps := #[.agg #[.int .i64 a0_0, .slice A0_1 l0_1.length c0_1], .pointer (some ⟨w.heap.size, 0, none⟩), .slice none 0 0, .pointer (some ⟨w5.heap.size, 0, none⟩), .pointer (some ⟨Bx, 0, none⟩), .agg #[.int .i64 a0_0, .slice A0_1 l0_1.length c0_1], .bool true, .bool false, .agg #[.int .i64 a0_0, .slice A0_1 l0_1.length c0_1], .func (.func 39) #[] #[.pointer (some ⟨w5.heap.size + 1, 0, none⟩)], .agg #[.int .i64 x.f0, .int .i64 x.f1, .bool x.f2], undef, undef, undef, undef, undef, undef], defers := [] })
      (fun x a' _ X Y row hs hg hr => by obtain ⟨Bx, h1, h2, h3⟩ := hs; exact ⟨Bx, h1, h2.own hg (fun r e => (hr r e).2), h3⟩)
      ?assign ?body ?done ?stop
    case assign =>
      rintro l pre x W K ⟨⟨v, hv, hrow, _⟩, hB⟩ hK
      have hvl := hv.lt
      simp only [agM]
      gi_wp2
      exact hK _ _ ((KeepsOthers.alloc _ _).from _) ((Below.refl _ W).alloc hB.size _) ⟨⟨v, hv.alloc _, hrow.alloc _, trivial⟩, hB.alloc hB.size _⟩ ⟨W.heap.size, hvl, BoxM.new W x, rfl⟩
    case body =>
      rintro l pre x a' W hl2 ⟨r, hr⟩ ⟨⟨v, hv, hrow, _⟩, hB⟩ ⟨Bx, hBx, bX, rfl⟩ hlt
      have hc := hv.cell
      have hx0 := bX.cell0
      gi_wp2_with (gi_at_builtin; refine wpListIn_append_own _ rfl _ _ 27 rfl w.heap.size 3 i0 (.int .i64 0) 1 8 Tryd.underlying27 hi hz0 hz1 hz2 rfl (by decide) _ _ _ rfl (hrow.alloc _) ⟨W.heap.size, 0, none⟩ 1 1 [.int .i64 x.f0] rfl rfl (cell_one_new _ _ _) (by simp [Value.oneCell']) (by unfold maxLen; omega) (by omega) (by have := hB.size; simp; omega) ?_; intro v' w1 hown' hgrow _; obtain ⟨g', cap', rfl⟩ := ownsRow_succ hown'; obtain ⟨hv1, hv2, hr2, hk2, hb2⟩ := hv.appended (by decide) hrow hB.size (by omega) hown' hgrow; have hc1 := hv1.cell; have hf1 := hv1.frozen)
      exact ⟨hk2.from _, hb2, ⟨_, hv2, by rw [List.length_append, List.map_append, List.map_append]; exact hr2, trivial⟩, hB.trans hb2⟩
    case done =>
      rintro D ys W hD rfl ⟨⟨v, hv, hrow, _⟩, hB⟩ hK
      have hc := hv.cell
      gi_wp2
      refine ⟨by simp, .inl ⟨_, _, rfl, run_takeDeferred hK, ?_⟩⟩
      refine ⟨_, results_tmp rfl _ _ _, v, rfl, ?_, hB.trans (belowK_b (w := w) (Nat.le_refl _) W D _ _ (by omega) hK rfl rfl)⟩
      have ho := ownsRow_putObj hrow (.deferred none) hK rfl
      refine Kd.R_of_own (xs := numsOf l0_1) ?_ (fun _ _ => trivial)
      rw [show (numsOf l0_1).length = (l0_1.filter (·.f2)).length from List.length_map _]
      exact ho
    case stop =>
      rintro D c pre W _ _ h _
      exact h.elim
end

/-! ### view_find_1: function 41 (a contract of this session's own) -/
set_option maxHeartbeats 4000000 in
set_option maxRecDepth 100000 in
theorem view_find_1.calls (x : S44) (b : Nat) (node : Int) (w : World) (hc : w.cell? ⟨b, 0, none⟩ = some (.int .i64 node)) :
    Calls Tryd.prog 41 #[.agg #[.int .i64 x.f0, .int .i64 x.f1, .bool x.f2], .pointer (some ⟨b, 0, none⟩)] w fun e w' => e = .returned (.bool (decide (x.f0 = node))) ∧ Below w.heap.size w w' := by
  have hu44 := Tryd.underlying44
  have hb := World.block_lt_of_cell? w _ hc
  have HB := Aside0.mk (Below.refl w.heap.size w)
  have hc2 := (below_alloc HB.out (.cells #[.int .i64 x.f0, .int .i64 x.f1, .bool x.f2] 44)).cell (p := ⟨b, 0, none⟩) hb |>.trans hc
  go_enter Tryd.func41, Tryd.ntmps41
  go_wp2
  go_ret
  exact ⟨rfl, below_alloc HB.out _⟩

/-! ### view_find: function 27 (a contract of this session's own) -/
def view_find.f (a0_0 : Int) (l0_1 : List S44) (a1 : Int) : Option Int := some (idxF (fun x => decide (x.f0 = a1)) l0_1 0)
set_option maxHeartbeats 4000000 in
set_option maxRecDepth 100000 in
theorem view_find.calls (a0_0 : Int) (A0_1 : Option Addr) (c0_1 : Nat) (l0_1 : List (S44)) (a1 : Int) (r : Int) (w : World) (hr0_1 : Kd.C k44 w A0_1 l0_1.length l0_1) (hc0_1 : l0_1.length ≤ c0_1) (h : view_find.f a0_0 l0_1 a1 = some r) :
    Calls Tryd.prog 27 #[.agg #[.int .i64 a0_0, .slice A0_1 l0_1.length c0_1], .int .i64 a1] w fun e w' => e = .returned (.int .i64 r) ∧ Below w.heap.size w w' := by
  have hu24 := Tryd.underlying24
  have hu44 := Tryd.underlying44
  obtain rfl := Option.some.inj h
  clear h
  have HR := Aside0.mk hr0_1
  have HC := Aside0.mk hc0_1
  clear hr0_1 hc0_1
  have HB := Aside0.mk (Below.refl w.heap.size w)
  have HB1 := Aside0.mk (below_alloc HB.out (.cells #[.int .i64 a0_0, .slice A0_1 l0_1.length c0_1] 24))
  have HB2 := Aside0.mk (below_alloc HB1.out (.cells #[.int .i64 a1] 3))
  have HN := Aside0.mk (show ((w.alloc (.cells #[.int .i64 a0_0, .slice A0_1 l0_1.length c0_1] 24)).alloc (.cells #[.int .i64 a1] 3)).cell? ⟨w.heap.size + 1, 0, none⟩ = some (.int .i64 a1) by simp)
  have HF := Aside0.mk (indexFunc_plain 41 #[.pointer (some ⟨w.heap.size + 1, 0, none⟩)] Tryd.f41 Tryd.func41 (by kernel_rfl) rfl (fun x => decide (x.f0 = a1)) A0_1 c0_1 l0_1 _ (Kd.C_below HR.out HB2.out) HC.out (fun W x hW => view_find_1.calls x (w.heap.size + 1) a1 W ((hW.cell (p := ⟨w.heap.size + 1, 0, none⟩) (by simp)).trans HN.out)))
  go_enter Tryd.func27, Tryd.ntmps27
  go_wp2_with ((with_reducible refine gate_callee (f := 30) rfl ?_); refine goesL_ (some 8) rfl rfl Tryd.func30 (by kernel_rfl) rfl #[.slice A0_1 l0_1.length c0_1, .func (.func 41) #[] #[.pointer (some ⟨w.heap.size + 1, 0, none⟩)]] rfl (by (try simp only [List.map_toArray, List.map_cons, List.map_nil]); first | done | rfl) ?_; (with_reducible refine (HF.out).mono ?_); rintro e w8 ⟨rfl, hb⟩; refine ⟨_, rfl, ?_⟩; have n0_ := Aside0.mk (below_step HB2.out hb); clear HB; have HB := n0_; clear n0_ hb)
  go_ret
  exact ⟨rfl, HB.out⟩

/-! ### api_Member: function 42 (a contract of this session's own) -/
def api_Member.f (l0 : List S44) : Option (List S44) := if l0.length * 24 ≤ 140737488355328 then some l0 else none
set_option maxHeartbeats 4000000 in
set_option maxRecDepth 100000 in
theorem api_Member.calls (A0 : Option Addr) (c0 : Nat) (l0 : List S44) (r : List S44) (w : World) (hr0 : Kd.C k44 w A0 l0.length l0) (hc0 : l0.length ≤ c0) (h : api_Member.f l0 = some r) :
    Calls Tryd.prog 42 #[.slice A0 l0.length c0] w fun e w' => ∃ v0_ : Value, e = .returned (v0_) ∧ Kd.R k44 44 w' w.heap.size (fun _ => True) v0_ r ∧ Below w.heap.size w w' := by
  have hu44 := Tryd.underlying44
  have hnil := fun (W : World) (A : Option Addr) (n : Nat) => Lib.run_eql_slice_nil W 22 44 A n c0 0 0 Tryd.underlying22
  have HR := Aside0.mk hr0
  have HC := Aside0.mk hc0
  have HB := Aside0.mk (Below.refl w.heap.size w)
  unfold api_Member.f at h
  by_cases hl : l0.length * 24 ≤ 140737488355328
  · rw [if_pos hl] at h
    obtain rfl := Option.some.inj h
    have HL := Aside0.mk hl
    clear h hr0 hc0 hl
    cases A0 with
    | none =>
      obtain rfl := C_none_nil HR.out
      go_enter Tryd.func42, Tryd.ntmps42
      go_wp2
      go_ret
      exact ⟨_, rfl, Kd.R_nil _ _ _ _ _, HB.out⟩
    | some ad =>
      have HO := Aside0.mk (R_lit0 k44 44 w w.heap.size (Nat.le_refl _))
      have HB1 := Aside0.mk (below_alloc HB.out (.cells #[] 44))
      go_enter Tryd.func42, Tryd.ntmps42
      go_wp2_with ((with_reducible refine gate_builtin (b := .append) (xs := #[.tmp 5, .tmp 6]) rfl ?_); at_builtin; refine Kd.R_append_rows k44 (w0 := w) w.heap.size rfl (.tmp 5) (.tmp 6) 22 44 _ 24 rfl Tryd.underlying22 info44 rfl (by decide) (by omega) _ [] l0 _ _ _ (fun _ => True) (fun _ => False) rfl rfl HO.out (Kd.C_below HR.out HB1.out) (fun x cs h => by rw [k44_open h]; exact k44_mkM _ _ _ x) (fun _ h => h.elim) (fun _ _ => trivial) HB1.out (by simp) (by have := HL.out; simpa using this) ?_; intro v1 w1 h1 h2 h3 h4; have HV := Aside0.mk h1; have HB2 := Aside0.mk h2; clear h1 h2 h3 h4)
      go_ret
      exact ⟨_, rfl, by simpa using HV.out, HB2.out⟩
  · rw [if_neg hl] at h
    cases h

end Go.Proofs.YtpdalofhekmbeaaDoor.PViewHeirs
