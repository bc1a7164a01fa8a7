-- Written by a program of this session over the kit's printer (with contracts of the session's own).
import Derived.Test.YtpdalofhekmbeaaGreatDoorPViewKeepsx0
import Derived.Test.YtpdalofhekmbeaaGreatDoorPViewKeepsx3
namespace Go.Proofs.YtpdalofhekmbeaaGreatDoor.PViewKeeps
open Go.RowKit Go.Proofs.YtpdalofhekmbeaaGreatDoorW.PrintWords Go.Proofs.YtpdalofhekmbeaaGreatDoorW.PrintLast Go.Proofs.YtpdalofhekmbeaaGreatDoorW.PrintMore
attribute [local go_sem] max2_int min2_int max_two min_two max_three min_three max_four min_four   -- for this text's walks alone
set_option linter.unusedVariables false
set_option linter.unusedSimpArgs false

/-! ### view_Check: function 25 (a contract of this session's own) -/
theorem view_Check.contains (A0 : Option Addr) (c0 : Nat) (l0 : List S53) (w : World) (hr0 : Kd.C k53 w A0 l0.length l0) (hc0 : l0.length ≤ c0) :
    Calls Tryz.prog 48 #[.slice A0 l0.length c0, .func (.func 49) #[] #[]] w fun e w' => e = .returned (.bool (decide (0 ≤ idxF lifeBad l0 0))) ∧ Below w.heap.size w w' :=
  containsFunc_plain 49 #[] Tryz.f49 Tryz.func49 (by kernel_rfl) rfl lifeBad A0 c0 l0 w hr0 hc0 (fun W x _ => by rw [Array.append_empty]; exact view_Check_1.calls x W)
def view_Check.f (k : Nat) (a0_0 : Int) (l0_1 : List (S53)) : Option (Bool) := (view_count.f a0_0).bind fun t1 => (if t1 = true then (if (l0_1.length : Int) > 0 then ((view_nodes.f k l0_1).bind fun t2 => ((ring_Nodes.f k t2).bind fun t3 => (if t3 = true then (some (!(decide (0 ≤ idxF lifeBad l0_1 0)))) else (some false)))) else (some false)) else (some false))
theorem view_Check.mono : ∀ a0 a1 k, LeO (view_Check.f k a0 a1) (view_Check.f (k + 1) a0 a1) := by
  intro a0 a1 k
  unfold view_Check.f
  exact LeO.bind (LeO.refl _) fun _ => LeO.ite (LeO.ite (LeO.bind (view_nodes.mono _ _) fun _ => LeO.bind (ring_Nodes.mono _ _) fun _ => LeO.refl _) (LeO.refl _)) (LeO.refl _)
set_option maxHeartbeats 8000000 in
set_option maxRecDepth 100000 in
theorem view_Check.calls (k : Nat) (a0_0 : Int) (A0_1 : Option Addr) (c0_1 : Nat) (l0_1 : List (S53)) (r : Bool) (w : World) (hr0_1 : Kd.C k53 w A0_1 l0_1.length l0_1) (hc0_1 : l0_1.length ≤ c0_1) (h : view_Check.f k a0_0 l0_1 = some r) :
    Calls Tryz.prog 25 #[.agg #[.int .i64 a0_0, .slice A0_1 l0_1.length c0_1]] w fun e w' => e = .returned (.bool r) ∧ Below w.heap.size w w' := by
  have hu24 := Tryz.underlying24
  have HR := Aside0.mk hr0_1
  have HC := Aside0.mk hc0_1
  have HM := Aside0.mk (Kd.C_max HR.out)
  clear hr0_1 hc0_1
  have HB := Aside0.mk (Below.refl w.heap.size w)
  have hx : (w.alloc (.cells #[.int .i64 a0_0, .slice A0_1 l0_1.length c0_1] 24)).cell? ⟨w.heap.size, 1, none⟩ = some (.slice A0_1 l0_1.length c0_1) := by simp
  unfold view_Check.f at h
  obtain ⟨t1, h1, h⟩ := Option.bind_eq_some_iff.mp h
  have A1 := Aside0.mk h1
  clear h1
  by_cases g1 : t1 = true
  · subst g1
    rw [if_pos rfl] at h
    by_cases g2 : (l0_1.length : Int) > 0
    · rw [if_pos g2] at h
      have g2b0 : decide (0 < (l0_1.length : Int)) = true := decide_eq_true g2
      have g2b1 : decide (0 < l0_1.length) = true := decide_eq_true (by omega)
      clear g2
      obtain ⟨t2, h2, h⟩ := Option.bind_eq_some_iff.mp h
      obtain ⟨t3, h3, h⟩ := Option.bind_eq_some_iff.mp h
      have A2 := Aside0.mk h2
      have A3 := Aside0.mk h3
      clear h2 h3
      by_cases g3 : t3 = true
      · subst g3
        rw [if_pos rfl] at h
        obtain rfl := Option.some.inj h
        clear h
        go_enter Tryz.func25, Tryz.ntmps25
        go_wp2_with (first
          | ((with_reducible refine gate_callee (f := 46) rfl ?_); (try (refine gate_guard (by rfl) ?_; dsimp only)); refine goesL_ (some 5) rfl rfl Tryz.func46 (by kernel_rfl) rfl #[.int .i64 a0_0] rfl (by (try simp only [List.map_toArray, List.map_cons, List.map_nil]); first | rfl) ?_; (with_reducible refine (view_count.calls a0_0 true _ A1.out).mono ?_); rintro e w5 ⟨rfl, hd⟩; refine ⟨_, rfl, ?_⟩; have hb := hd.below; clear hd; have hn_ := (hb.cell (World.block_lt_of_cell? _ _ hx)).trans hx; clear hx; have hx := hn_; clear hn_; have n0_ := Aside0.mk (below_step (by repeat (first | (with_reducible first | exact HB.out | apply below_alloc ) )) hb); clear HB; have HB := n0_; clear n0_ hb)
          | ((with_reducible refine gate_callee (f := 47) rfl ?_); (try (refine gate_guard (by rfl) ?_; dsimp only)); refine goesL_ (some 15) rfl rfl Tryz.func47 (by kernel_rfl) rfl #[.slice A0_1 l0_1.length c0_1] rfl (by (try simp only [List.map_toArray, List.map_cons, List.map_nil]); first | rfl) ?_; (with_reducible refine (view_nodes.calls k A0_1 c0_1 l0_1 t2 _ (Kd.C_below HR.out (by repeat (first | (with_reducible first | exact HB.out ) ))) HC.out A2.out).mono ?_); rintro e w15 ⟨v0_, rfl, hv, hb⟩; refine ⟨_, rfl, ?_⟩; have hn_ := (hb.cell (World.block_lt_of_cell? _ _ hx)).trans hx; clear hx; have hx := hn_; clear hn_; obtain ⟨A2_, c2_, rfl, hc2, hr2⟩ := Kd.R_reads hv; have HR2 := Aside0.mk hr2; have HC2 := Aside0.mk hc2; clear hv hr2 hc2; have n0_ := Aside0.mk (below_step (by repeat (first | (with_reducible first | exact HB.out ) )) hb); clear HB; have HB := n0_; clear n0_ hb)
          | ((with_reducible refine gate_callee (f := 29) rfl ?_); (try (refine gate_guard (by rfl) ?_; dsimp only)); refine goesL_ (some 16) rfl rfl Tryz.func29 (by kernel_rfl) rfl #[.slice A2_ t2.length c2_] rfl (by (try simp only [List.map_toArray, List.map_cons, List.map_nil]); first | rfl) ?_; (with_reducible refine (ring_Nodes.calls k A2_ c2_ t2 true _ HR2.out HC2.out A3.out).mono ?_); rintro e w16 ⟨rfl, hd⟩; refine ⟨_, rfl, ?_⟩; have hb := hd.below; clear hd; have hn_ := (hb.cell (World.block_lt_of_cell? _ _ hx)).trans hx; clear hx; have hx := hn_; clear hn_; have n0_ := Aside0.mk (below_step (by repeat (first | (with_reducible first | exact HB.out ) )) hb); clear HB; have HB := n0_; clear n0_ hb)
          | ((with_reducible refine gate_callee (f := 48) rfl ?_); (try (refine gate_guard (by rfl) ?_; dsimp only)); refine goesL_ (some 21) rfl rfl Tryz.func48 (by kernel_rfl) rfl #[.slice A0_1 l0_1.length c0_1, .func (.func 49) #[] #[]] rfl (by (try simp only [List.map_toArray, List.map_cons, List.map_nil]); first | rfl) ?_; (with_reducible refine (view_Check.contains A0_1 c0_1 l0_1 _ (Kd.C_below HR.out (by repeat (first | (with_reducible first | exact HB.out ) ))) HC.out).mono ?_); rintro e w21 ⟨rfl, hb⟩; refine ⟨_, rfl, ?_⟩; have n0_ := Aside0.mk (below_step (by repeat (first | (with_reducible first | exact HB.out ) )) hb); clear HB; have HB := n0_; clear n0_ hb))
        go_ret
        exact ⟨rfl, HB.out⟩
      · replace g3 := Bool.eq_false_iff.mpr g3
        subst g3
        rw [if_neg (by decide)] at h
        obtain rfl := Option.some.inj h
        clear h
        go_enter Tryz.func25, Tryz.ntmps25
        go_wp2_with (first
          | ((with_reducible refine gate_callee (f := 46) rfl ?_); (try (refine gate_guard (by rfl) ?_; dsimp only)); refine goesL_ (some 5) rfl rfl Tryz.func46 (by kernel_rfl) rfl #[.int .i64 a0_0] rfl (by (try simp only [List.map_toArray, List.map_cons, List.map_nil]); first | rfl) ?_; (with_reducible refine (view_count.calls a0_0 true _ A1.out).mono ?_); rintro e w5 ⟨rfl, hd⟩; refine ⟨_, rfl, ?_⟩; have hb := hd.below; clear hd; have hn_ := (hb.cell (World.block_lt_of_cell? _ _ hx)).trans hx; clear hx; have hx := hn_; clear hn_; have n0_ := Aside0.mk (below_step (by repeat (first | (with_reducible first | exact HB.out | apply below_alloc ) )) hb); clear HB; have HB := n0_; clear n0_ hb)
          | ((with_reducible refine gate_callee (f := 47) rfl ?_); (try (refine gate_guard (by rfl) ?_; dsimp only)); refine goesL_ (some 15) rfl rfl Tryz.func47 (by kernel_rfl) rfl #[.slice A0_1 l0_1.length c0_1] rfl (by (try simp only [List.map_toArray, List.map_cons, List.map_nil]); first | rfl) ?_; (with_reducible refine (view_nodes.calls k A0_1 c0_1 l0_1 t2 _ (Kd.C_below HR.out (by repeat (first | (with_reducible first | exact HB.out ) ))) HC.out A2.out).mono ?_); rintro e w15 ⟨v0_, rfl, hv, hb⟩; refine ⟨_, rfl, ?_⟩; have hn_ := (hb.cell (World.block_lt_of_cell? _ _ hx)).trans hx; clear hx; have hx := hn_; clear hn_; obtain ⟨A2_, c2_, rfl, hc2, hr2⟩ := Kd.R_reads hv; have HR2 := Aside0.mk hr2; have HC2 := Aside0.mk hc2; clear hv hr2 hc2; have n0_ := Aside0.mk (below_step (by repeat (first | (with_reducible first | exact HB.out ) )) hb); clear HB; have HB := n0_; clear n0_ hb)
          | ((with_reducible refine gate_callee (f := 29) rfl ?_); (try (refine gate_guard (by rfl) ?_; dsimp only)); refine goesL_ (some 16) rfl rfl Tryz.func29 (by kernel_rfl) rfl #[.slice A2_ t2.length c2_] rfl (by (try simp only [List.map_toArray, List.map_cons, List.map_nil]); first | rfl) ?_; (with_reducible refine (ring_Nodes.calls k A2_ c2_ t2 false _ HR2.out HC2.out A3.out).mono ?_); rintro e w16 ⟨rfl, hd⟩; refine ⟨_, rfl, ?_⟩; have hb := hd.below; clear hd; have hn_ := (hb.cell (World.block_lt_of_cell? _ _ hx)).trans hx; clear hx; have hx := hn_; clear hn_; have n0_ := Aside0.mk (below_step (by repeat (first | (with_reducible first | exact HB.out ) )) hb); clear HB; have HB := n0_; clear n0_ hb))
        go_ret
        exact ⟨rfl, by repeat (first | (with_reducible first | exact HB.out ) )⟩
    · rw [if_neg g2] at h
      have g2b0 : decide (0 < (l0_1.length : Int)) = false := decide_eq_false g2
      have g2b1 : decide (0 < l0_1.length) = false := decide_eq_false (by omega)
      clear g2
      obtain rfl := Option.some.inj h
      clear h
      go_enter Tryz.func25, Tryz.ntmps25
      go_wp2_with (((with_reducible refine gate_callee (f := 46) rfl ?_); (try (refine gate_guard (by rfl) ?_; dsimp only)); refine goesL_ (some 5) rfl rfl Tryz.func46 (by kernel_rfl) rfl #[.int .i64 a0_0] rfl (by (try simp only [List.map_toArray, List.map_cons, List.map_nil]); first | rfl) ?_; (with_reducible refine (view_count.calls a0_0 true _ A1.out).mono ?_); rintro e w5 ⟨rfl, hd⟩; refine ⟨_, rfl, ?_⟩; have hb := hd.below; clear hd; have hn_ := (hb.cell (World.block_lt_of_cell? _ _ hx)).trans hx; clear hx; have hx := hn_; clear hn_; have n0_ := Aside0.mk (below_step (by repeat (first | (with_reducible first | exact HB.out | apply below_alloc ) )) hb); clear HB; have HB := n0_; clear n0_ hb))
      go_ret
      exact ⟨rfl, by repeat (first | (with_reducible first | exact HB.out ) )⟩
  · replace g1 := Bool.eq_false_iff.mpr g1
    subst g1
    rw [if_neg (by decide)] at h
    obtain rfl := Option.some.inj h
    clear h
    go_enter Tryz.func25, Tryz.ntmps25
    go_wp2_with (((with_reducible refine gate_callee (f := 46) rfl ?_); (try (refine gate_guard (by rfl) ?_; dsimp only)); refine goesL_ (some 5) rfl rfl Tryz.func46 (by kernel_rfl) rfl #[.int .i64 a0_0] rfl (by (try simp only [List.map_toArray, List.map_cons, List.map_nil]); first | rfl) ?_; (with_reducible refine (view_count.calls a0_0 false _ A1.out).mono ?_); rintro e w5 ⟨rfl, hd⟩; refine ⟨_, rfl, ?_⟩; have hb := hd.below; clear hd; have hn_ := (hb.cell (World.block_lt_of_cell? _ _ hx)).trans hx; clear hx; have hx := hn_; clear hn_; have n0_ := Aside0.mk (below_step (by repeat (first | (with_reducible first | exact HB.out | apply below_alloc ) )) hb); clear HB; have HB := n0_; clear n0_ hb))
    go_ret
    exact ⟨rfl, by repeat (first | (with_reducible first | exact HB.out ) )⟩

/-! ### view_find_1: function 54 (a contract of this session's own) -/
set_option maxHeartbeats 4000000 in
set_option maxRecDepth 100000 in
theorem view_find_1.calls (x : S53) (b : Nat) (node : Int) (w : World) (hc : w.cell? ⟨b, 0, none⟩ = some (.int .i64 node)) :
    Calls Tryz.prog 54 #[.agg #[.int .i64 x.f0, .int .i64 x.f1, .bool x.f2], .pointer (some ⟨b, 0, none⟩)] w fun e w' => e = .returned (.bool (decide (x.f0 = node))) ∧ Below w.heap.size w w' := by
  have hu53 := Tryz.underlying53
  have hb := World.block_lt_of_cell? w _ hc
  have HB := Aside0.mk (Below.refl w.heap.size w)
  have hc2 := (below_alloc HB.out (.cells #[.int .i64 x.f0, .int .i64 x.f1, .bool x.f2] 53)).cell (p := ⟨b, 0, none⟩) hb |>.trans hc
  go_enter Tryz.func54, Tryz.ntmps54
  go_wp2
  go_ret
  exact ⟨rfl, below_alloc HB.out _⟩

/-! ### view_find: function 30 (a contract of this session's own) -/
def view_find.f (a0_0 : Int) (l0_1 : List S53) (a1 : Int) : Option Int := some (idxF (fun x => decide (x.f0 = a1)) l0_1 0)
set_option maxHeartbeats 4000000 in
set_option maxRecDepth 100000 in
theorem view_find.calls (a0_0 : Int) (A0_1 : Option Addr) (c0_1 : Nat) (l0_1 : List (S53)) (a1 : Int) (r : Int) (w : World) (hr0_1 : Kd.C k53 w A0_1 l0_1.length l0_1) (hc0_1 : l0_1.length ≤ c0_1) (h : view_find.f a0_0 l0_1 a1 = some r) :
    Calls Tryz.prog 30 #[.agg #[.int .i64 a0_0, .slice A0_1 l0_1.length c0_1], .int .i64 a1] w fun e w' => e = .returned (.int .i64 r) ∧ Below w.heap.size w w' := by
  have hu24 := Tryz.underlying24
  have hu53 := Tryz.underlying53
  obtain rfl := Option.some.inj h
  clear h
  have HR := Aside0.mk hr0_1
  have HC := Aside0.mk hc0_1
  clear hr0_1 hc0_1
  have HB := Aside0.mk (Below.refl w.heap.size w)
  have HB1 := Aside0.mk (below_alloc HB.out (.cells #[.int .i64 a0_0, .slice A0_1 l0_1.length c0_1] 24))
  have HB2 := Aside0.mk (below_alloc HB1.out (.cells #[.int .i64 a1] 3))
  have HN := Aside0.mk (show ((w.alloc (.cells #[.int .i64 a0_0, .slice A0_1 l0_1.length c0_1] 24)).alloc (.cells #[.int .i64 a1] 3)).cell? ⟨w.heap.size + 1, 0, none⟩ = some (.int .i64 a1) by simp)
  have HF := Aside0.mk (indexFunc_plain 54 #[.pointer (some ⟨w.heap.size + 1, 0, none⟩)] Tryz.f54 Tryz.func54 (by kernel_rfl) rfl (fun x => decide (x.f0 = a1)) A0_1 c0_1 l0_1 _ (Kd.C_below HR.out HB2.out) HC.out (fun W x hW => view_find_1.calls x (w.heap.size + 1) a1 W ((hW.cell (p := ⟨w.heap.size + 1, 0, none⟩) (by simp)).trans HN.out)))
  go_enter Tryz.func30, Tryz.ntmps30
  go_wp2_with ((with_reducible refine gate_callee (f := 53) rfl ?_); refine goesL_ (some 8) rfl rfl Tryz.func53 (by kernel_rfl) rfl #[.slice A0_1 l0_1.length c0_1, .func (.func 54) #[] #[.pointer (some ⟨w.heap.size + 1, 0, none⟩)]] rfl (by (try simp only [List.map_toArray, List.map_cons, List.map_nil]); first | rfl) ?_; (with_reducible refine (HF.out).mono ?_); rintro e w8 ⟨rfl, hb⟩; refine ⟨_, rfl, ?_⟩; have n0_ := Aside0.mk (below_step HB2.out hb); clear HB; have HB := n0_; clear n0_ hb)
  go_ret
  exact ⟨rfl, HB.out⟩

/-! ### api_Member_55: function 55 (a contract of this session's own) -/
def api_Member_55.f (l0 : List S53) : Option (List S53) := if l0.length * 24 ≤ 140737488355328 then some l0 else none
set_option maxHeartbeats 4000000 in
set_option maxRecDepth 100000 in
theorem api_Member_55.calls (A0 : Option Addr) (c0 : Nat) (l0 : List S53) (r : List S53) (w : World) (hr0 : Kd.C k53 w A0 l0.length l0) (hc0 : l0.length ≤ c0) (h : api_Member_55.f l0 = some r) :
    Calls Tryz.prog 55 #[.slice A0 l0.length c0] w fun e w' => ∃ v0_ : Value, e = .returned (v0_) ∧ Kd.R k53 53 w' w.heap.size (fun _ => True) v0_ r ∧ Below w.heap.size w w' := by
  have hu53 := Tryz.underlying53
  have hnil := fun (W : World) (A : Option Addr) (n : Nat) => Lib.run_eql_slice_nil W 22 53 A n c0 0 0 Tryz.underlying22
  have HR := Aside0.mk hr0
  have HC := Aside0.mk hc0
  have HB := Aside0.mk (Below.refl w.heap.size w)
  unfold api_Member_55.f at h
  by_cases hl : l0.length * 24 ≤ 140737488355328
  · rw [if_pos hl] at h
    obtain rfl := Option.some.inj h
    have HL := Aside0.mk hl
    clear h hr0 hc0 hl
    cases A0 with
    | none =>
      obtain rfl := C_none_nil HR.out
      go_enter Tryz.func55, Tryz.ntmps55
      go_wp2
      go_ret
      exact ⟨_, rfl, Kd.R_nil _ _ _ _ _, HB.out⟩
    | some ad =>
      have HO := Aside0.mk (R_lit0 k53 53 w w.heap.size (Nat.le_refl _))
      have HB1 := Aside0.mk (below_alloc HB.out (.cells #[] 53))
      go_enter Tryz.func55, Tryz.ntmps55
      go_wp2_with ((with_reducible refine gate_builtin (b := .append) (xs := #[.tmp 5, .tmp 6]) rfl ?_); at_builtin; refine Kd.R_append_rows k53 (w0 := w) w.heap.size rfl (.tmp 5) (.tmp 6) 22 53 _ 24 rfl Tryz.underlying22 info53 rfl (by decide) (by omega) _ [] l0 _ _ _ (fun _ => True) (fun _ => False) rfl rfl HO.out (Kd.C_below HR.out HB1.out) (fun x cs h => by rw [k53_open h]; exact k53_mkM _ _ _ x) (fun _ h => h.elim) (fun _ _ => trivial) HB1.out (by simp) (by have := HL.out; simpa using this) ?_; intro v1 w1 h1 h2 h3 h4; have HV := Aside0.mk h1; have HB2 := Aside0.mk h2; clear h1 h2 h3 h4)
      go_ret
      exact ⟨_, rfl, by simpa using HV.out, HB2.out⟩
  · rw [if_neg hl] at h
    cases h

/-! ### view_step: function 31 -/
def view_step.f (a0_0 : Int) (l0_1 : List (S53)) (a1 : Int) (a2_0 : Int) (a2_1 : Int) (a2_2 : Bool) : Option (Int × (List (S53))) := (api_Member_55.f l0_1).bind fun t122 => (if 0 ≤ a1 then (if a1 < (t122.length : Int) then (some (wrap64 (a0_0 + 1), (t122.set (a1 : Int).toNat (⟨a2_0, a2_1, a2_2⟩ : S53)))) else (none)) else (none))
set_option maxHeartbeats 8000000 in
set_option maxRecDepth 100000 in
theorem view_step.calls (a0_0 : Int) (A0_1 : Option Addr) (c0_1 : Nat) (l0_1 : List (S53)) (a1 : Int) (a2_0 : Int) (a2_1 : Int) (a2_2 : Bool) (r1 : Int) (r2 : List (S53)) (w : World) (hr0_1 : Kd.C k53 w A0_1 l0_1.length l0_1) (hc0_1 : l0_1.length ≤ c0_1) (h : view_step.f a0_0 l0_1 a1 a2_0 a2_1 a2_2 = some (r1, r2)) :
  Calls Tryz.prog 31 #[.agg #[.int .i64 a0_0, .slice A0_1 l0_1.length c0_1], .int .i64 a1, .agg #[.int .i64 a2_0, .int .i64 a2_1, .bool a2_2]] w fun e w' => ∃ v1_ : Value, e = .returned (.agg #[.int .i64 r1, v1_]) ∧ Kd.R k53 53 w' w.heap.size (fun _ => True) v1_ r2 ∧ Below w.heap.size w w' := by
 have hu24 := Tryz.underlying24
 have hu53 := Tryz.underlying53
 have HR0_1 := Aside0.mk hr0_1
 have HC0_1 := Aside0.mk hc0_1
 clear hr0_1 hc0_1
 have HB := Aside0.mk (Below.refl w.heap.size w)
 have H : ((api_Member_55.f l0_1).bind fun t122 => (if 0 ≤ a1 then (if a1 < (t122.length : Int) then (some (wrap64 (a0_0 + 1), (t122.set (a1 : Int).toNat (⟨a2_0, a2_1, a2_2⟩ : S53)))) else (none)) else (none))) = some (r1, r2) := h
 clear h
 replace H := Option.bind_eq_some_iff.mp H
 obtain ⟨t122, A40, H⟩ := H
 replace H : (if 0 ≤ a1 then (if a1 < (t122.length : Int) then (some (wrap64 (a0_0 + 1), (t122.set (a1 : Int).toNat (⟨a2_0, a2_1, a2_2⟩ : S53)))) else (none)) else (none)) = some (r1, r2) := H
 have A4 := Aside0.mk A40
 clear A40
 by_cases c5 : 0 ≤ a1
 ·rw [if_pos c5] at H
  have c5b0 : decide (0 ≤ a1) = true := decide_eq_true c5
  clear c5
  by_cases c6 : a1 < (t122.length : Int)
  ·rw [if_pos c6] at H
   have c6b0 : decide (a1 < (t122.length : Int)) = true := decide_eq_true c6
   clear c6
   obtain ⟨y125, hy125⟩ : ∃ y_ : List (S53), y_ = (t122.set (a1 : Int).toNat (⟨a2_0, a2_1, a2_2⟩ : S53)) := ⟨_, rfl⟩
   replace H : (some (wrap64 (a0_0 + 1), y125)) = some (r1, r2) := by first | (rw [hy125]; with_reducible exact H)
   have Ny125 := Aside0.mk hy125
   clear hy125
   simp only [Option.some.injEq, Prod.mk.injEq] at H
   obtain ⟨rfl, rfl⟩ := H
   go_enter Tryz.func31, Tryz.ntmps31
   go_wp2_with (first | ((with_reducible refine gate_dst (N := 3) rfl ?_); refine box_event ?hg (N := 3) ?hd (cs := #[.int .i64 a0_0, .slice A0_1 l0_1.length c0_1]) (t := 24) ?hr ?_; (case hd => rfl); (case hg => rfl); (case hr => first | (go_simp; done) ); intro gb119 hg w8 hbox hb; have n0_ := Aside0.mk (below_step (by repeat (first | (with_reducible first | exact HB.out ) )) hb); have n1_ := Aside0.mk (hbox); have n2_ := Aside0.mk ((by rw [hg]; exact (below_size (by repeat (first | (with_reducible first | exact HB.out ) ))) : w.heap.size ≤ gb119)); have n3_ := Aside0.mk ((by rw [hg]; exact (below_size (by repeat (first | (with_reducible first | exact HB.out ) ))) : w.heap.size ≤ gb119)); clear HB; have HB := n0_; have BK119 := n1_; have GW119 := n2_; have GE119 := n3_; clear n0_ n1_ n2_ n3_; clear hb hbox hg) | ((with_reducible refine gate_dst (N := 5) rfl ?_); refine box_event ?hg (N := 5) ?hd (cs := #[.int .i64 a2_0, .int .i64 a2_1, .bool a2_2]) (t := 53) ?hr ?_; (case hd => rfl); (case hg => rfl); (case hr => first | (go_simp; done) ); intro gb120 hg w9 hbox hb; have n0_ := Aside0.mk (blk_below (g := gb119) (o := .cells #[.int .i64 a0_0, .slice A0_1 l0_1.length c0_1] 24 (0, 0)) (by (with_reducible repeat (fail)); exact BK119.out) hb); have n1_ := Aside0.mk (below_step (by repeat (first | (with_reducible first | exact HB.out ) )) hb); have n2_ := Aside0.mk (hbox); have n3_ := Aside0.mk ((by rw [hg]; exact (below_size (by repeat (first | (with_reducible first | exact HB.out ) ))) : w.heap.size ≤ gb120)); have n4_ := Aside0.mk ((by rw [hg]; exact (below_size (by repeat (first | (with_reducible first | exact HB.out ) ))) : w.heap.size ≤ gb120)); have n5_ := Aside0.mk ((by rw [hg]; exact Nat.ne_of_lt (blk_lt (g := gb119) (o := .cells #[.int .i64 a0_0, .slice A0_1 l0_1.length c0_1] 24 (0, 0)) (by (with_reducible repeat (fail)); exact BK119.out)) : gb119 ≠ gb120)); have n6_ := Aside0.mk ((by rw [hg]; exact Nat.ne_of_gt (blk_lt (g := gb119) (o := .cells #[.int .i64 a0_0, .slice A0_1 l0_1.length c0_1] 24 (0, 0)) (by (with_reducible repeat (fail)); exact BK119.out)) : gb120 ≠ gb119)); clear BK119; clear HB; have BK119 := n0_; have HB := n1_; have BK120 := n2_; have GW120 := n3_; have GE120 := n4_; have NB119_120 := n5_; have NB120_119 := n6_; clear n0_ n1_ n2_ n3_ n4_ n5_ n6_; clear hb hbox hg) | ((with_reducible refine gate_dst (N := 6) rfl ?_); refine box_event ?hg (N := 6) ?hd (cs := #[.int .i64 0, .slice none 0 0]) (t := 24) ?hr ?_; (case hd => rfl); (case hg => rfl); (case hr => first | (go_simp; done) ); intro gb121 hg w10 hbox hb; have n0_ := Aside0.mk (blk_below (g := gb119) (o := .cells #[.int .i64 a0_0, .slice A0_1 l0_1.length c0_1] 24 (0, 0)) (by (with_reducible repeat (fail)); exact BK119.out) hb); have n1_ := Aside0.mk (blk_below (g := gb120) (o := .cells #[.int .i64 a2_0, .int .i64 a2_1, .bool a2_2] 53 (0, 0)) (by (with_reducible repeat (fail)); exact BK120.out) hb); have n2_ := Aside0.mk (below_step (by repeat (first | (with_reducible first | exact HB.out ) )) hb); have n3_ := Aside0.mk (hbox); have n4_ := Aside0.mk ((by rw [hg]; exact (below_size (by repeat (first | (with_reducible first | exact HB.out ) ))) : w.heap.size ≤ gb121)); have n5_ := Aside0.mk ((by rw [hg]; exact (below_size (by repeat (first | (with_reducible first | exact HB.out ) ))) : w.heap.size ≤ gb121)); have n6_ := Aside0.mk ((by rw [hg]; exact Nat.ne_of_lt (blk_lt (g := gb119) (o := .cells #[.int .i64 a0_0, .slice A0_1 l0_1.length c0_1] 24 (0, 0)) (by (with_reducible repeat (fail)); exact BK119.out)) : gb119 ≠ gb121)); have n7_ := Aside0.mk ((by rw [hg]; exact Nat.ne_of_gt (blk_lt (g := gb119) (o := .cells #[.int .i64 a0_0, .slice A0_1 l0_1.length c0_1] 24 (0, 0)) (by (with_reducible repeat (fail)); exact BK119.out)) : gb121 ≠ gb119)); have n8_ := Aside0.mk ((by rw [hg]; exact Nat.ne_of_lt (blk_lt (g := gb120) (o := .cells #[.int .i64 a2_0, .int .i64 a2_1, .bool a2_2] 53 (0, 0)) (by (with_reducible repeat (fail)); exact BK120.out)) : gb120 ≠ gb121)); have n9_ := Aside0.mk ((by rw [hg]; exact Nat.ne_of_gt (blk_lt (g := gb120) (o := .cells #[.int .i64 a2_0, .int .i64 a2_1, .bool a2_2] 53 (0, 0)) (by (with_reducible repeat (fail)); exact BK120.out)) : gb121 ≠ gb120)); clear BK119; clear BK120; clear HB; have BK119 := n0_; have BK120 := n1_; have HB := n2_; have BK121 := n3_; have GW121 := n4_; have GE121 := n5_; have NB119_121 := n6_; have NB121_119 := n7_; have NB120_121 := n8_; have NB121_120 := n9_; clear n0_ n1_ n2_ n3_ n4_ n5_ n6_ n7_ n8_ n9_; clear hb hbox hg; have hnb11 := NB119_120.out; have hnc11 := NB120_119.out; have hnb12 := NB119_121.out; have hnc12 := NB121_119.out; have hcz13_0 : w10.cell? ⟨gb119, 0, none⟩ = some (.int .i64 a0_0) := (blk_cell BK119.out 0).trans rfl; have hcz13_1 : w10.cell? ⟨gb119, 1, none⟩ = some (.slice A0_1 l0_1.length c0_1) := (blk_cell BK119.out 1).trans rfl; have hfz13_0 := blk_frozen BK119.out 0; have hfz13_1 := blk_frozen BK119.out 1) | ((with_reducible refine gate_callee (f := 55) rfl ?_); refine goesL_ (some 10) rfl rfl Tryz.func55 (by kernel_rfl) rfl #[.slice A0_1 l0_1.length c0_1] rfl (by (try simp only [List.map_toArray, List.map_cons, List.map_nil]); first | rfl ) ?_; (with_reducible refine (api_Member_55.calls _ _ l0_1 t122 _ ?side1 ?side2 A4.out).mono ?_); (case side1 => repeat (first | exact (Kd.C_below HR0_1.out HB.out) )); (case side2 => exact HC0_1.out); rintro e w14 ⟨v123, rfl, ho0, hb⟩; refine ⟨_, rfl, ?_⟩; have n0_ := Aside0.mk (Kd.R_lower (Kd.R_newB ho0 (g := gb120) (o := .cells #[.int .i64 a2_0, .int .i64 a2_1, .bool a2_2] 53 (0, 0)) (by (with_reducible repeat (fail)); exact BK120.out)) (below_size (by repeat (first | (with_reducible first | exact HB.out ) )))); have n1_ := Aside0.mk (blk_below (g := gb119) (o := .cells #[.int .i64 a0_0, .slice A0_1 l0_1.length c0_1] 24 (0, 0)) (by (with_reducible repeat (fail)); exact BK119.out) hb); have n2_ := Aside0.mk (blk_below (g := gb120) (o := .cells #[.int .i64 a2_0, .int .i64 a2_1, .bool a2_2] 53 (0, 0)) (by (with_reducible repeat (fail)); exact BK120.out) hb); have n3_ := Aside0.mk (blk_below (g := gb121) (o := .cells #[.int .i64 0, .slice none 0 0] 24 (0, 0)) (by (with_reducible repeat (fail)); exact BK121.out) hb); have n4_ := Aside0.mk (below_step (by repeat (first | (with_reducible first | exact HB.out ) )) hb); clear BK119; clear BK120; clear BK121; clear HB; have HO124 := n0_; have BK119 := n1_; have BK120 := n2_; have BK121 := n3_; have HB := n4_; clear n0_ n1_ n2_ n3_ n4_; (try clear hb); (try clear hb2); (try clear hk); (try clear hi); (try clear ho0); have hnb15 := NB120_121.out; have hnc15 := NB121_120.out; have hcz16_0 : w14.cell? ⟨gb120, 0, none⟩ = some (.int .i64 a2_0) := (blk_cell BK120.out 0).trans rfl; have hcz16_1 : w14.cell? ⟨gb120, 1, none⟩ = some (.int .i64 a2_1) := (blk_cell BK120.out 1).trans rfl; have hcz16_2 : w14.cell? ⟨gb120, 2, none⟩ = some (.bool a2_2) := (blk_cell BK120.out 2).trans rfl; have hfz16_0 := blk_frozen BK120.out 0; have hfz16_1 := blk_frozen BK120.out 1; have hfz16_2 := blk_frozen BK120.out 2; have p7 : 0 ≤ (a1 : Int) := of_decide_eq_true (by first | (with_reducible assumption) ); have q7 : (a1 : Int) < ((t122.length : Int) : Int) := of_decide_eq_true (by first | (with_reducible assumption) ); obtain ⟨go7, co7, eo7, gb7, gl7, cl7, HG7⟩ := Kd.R_form HO124.out (by omega); (first | cases eo7 ); have GB7 := Aside0.mk gb7; have GG7 := Aside0.mk HG7; clear gb7 gl7 HG7; obtain ⟨ce7, hcl7, hM7, hcc7, hfr7⟩ := Kd.R_elem HO124.out z53 (a1 : Int) p7 q7; obtain rfl := k53_openM hM7; have hx7_0 : w14.cell? ⟨go7, (a1 : Int).toNat * 3, none⟩ = some (.int .i64 ((rd_T53 t122 a1).f0)) := hcc7 0 _ rfl; have hx7_1 : w14.cell? ⟨go7, (a1 : Int).toNat * 3 + 1, none⟩ = some (.int .i64 ((rd_T53 t122 a1).f1)) := hcc7 1 _ rfl; have hx7_2 : w14.cell? ⟨go7, (a1 : Int).toNat * 3 + 2, none⟩ = some (.bool ((rd_T53 t122 a1).f2)) := hcc7 2 _ rfl; have hf7_0 : w14.frozen? ⟨go7, (a1 : Int).toNat * 3, none⟩ = false := hfr7 0; have hf7_1 : w14.frozen? ⟨go7, (a1 : Int).toNat * 3 + 1, none⟩ = false := hfr7 1; have hf7_2 : w14.frozen? ⟨go7, (a1 : Int).toNat * 3 + 2, none⟩ = false := hfr7 2; clear hcl7 hcc7 hfr7 hM7; replace p7 := eq_true p7; replace q7 := eq_true q7; have n_ := Aside0.mk (Kd.R_mono (ok' := (fun k_ => k_ ≠ gb120)) HO124.out (fun k_ hk => hk.2)); clear HO124; have HO124 := n_; clear n_; have HX17 := Aside0.mk (show Kd.R k53 53 w14 w.heap.size (fun k_ => k_ ≠ gb120) (.slice (some ⟨go7, 0, none⟩) t122.length co7) t122 from (by (with_reducible repeat (fail)); exact HO124.out)); obtain ⟨ce17, hcl17, hM17, hcc17, hfr17⟩ := Kd.R_elem HX17.out z53 (a1 : Int) (of_decide_eq_true (by first | (with_reducible assumption) )) (by have h_ : (a1 : Int) < ((t122.length : Int) : Int) := of_decide_eq_true (by first | (with_reducible assumption) ); first | exact h_ ); obtain rfl := k53_openM hM17; have HP17 := Kd.R_seg HX17.out (a1 : Int) (of_decide_eq_true (by first | (with_reducible assumption) )) (by have h_ : (a1 : Int) < ((t122.length : Int) : Int) := of_decide_eq_true (by first | (with_reducible assumption) ); first | exact h_ ) (seg := [.int .i64 a2_0, .int .i64 a2_1, .bool a2_2]) (j := 0) hcl17 hcc17 (show 3 ≤ 3 from by decide) (x' := (⟨a2_0, a2_1, a2_2⟩ : S53)) (k53_mkM _ _ _ (⟨a2_0, a2_1, a2_2⟩ : S53) ) (fun _ hk => hk); have hx17_0 := hcc17 0 _ rfl; (try simp only [show (k53).sz = 3 from rfl, Nat.mul_one, Nat.add_zero] at hx17_0); have hf17_0 := hfr17 0; (try simp only [show (k53).sz = 3 from rfl, Nat.mul_one, Nat.add_zero] at hf17_0); have hx17_1 := hcc17 1 _ rfl; (try simp only [show (k53).sz = 3 from rfl, Nat.mul_one, Nat.add_zero] at hx17_1); have hf17_1 := hfr17 1; (try simp only [show (k53).sz = 3 from rfl, Nat.mul_one, Nat.add_zero] at hf17_1); have hx17_2 := hcc17 2 _ rfl; (try simp only [show (k53).sz = 3 from rfl, Nat.mul_one, Nat.add_zero] at hx17_2); have hf17_2 := hfr17 2; (try simp only [show (k53).sz = 3 from rfl, Nat.mul_one, Nat.add_zero] at hf17_2); clear hcl17 hcc17 hfr17 hM17) | ((with_reducible refine gate_store (t := 53) (p := 14) rfl ?_); refine store_event (t := 53) (p := 14) (v := ?vo_w18) (w1 := (((w14.setCell ⟨go7, (a1 : Int).toNat * 3, none⟩ (.int .i64 a2_0)).setCell ⟨go7, (a1 : Int).toNat * 3 + 1, none⟩ (.int .i64 a2_1)).setCell ⟨go7, (a1 : Int).toNat * 3 + 2, none⟩ (.bool a2_2))) ?hg ?ho ?hn ?hr ?_; (case ho => rfl); (case hg => rfl); (case hn => rfl); (case hr => first | (go_simp; done) ); intro w18 hw; have hg : w14.grownBy w18 (some go7) := (by rw [hw]; exact HP17.2); have hp_ : Kd.R k53 53 w18 w.heap.size (fun k_ => k_ ≠ gb120) (.slice (some ⟨go7, 0, none⟩) t122.length co7) y125 := (by rw [hw, Ny125.out]; exact HP17.1); clear HP17; have n0_ := Aside0.mk (blk_grown (g := gb119) (o := .cells #[.int .i64 a0_0, .slice A0_1 l0_1.length c0_1] 24 (0, 0)) (by (with_reducible repeat (fail)); exact BK119.out) hg (Kd.R_ne HO124.out BK119.out (by decide))); have n1_ := Aside0.mk (blk_grown (g := gb120) (o := .cells #[.int .i64 a2_0, .int .i64 a2_1, .bool a2_2] 53 (0, 0)) (by (with_reducible repeat (fail)); exact BK120.out) hg (Kd.R_away HO124.out (fun _ hk => hk))); have n2_ := Aside0.mk (blk_grown (g := gb121) (o := .cells #[.int .i64 0, .slice none 0 0] 24 (0, 0)) (by (with_reducible repeat (fail)); exact BK121.out) hg (Kd.R_ne HO124.out BK121.out (by decide))); have n3_ := Aside0.mk (hp_); have n4_ := Aside0.mk ((by rw [hw]; exact below_set (below_set (below_set (HB.out) GB7.out) GB7.out) GB7.out : Below w.heap.size w w18)); clear BK119; clear BK120; clear BK121; clear HO124; clear HB; have BK119 := n0_; have BK120 := n1_; have BK121 := n2_; have HO124 := n3_; have HB := n4_; clear n0_ n1_ n2_ n3_ n4_; clear hg hw hp_; have hcz19_0 : w18.cell? ⟨gb119, 0, none⟩ = some (.int .i64 a0_0) := (blk_cell BK119.out 0).trans rfl; have hcz19_1 : w18.cell? ⟨gb119, 1, none⟩ = some (.slice A0_1 l0_1.length c0_1) := (blk_cell BK119.out 1).trans rfl; have hfz19_0 := blk_frozen BK119.out 0; have hfz19_1 := blk_frozen BK119.out 1; have hcz20_0 : w18.cell? ⟨gb121, 0, none⟩ = some (.int .i64 0) := (blk_cell BK121.out 0).trans rfl; have hcz20_1 : w18.cell? ⟨gb121, 1, none⟩ = some (.slice none 0 0) := (blk_cell BK121.out 1).trans rfl; have hfz20_0 := blk_frozen BK121.out 0; have hfz20_1 := blk_frozen BK121.out 1))
   refine bodyPost_ret (results_cell_row rfl _ _ gb121 24 #[.int .i64 (wrap64 (a0_0 + 1)), .slice (some ⟨go7, 0, none⟩) t122.length co7] (0, 0) _ rfl (by (with_reducible repeat (fail)); refine blk_put (cs := #[.int .i64 (wrap64 (a0_0 + 1)), .slice none 0 0]) ?_ 1 _ rfl; (with_reducible repeat (fail)); refine blk_put (cs := #[.int .i64 0, .slice none 0 0]) ?_ 0 _ rfl; (with_reducible repeat (fail)); exact BK121.out) Tryz.underlying24 rfl (by kernel_rfl)) rfl ?_
   exact ⟨_, by first | rfl , by (with_reducible repeat (fail)); exact Kd.R_mono (Kd.R_far (p := ⟨gb121, 1, none⟩) (Kd.R_far (p := ⟨gb121, 0, none⟩) (Kd.R_types HO124.out BK121.out (by decide)) (fun _ hk => hk.2) (.int .i64 (wrap64 (a0_0 + 1)))) (fun _ hk => hk.2) (.slice (some ⟨go7, 0, none⟩) t122.length co7)) (fun _ hk => trivial), by repeat (first | (with_reducible first | exact HB.out | refine below_set ?_ GE121.out) )⟩
  ·rw [if_neg c6] at H
   exact absurd H (by simp)
 ·rw [if_neg c5] at H
  exact absurd H (by simp)

/-! ### view_Down: function 14 -/
def view_Down.f (k : Nat) (a0_0 : Int) (l0_1 : List (S53)) (a1 : Int) : Option (Int × (List (S53)) × Int) := (view_find.f a0_0 l0_1 a1).bind fun t128 => ((view_Check.f k a0_0 l0_1).bind fun t129 => (if t129 = true then (if t128 < 0 then none else (if 0 ≤ t128 then (if t128 < (l0_1.length : Int) then (if ((rd_T53 l0_1 t128).f2 = true) then (if a0_0 ≥ 1099511627775 then none else ((view_step.f a0_0 l0_1 t128 a1 ((rd_T53 l0_1 t128).f1) false).bind fun bt132 => (some (bt132.1, bt132.2, 0)))) else none) else (none)) else (none))) else none))
theorem view_Down.mono : ∀ a0 a1 a2 k, LeO (view_Down.f k a0 a1 a2) (view_Down.f (k + 1) a0 a1 a2) := by
 intro a0 a1 a2 k
 unfold view_Down.f
 repeat' first
   | (with_reducible exact view_Check.mono _ _ _)
   | (with_reducible exact LeO.refl _)
   | (with_reducible refine LeO.bind ?_ (fun _ => ?_))

def view_Down.T10 : Bool × List (List Nat × List Nat) := (true, [([], []), ([], []), ([], []), ([], []), ([3], [3]), ([], []), ([4, 5], [4, 5]), ([6], [6]), ([7], [7]), ([2, 8], [2, 8]), ([0, 1, 9], [0, 1, 9]), ([10, 10, 0, 1, 2, 3, 4, 5, 6, 7, 8, 9, 10], [10]), ([11, 0, 1, 2, 3, 4, 5, 6, 7, 8, 9, 10, 11], [])])
def view_Down.B10 : List Nat := [0, 0, 0, 0, 8, 0, 56, 120, 248, 508, 1023, 2047, 4095]
theorem view_Down.tab10 : rtab .any (opsOf Tryz.f14 10) = view_Down.T10 := by kernel_rfl
theorem view_Down.bits10 : waitsOk view_Down.T10.2 view_Down.B10 = true := by kernel_rfl
set_option maxHeartbeats 8000000 in
set_option maxRecDepth 100000 in
theorem view_Down.calls (k : Nat) (a0_0 : Int) (A0_1 : Option Addr) (c0_1 : Nat) (l0_1 : List (S53)) (a1 : Int) (r1 : Int) (r2 : List (S53)) (r3 : Int) (w : World) (hr0_1 : Kd.C k53 w A0_1 l0_1.length l0_1) (hc0_1 : l0_1.length ≤ c0_1) (h : view_Down.f k a0_0 l0_1 a1 = some (r1, r2, r3)) :
  Calls Tryz.prog 14 #[.agg #[.int .i64 a0_0, .slice A0_1 l0_1.length c0_1], .int .i64 a1] w fun e w' => ∃ v1_ : Value, e = .returned (.tuple #[.agg #[.int .i64 r1, v1_], .int .i64 r3]) ∧ Kd.R k53 53 w' w.heap.size (fun _ => True) v1_ r2 ∧ Below w.heap.size w w' := by
 have hu24 := Tryz.underlying24
 have hu53 := Tryz.underlying53
 have HR0_1 := Aside0.mk hr0_1
 have HC0_1 := Aside0.mk hc0_1
 clear hr0_1 hc0_1
 have HB := Aside0.mk (Below.refl w.heap.size w)
 have H : ((view_find.f a0_0 l0_1 a1).bind fun t128 => ((view_Check.f k a0_0 l0_1).bind fun t129 => (if t129 = true then (if t128 < 0 then none else (if 0 ≤ t128 then (if t128 < (l0_1.length : Int) then (if ((rd_T53 l0_1 t128).f2 = true) then (if a0_0 ≥ 1099511627775 then none else ((view_step.f a0_0 l0_1 t128 a1 ((rd_T53 l0_1 t128).f1) false).bind fun bt132 => (some (bt132.1, bt132.2, 0)))) else none) else (none)) else (none))) else none))) = some (r1, r2, r3) := h
 clear h
 replace H := Option.bind_eq_some_iff.mp H
 obtain ⟨t128, A30, H⟩ := H
 replace H : ((view_Check.f k a0_0 l0_1).bind fun t129 => (if t129 = true then (if t128 < 0 then none else (if 0 ≤ t128 then (if t128 < (l0_1.length : Int) then (if ((rd_T53 l0_1 t128).f2 = true) then (if a0_0 ≥ 1099511627775 then none else ((view_step.f a0_0 l0_1 t128 a1 ((rd_T53 l0_1 t128).f1) false).bind fun bt132 => (some (bt132.1, bt132.2, 0)))) else none) else (none)) else (none))) else none)) = some (r1, r2, r3) := H
 have A3 := Aside0.mk A30
 clear A30
 replace H := Option.bind_eq_some_iff.mp H
 obtain ⟨t129, A40, H⟩ := H
 replace H : (if t129 = true then (if t128 < 0 then none else (if 0 ≤ t128 then (if t128 < (l0_1.length : Int) then (if ((rd_T53 l0_1 t128).f2 = true) then (if a0_0 ≥ 1099511627775 then none else ((view_step.f a0_0 l0_1 t128 a1 ((rd_T53 l0_1 t128).f1) false).bind fun bt132 => (some (bt132.1, bt132.2, 0)))) else none) else (none)) else (none))) else none) = some (r1, r2, r3) := H
 have A4 := Aside0.mk A40
 clear A40
 by_cases c5 : t129 = true
 ·subst c5
  have H1 : (if t128 < 0 then none else (if 0 ≤ t128 then (if t128 < (l0_1.length : Int) then (if ((rd_T53 l0_1 t128).f2 = true) then (if a0_0 ≥ 1099511627775 then none else ((view_step.f a0_0 l0_1 t128 a1 ((rd_T53 l0_1 t128).f1) false).bind fun bt132 => (some (bt132.1, bt132.2, 0)))) else none) else (none)) else (none))) = some (r1, r2, r3) := by rw [if_pos rfl] at H; exact H
  clear H
  have H := H1
  clear H1
  by_cases c6 : t128 < 0
  ·rw [if_pos c6] at H
   cases H
  ·rw [if_neg c6] at H
   have c6b0 : decide (t128 < 0) = false := decide_eq_false c6
   clear c6
   by_cases c15 : 0 ≤ t128
   ·rw [if_pos c15] at H
    have c15b0 : decide (0 ≤ t128) = true := decide_eq_true c15
    clear c15
    by_cases c16 : t128 < (l0_1.length : Int)
    ·rw [if_pos c16] at H
     have c16b0 : decide (t128 < (l0_1.length : Int)) = true := decide_eq_true c16
     clear c16
     obtain ⟨bq17, hbq17⟩ : ∃ b_ : Bool, b_ = ((rd_T53 l0_1 t128).f2) := ⟨_, rfl⟩
     replace H : (if (bq17 = true) then (if a0_0 ≥ 1099511627775 then none else ((view_step.f a0_0 l0_1 t128 a1 ((rd_T53 l0_1 t128).f1) false).bind fun bt132 => (some (bt132.1, bt132.2, 0)))) else none) = some (r1, r2, r3) := by rw [← hbq17] at H; exact H
     have Nbq17 := Aside0.mk hbq17
     clear hbq17
     by_cases c18 : (bq17 = true)
     ·subst c18
      have H1 : (if a0_0 ≥ 1099511627775 then none else ((view_step.f a0_0 l0_1 t128 a1 ((rd_T53 l0_1 t128).f1) false).bind fun bt132 => (some (bt132.1, bt132.2, 0)))) = some (r1, r2, r3) := by rw [if_pos rfl] at H; exact H
      clear H
      have H := H1
      clear H1
      by_cases c19 : a0_0 ≥ 1099511627775
      ·rw [if_pos c19] at H
       cases H
      ·rw [if_neg c19] at H
       have c19b0 : decide (1099511627775 ≤ a0_0) = false := decide_eq_false c19
       clear c19
       replace H := Option.bind_eq_some_iff.mp H
       obtain ⟨⟨t132, t133⟩, A290, H⟩ := H
       replace H : (some (t132, t133, 0)) = some (r1, r2, r3) := H
       have A29 := Aside0.mk A290
       clear A290
       simp only [Option.some.injEq, Prod.mk.injEq] at H
       obtain ⟨rfl, rfl, rfl⟩ := H
       go_enter Tryz.func14, Tryz.ntmps14
       try go_wp2_with (first | ((with_reducible refine gate_dst (N := 2) rfl ?_); refine box_event ?hg (N := 2) ?hd (cs := #[.int .i64 a0_0, .slice A0_1 l0_1.length c0_1]) (t := 24) ?hr ?_; (case hd => rfl); (case hg => rfl); (case hr => first | (go_simp; done) ); intro gb126 hg w30 hbox hb; have n0_ := Aside0.mk (below_step (by repeat (first | (with_reducible first | exact HB.out ) )) hb); have n1_ := Aside0.mk (hbox); have n2_ := Aside0.mk ((by rw [hg]; exact (below_size (by repeat (first | (with_reducible first | exact HB.out ) ))) : w.heap.size ≤ gb126)); have n3_ := Aside0.mk ((by rw [hg]; exact (below_size (by repeat (first | (with_reducible first | exact HB.out ) ))) : w.heap.size ≤ gb126)); clear HB; have HB := n0_; have BK126 := n1_; have GW126 := n2_; have GE126 := n3_; clear n0_ n1_ n2_ n3_; clear hb hbox hg) | ((with_reducible refine gate_dst (N := 4) rfl ?_); refine box_event ?hg (N := 4) ?hd (cs := #[.int .i64 0, .slice none 0 0]) (t := 24) ?hr ?_; (case hd => rfl); (case hg => rfl); (case hr => first | (go_simp; done) ); intro gb127 hg w31 hbox hb; have n0_ := Aside0.mk (blk_below (g := gb126) (o := .cells #[.int .i64 a0_0, .slice A0_1 l0_1.length c0_1] 24 (0, 0)) (by (with_reducible repeat (fail)); exact BK126.out) hb); have n1_ := Aside0.mk (below_step (by repeat (first | (with_reducible first | exact HB.out ) )) hb); have n2_ := Aside0.mk (hbox); have n3_ := Aside0.mk ((by rw [hg]; exact (below_size (by repeat (first | (with_reducible first | exact HB.out ) ))) : w.heap.size ≤ gb127)); have n4_ := Aside0.mk ((by rw [hg]; exact (below_size (by repeat (first | (with_reducible first | exact HB.out ) ))) : w.heap.size ≤ gb127)); have n5_ := Aside0.mk ((by rw [hg]; exact Nat.ne_of_lt (blk_lt (g := gb126) (o := .cells #[.int .i64 a0_0, .slice A0_1 l0_1.length c0_1] 24 (0, 0)) (by (with_reducible repeat (fail)); exact BK126.out)) : gb126 ≠ gb127)); have n6_ := Aside0.mk ((by rw [hg]; exact Nat.ne_of_gt (blk_lt (g := gb126) (o := .cells #[.int .i64 a0_0, .slice A0_1 l0_1.length c0_1] 24 (0, 0)) (by (with_reducible repeat (fail)); exact BK126.out)) : gb127 ≠ gb126)); clear BK126; clear HB; have BK126 := n0_; have HB := n1_; have BK127 := n2_; have GW127 := n3_; have GE127 := n4_; have NB126_127 := n5_; have NB127_126 := n6_; clear n0_ n1_ n2_ n3_ n4_ n5_ n6_; clear hb hbox hg; have hnb32 := NB126_127.out; have hnc32 := NB127_126.out; have hcz33_0 : w31.cell? ⟨gb126, 0, none⟩ = some (.int .i64 a0_0) := (blk_cell BK126.out 0).trans rfl; have hcz33_1 : w31.cell? ⟨gb126, 1, none⟩ = some (.slice A0_1 l0_1.length c0_1) := (blk_cell BK126.out 1).trans rfl; have hfz33_0 := blk_frozen BK126.out 0; have hfz33_1 := blk_frozen BK126.out 1) | ((with_reducible refine gate_callee (f := 30) rfl ?_); refine goesL_ (some 9) rfl rfl Tryz.func30 (by kernel_rfl) rfl #[.agg #[.int .i64 a0_0, .slice A0_1 l0_1.length c0_1], .int .i64 a1] rfl (by (try simp only [List.map_toArray, List.map_cons, List.map_nil]); first | rfl ) ?_; (with_reducible refine (view_find.calls a0_0 _ _ l0_1 a1 t128 _ ?side1 ?side2 A3.out).mono ?_); (case side1 => repeat (first | exact (Kd.C_below HR0_1.out HB.out) )); (case side2 => exact HC0_1.out); rintro e w34 ⟨rfl, hb⟩; refine ⟨_, rfl, ?_⟩; have n0_ := Aside0.mk (blk_below (g := gb126) (o := .cells #[.int .i64 a0_0, .slice A0_1 l0_1.length c0_1] 24 (0, 0)) (by (with_reducible repeat (fail)); exact BK126.out) hb); have n1_ := Aside0.mk (blk_below (g := gb127) (o := .cells #[.int .i64 0, .slice none 0 0] 24 (0, 0)) (by (with_reducible repeat (fail)); exact BK127.out) hb); have n2_ := Aside0.mk (below_step (by repeat (first | (with_reducible first | exact HB.out ) )) hb); clear BK126; clear BK127; clear HB; have BK126 := n0_; have BK127 := n1_; have HB := n2_; clear n0_ n1_ n2_; (try clear hb); (try clear hb2); (try clear hk); (try clear hi); have hcz35_0 : w34.cell? ⟨gb126, 0, none⟩ = some (.int .i64 a0_0) := (blk_cell BK126.out 0).trans rfl; have hcz35_1 : w34.cell? ⟨gb126, 1, none⟩ = some (.slice A0_1 l0_1.length c0_1) := (blk_cell BK126.out 1).trans rfl; have hfz35_0 := blk_frozen BK126.out 0; have hfz35_1 := blk_frozen BK126.out 1) | ((with_reducible refine gate_callee (f := 25) rfl ?_); refine goesL_ (some 12) rfl rfl Tryz.func25 (by kernel_rfl) rfl #[.agg #[.int .i64 a0_0, .slice A0_1 l0_1.length c0_1]] rfl (by (try simp only [List.map_toArray, List.map_cons, List.map_nil]); first | rfl ) ?_; (with_reducible refine (view_Check.calls k a0_0 _ _ l0_1 true _ ?side1 ?side2 A4.out).mono ?_); (case side1 => repeat (first | exact (Kd.C_below HR0_1.out HB.out) )); (case side2 => exact HC0_1.out); rintro e w36 ⟨rfl, hb⟩; refine ⟨_, rfl, ?_⟩; have n0_ := Aside0.mk (blk_below (g := gb126) (o := .cells #[.int .i64 a0_0, .slice A0_1 l0_1.length c0_1] 24 (0, 0)) (by (with_reducible repeat (fail)); exact BK126.out) hb); have n1_ := Aside0.mk (blk_below (g := gb127) (o := .cells #[.int .i64 0, .slice none 0 0] 24 (0, 0)) (by (with_reducible repeat (fail)); exact BK127.out) hb); have n2_ := Aside0.mk (below_step (by repeat (first | (with_reducible first | exact HB.out ) )) hb); clear BK126; clear BK127; clear HB; have BK126 := n0_; have BK127 := n1_; have HB := n2_; clear n0_ n1_ n2_; (try clear hb); (try clear hb2); (try clear hk); (try clear hi); have hcz37_0 : w36.cell? ⟨gb126, 0, none⟩ = some (.int .i64 a0_0) := (blk_cell BK126.out 0).trans rfl; have hcz37_1 : w36.cell? ⟨gb126, 1, none⟩ = some (.slice A0_1 l0_1.length c0_1) := (blk_cell BK126.out 1).trans rfl; have hfz37_0 := blk_frozen BK126.out 0; have hfz37_1 := blk_frozen BK126.out 1; have p130 : 0 ≤ (t128 : Int) := of_decide_eq_true (by first | (with_reducible assumption) ); have q130 : t128 < (l0_1.length : Int) := of_decide_eq_true (by first | (with_reducible assumption) ); obtain ⟨ad130, e130, hx130_0, hx130_1, hx130_2⟩ := at_T53 HR0_1.out t128 p130 q130; (try rw [← Nbq17.out] at hx130_2); cases e130; replace hx130_0 := (HB.out.cell (World.block_lt_of_cell? w _ hx130_0)).trans hx130_0; replace hx130_1 := (HB.out.cell (World.block_lt_of_cell? w _ hx130_1)).trans hx130_1; replace hx130_2 := (HB.out.cell (World.block_lt_of_cell? w _ hx130_2)).trans hx130_2; replace p130 := eq_true p130; replace q130 := eq_true q130))
       have n0_ := Aside0.mk (blk_drew BK126.out)
       have n1_ := Aside0.mk (blk_drew BK127.out)
       have n2_ := Aside0.mk (below_drew1 HB.out)
       clear BK126
       clear BK127
       clear HB
       have BK126 := n0_
       have BK127 := n1_
       have HB := n2_
       clear n0_ n1_ n2_
       have p131 : 0 ≤ (t128 : Int) := of_decide_eq_true (by first | (with_reducible assumption) )
       have q131 : t128 < (l0_1.length : Int) := of_decide_eq_true (by first | (with_reducible assumption) )
       obtain ⟨ad131, e131, hx131_0, hx131_1, hx131_2⟩ := at_T53 HR0_1.out t128 p131 q131
       have hw131_2 := hx131_2
       have hw131_1 := hx131_1
       have hw131_0 := hx131_0
       (try rw [← Nbq17.out] at hx131_2)
       (try rw [← Nbq17.out] at hw131_2)
       obtain rfl : ad130 = ad131 := (by injection e131)
       replace hx131_0 := (HB.out.cell (World.block_lt_of_cell? w _ hx131_0)).trans hx131_0
       replace hx131_1 := (HB.out.cell (World.block_lt_of_cell? w _ hx131_1)).trans hx131_1
       replace hx131_2 := (HB.out.cell (World.block_lt_of_cell? w _ hx131_2)).trans hx131_2
       replace p131 := eq_true p131
       replace q131 := eq_true q131
       refine start_ (n := 13) (S := fun w' => w'.cell? ⟨gb126, 0, none⟩ = some (.int .i64 a0_0) ∧ w'.cell? ⟨gb126, 1, none⟩ = some (.slice (some ad130) l0_1.length c0_1) ∧ w'.cell? (ad130.add ((t128).toNat * 3)) = some (.int .i64 ((rd_T53 l0_1 t128).f0)) ∧ w'.cell? ⟨(ad130.add ((t128).toNat * 3)).block, (ad130.add ((t128).toNat * 3)).off + 1, none⟩ = some (.int .i64 ((rd_T53 l0_1 t128).f1)) ∧ w'.cell? ⟨(ad130.add ((t128).toNat * 3)).block, (ad130.add ((t128).toNat * 3)).off + 2, none⟩ = some (.bool (true))) (ds := []) #[false, false, false, false, false, false, false, false, false, false, false, false, false] (by kernel_rfl) rfl rfl ⟨(blk_cell BK126.out 0).trans rfl, (blk_cell BK126.out 1).trans rfl, ((HB.out.cell (World.block_lt_of_cell? w _ hw131_0)).trans hw131_0), ((HB.out.cell (World.block_lt_of_cell? w _ hw131_1)).trans hw131_1), ((HB.out.cell (World.block_lt_of_cell? w _ hw131_2)).trans hw131_2)⟩ (fun hHeld => ?_); refine with_tabW view_Down.tab10 view_Down.bits10 (fun HT_ HW_ => ?_)
       generalize w36.drew = w38 at BK126 BK127 HB hx131_0 hx131_1 hx131_2 hHeld ⊢
       refine pure_ (i := 1) (N := some 34) (v := ?_) (a' := ?_) #[false, true, false, false, false, false, false, false, false, false, false, false, false] rfl rfl (any_of HT_.out (by kernel_rfl)) (fun _ _ _ h => h) (Or.inl ⟨by rfl, ?_⟩) ?_ ?_
       rotate_left
       ·intro w'
        go_simp
        with_reducible rfl
       rotate_left
       ·simp only [Act.put, List.setIfInBounds_toArray, List.set_cons_zero, List.set_cons_succ, i64_w, i32_w]
        rfl
       refine pure_ (i := 2) (N := some 35) (v := ?_) (a' := ?_) #[false, true, true, false, false, false, false, false, false, false, false, false, false] rfl rfl (any_of HT_.out (by kernel_rfl)) (fun _ _ _ h => h) (Or.inl ⟨by rfl, ?_⟩) ?_ ?_
       rotate_left
       ·intro w'
        go_simp
        with_reducible rfl
       rotate_left
       ·simp only [Act.put, List.setIfInBounds_toArray, List.set_cons_zero, List.set_cons_succ, i64_w, i32_w]
        rfl
       refine pure_ (i := 3) (N := some 36) (v := ?_) (a' := ?_) #[false, true, true, true, false, false, false, false, false, false, false, false, false] rfl rfl (any_of HT_.out (by kernel_rfl)) (fun _ _ _ h => h) (Or.inl ⟨by rfl, ?_⟩) ?_ ?_
       rotate_left
       ·intro w'
        go_simp
        with_reducible rfl
       rotate_left
       ·simp only [Act.put, List.setIfInBounds_toArray, List.set_cons_zero, List.set_cons_succ, i64_w, i32_w]
        rfl
       refine pure_ (i := 5) (N := some 38) (v := ?_) (a' := ?_) #[false, true, true, true, false, true, false, false, false, false, false, false, false] rfl rfl (any_of HT_.out (by kernel_rfl)) (fun _ _ _ h => h) (Or.inl ⟨by rfl, ?_⟩) ?_ ?_
       rotate_left
       ·intro w'
        go_simp
        with_reducible rfl
       rotate_left
       ·simp only [Act.put, List.setIfInBounds_toArray, List.set_cons_zero, List.set_cons_succ, i64_w, i32_w]
        rfl
       refine take_ (i := 0) (N := some 33) (v := ?_) (a' := ?_) #[true, true, true, true, false, true, false, false, false, false, false, false, false] rfl rfl (take_ofW HT_.out HW_.out (by kernel_rfl)) (fun _ _ _ h => h) (Or.inl ⟨by rfl, ?_⟩) hHeld ?_ ?_
       rotate_left
       ·rintro w' ⟨s0, s1, s2, s3, s4⟩
        go_simp
        with_reducible rfl
       rotate_left
       ·simp only [Act.put, List.setIfInBounds_toArray, List.set_cons_zero, List.set_cons_succ, i64_w, i32_w]
        rfl
       refine take_ (i := 4) (N := some 37) (v := ?_) (a' := ?_) #[true, true, true, true, true, true, false, false, false, false, false, false, false] rfl rfl (take_ofW HT_.out HW_.out (by kernel_rfl)) (fun _ _ _ h => h) (Or.inl ⟨by rfl, ?_⟩) hHeld ?_ ?_
       rotate_left
       ·rintro w' ⟨s0, s1, s2, s3, s4⟩
        go_simp
        with_reducible rfl
       rotate_left
       ·simp only [Act.put, List.setIfInBounds_toArray, List.set_cons_zero, List.set_cons_succ, i64_w, i32_w]
        rfl
       refine pure_ (i := 6) (N := some 39) (v := ?_) (a' := ?_) #[true, true, true, true, true, true, true, false, false, false, false, false, false] rfl rfl (any_of HT_.out (by kernel_rfl)) (fun _ _ _ h => h) (Or.inl ⟨by rfl, ?_⟩) ?_ ?_
       rotate_left
       ·intro w'
        go_simp
        with_reducible rfl
       rotate_left
       ·simp only [Act.put, List.setIfInBounds_toArray, List.set_cons_zero, List.set_cons_succ, i64_w, i32_w]
        rfl
       refine pure_ (i := 7) (N := some 40) (v := ?_) (a' := ?_) #[true, true, true, true, true, true, true, true, false, false, false, false, false] rfl rfl (any_of HT_.out (by kernel_rfl)) (fun _ _ _ h => h) (Or.inl ⟨by rfl, ?_⟩) ?_ ?_
       rotate_left
       ·intro w'
        go_simp
        with_reducible rfl
       rotate_left
       ·simp only [Act.put, List.setIfInBounds_toArray, List.set_cons_zero, List.set_cons_succ, i64_w, i32_w]
        rfl
       refine take_ (i := 8) (N := some 41) (v := ?_) (a' := ?_) #[true, true, true, true, true, true, true, true, true, false, false, false, false] rfl rfl (take_ofW HT_.out HW_.out (by kernel_rfl)) (fun _ _ _ h => h) (Or.inl ⟨by rfl, ?_⟩) hHeld ?_ ?_
       rotate_left
       ·rintro w' ⟨s0, s1, s2, s3, s4⟩
        go_simp
        with_reducible rfl
       rotate_left
       ·simp only [Act.put, List.setIfInBounds_toArray, List.set_cons_zero, List.set_cons_succ, i64_w, i32_w]
        rfl
       refine pure_ (i := 9) (N := some 42) (v := ?_) (a' := ?_) #[true, true, true, true, true, true, true, true, true, true, false, false, false] rfl rfl (any_of HT_.out (by kernel_rfl)) (fun _ _ _ h => h) (Or.inl ⟨by rfl, ?_⟩) ?_ ?_
       rotate_left
       ·intro w'
        go_simp
        with_reducible rfl
       rotate_left
       ·simp only [Act.put, List.setIfInBounds_toArray, List.set_cons_zero, List.set_cons_succ, i64_w, i32_w]
        rfl
       refine one_ (i := 10) (N := some 43) #[true, true, true, true, true, true, true, true, true, true, true, false, false] rfl rfl (one_of HT_.out (by kernel_rfl)) (by decide) (fun K hK => ?_)
       refine goes_ Tryz.func31 (by kernel_rfl) rfl #[.agg #[.int .i64 a0_0, .slice (some ad130) l0_1.length c0_1], .int .i64 t128, .agg #[.int .i64 a1, .int .i64 ((rd_T53 l0_1 t128).f1), .bool false]] (by rfl) rfl rfl (by (try simp only [List.map_toArray, List.map_cons, List.map_nil]); first | rfl ) ?_
       with_reducible refine (view_step.calls a0_0 _ _ l0_1 t128 a1 ((rd_T53 l0_1 t128).f1) false t132 t133 _ ?side1 ?side2 A29.out).mono ?_
       (case side1 => repeat (first | exact (Kd.C_below HR0_1.out HB.out) ))
       (case side2 => exact HC0_1.out)
       rintro e w39 ⟨v134, rfl, ho0, hb⟩
       refine ⟨_, rfl, ?_⟩
       have n0_ := Aside0.mk (Kd.R_lower ho0 (below_size (by repeat (first | (with_reducible first | exact HB.out ) ))))
       have n1_ := Aside0.mk (blk_below (g := gb126) (o := .cells #[.int .i64 a0_0, .slice (some ad130) l0_1.length c0_1] 24 (0, 0)) (by (with_reducible repeat (fail)); exact BK126.out) hb)
       have n2_ := Aside0.mk (blk_below (g := gb127) (o := .cells #[.int .i64 0, .slice none 0 0] 24 (0, 0)) (by (with_reducible repeat (fail)); exact BK127.out) hb)
       have n3_ := Aside0.mk (below_step (by repeat (first | (with_reducible first | exact HB.out ) )) hb)
       clear BK126
       clear BK127
       clear HB
       have HO135 := n0_
       have BK126 := n1_
       have BK127 := n2_
       have HB := n3_
       clear n0_ n1_ n2_ n3_
       (try clear hb)
       (try clear hb2)
       (try clear hk)
       (try clear hi)
       (try clear ho0)
       obtain ⟨Ao41, co41, eo41⟩ := Kd.R_slice HO135.out
       (first | subst eo41 )
       refine hK.out _ _ ⟨(blk_cell BK126.out 0).trans rfl, (blk_cell BK126.out 1).trans rfl, ((HB.out.cell (World.block_lt_of_cell? w _ hw131_0)).trans hw131_0), ((HB.out.cell (World.block_lt_of_cell? w _ hw131_1)).trans hw131_1), ((HB.out.cell (World.block_lt_of_cell? w _ hw131_2)).trans hw131_2)⟩ (fun hHeld => ?_)
       clear hK K
       refine norm_ (a' := ?_) ?_ ?_
       rotate_left
       ·show Act.put _ (some 43) _ = _
        simp only [Act.put, List.setIfInBounds_toArray, List.set_cons_zero, List.set_cons_succ, i64_w, i32_w]
        rfl
       refine one_ (i := 11) (N := none) #[true, true, true, true, true, true, true, true, true, true, true, true, false] rfl rfl (one_of HT_.out (by kernel_rfl)) (by decide) (fun K hK => ?_)
       have hs40 : w39.cell? ⟨gb127, 0, none⟩ = some (.int .i64 0) := (blk_cell BK127.out 0).trans rfl
       have hfs40 := blk_frozen BK127.out 0
       have hns40_0 := NB126_127.out
       have hms40_0 := NB127_126.out
       have hs42 : w39.cell? ⟨gb127, 1, none⟩ = some (.slice none 0 0) := (blk_cell BK127.out 1).trans rfl
       have hfs42 := blk_frozen BK127.out 1
       have hns42_0 := NB126_127.out
       have hms42_0 := NB127_126.out
       refine skip_ (w1 := ?_) (by rfl) rfl ?_ ?_
       rotate_left
       ·go_simp
        rfl
       refine hK.out _ _ ⟨((cell_far (p := ⟨gb127, _, none⟩) NB126_127.out _).trans (((cell_far (p := ⟨gb127, _, none⟩) NB126_127.out _).trans (hHeld.1)))), ((cell_far (p := ⟨gb127, _, none⟩) NB126_127.out _).trans (((cell_far (p := ⟨gb127, _, none⟩) NB126_127.out _).trans (hHeld.2.1)))), ((cell_far (p := ⟨gb127, _, none⟩) (by first | exact Nat.ne_of_lt (Nat.lt_of_lt_of_le (by have := World.block_lt_of_cell? _ _ hw131_0; first | exact this) GW127.out) ) _).trans (((cell_far (p := ⟨gb127, _, none⟩) (by first | exact Nat.ne_of_lt (Nat.lt_of_lt_of_le (by have := World.block_lt_of_cell? _ _ hw131_0; first | exact this) GW127.out) ) _).trans (hHeld.2.2.1)))), ((cell_far (p := ⟨gb127, _, none⟩) (by first | exact Nat.ne_of_lt (Nat.lt_of_lt_of_le (by have := World.block_lt_of_cell? _ _ hw131_1; first | exact this) GW127.out) ) _).trans (((cell_far (p := ⟨gb127, _, none⟩) (by first | exact Nat.ne_of_lt (Nat.lt_of_lt_of_le (by have := World.block_lt_of_cell? _ _ hw131_1; first | exact this) GW127.out) ) _).trans (hHeld.2.2.2.1)))), ((cell_far (p := ⟨gb127, _, none⟩) (by first | exact Nat.ne_of_lt (Nat.lt_of_lt_of_le (by have := World.block_lt_of_cell? _ _ hw131_2; first | exact this) GW127.out) ) _).trans (((cell_far (p := ⟨gb127, _, none⟩) (by first | exact Nat.ne_of_lt (Nat.lt_of_lt_of_le (by have := World.block_lt_of_cell? _ _ hw131_2; first | exact this) GW127.out) ) _).trans (hHeld.2.2.2.2))))⟩ (fun hHeld => ?_)
       clear hK K
       refine pure_ (i := 12) (N := some 5) (v := ?_) (a' := ?_) #[true, true, true, true, true, true, true, true, true, true, true, true, true] rfl rfl (any_of HT_.out (by kernel_rfl)) (fun _ _ _ h => h) (Or.inl ⟨by rfl, ?_⟩) ?_ ?_
       rotate_left
       ·intro w'
        go_simp
        with_reducible rfl
       rotate_left
       ·simp only [Act.put, List.setIfInBounds_toArray, List.set_cons_zero, List.set_cons_succ, i64_w, i32_w]
        rfl
       refine done_ (done_of HT_.out (by kernel_rfl)) ?_
       try go_wp2
       refine bodyPost_ret (results_ct rfl _ _ gb127 24 #[.int .i64 t132, .slice Ao41 t133.length co41] (0, 0) _ rfl (by (with_reducible repeat (fail)); refine blk_put (cs := #[.int .i64 t132, .slice none 0 0]) ?_ 1 _ rfl; (with_reducible repeat (fail)); refine blk_put (cs := #[.int .i64 0, .slice none 0 0]) ?_ 0 _ rfl; (with_reducible repeat (fail)); exact BK127.out) Tryz.underlying24 rfl (by kernel_rfl)) rfl ?_
       exact ⟨_, by first | rfl , by (with_reducible repeat (fail)); exact Kd.R_mono (Kd.R_far (p := ⟨gb127, 1, none⟩) (Kd.R_far (p := ⟨gb127, 0, none⟩) (Kd.R_types HO135.out BK127.out (by decide)) (fun _ hk => hk.2) (.int .i64 t132)) (fun _ hk => hk.2) (.slice Ao41 t133.length co41)) (fun _ hk => trivial), by repeat (first | (with_reducible first | exact HB.out | refine below_set ?_ GE127.out) )⟩
     ·replace c18 := Bool.eq_false_iff.mpr c18
      subst c18
      have H1 : (none : Option _) = some (r1, r2, r3) := by rw [if_neg (show ¬ (false = true) by decide)] at H; exact H
      cases H1
    ·rw [if_neg c16] at H
     exact absurd H (by simp)
   ·rw [if_neg c15] at H
    exact absurd H (by simp)
 ·replace c5 := Bool.eq_false_iff.mpr c5
  subst c5
  have H1 : (none : Option _) = some (r1, r2, r3) := by rw [if_neg (show ¬ (false = true) by decide)] at H; exact H
  cases H1
/-! ### view_Up: function 15 -/
def view_Up.f (k : Nat) (a0_0 : Int) (l0_1 : List (S53)) (a1 : Int) : Option (Int × (List (S53)) × Int) := (view_find.f a0_0 l0_1 a1).bind fun t138 => ((view_Check.f k a0_0 l0_1).bind fun t139 => (if t139 = true then (if t138 < 0 then none else (if 0 ≤ t138 then (if t138 < (l0_1.length : Int) then (if (rd_T53 l0_1 t138).f2 = true then none else (if a0_0 ≥ 1099511627775 then none else (if ((rd_T53 l0_1 t138).f1) ≥ 1099511627775 then none else ((view_step.f a0_0 l0_1 t138 a1 (wrap64 (((rd_T53 l0_1 t138).f1) + 1)) true).bind fun bt143 => (some (bt143.1, bt143.2, 0)))))) else (none)) else (none))) else none))
theorem view_Up.mono : ∀ a0 a1 a2 k, LeO (view_Up.f k a0 a1 a2) (view_Up.f (k + 1) a0 a1 a2) := by
 intro a0 a1 a2 k
 unfold view_Up.f
 repeat' first
   | (with_reducible exact view_Check.mono _ _ _)
   | (with_reducible exact LeO.refl _)
   | (with_reducible refine LeO.bind ?_ (fun _ => ?_))

def view_Up.T10 : Bool × List (List Nat × List Nat) := (true, [([], []), ([], []), ([], []), ([], []), ([3], [3]), ([], []), ([4, 5], [4, 5]), ([6], [6]), ([7], [7]), ([8], [8]), ([2, 9], [2, 9]), ([0, 1, 10], [0, 1, 10]), ([11, 11, 0, 1, 2, 3, 4, 5, 6, 7, 8, 9, 10, 11], [11]), ([12, 0, 1, 2, 3, 4, 5, 6, 7, 8, 9, 10, 11, 12], [])])
def view_Up.B10 : List Nat := [0, 0, 0, 0, 8, 0, 56, 120, 248, 504, 1020, 2047, 4095, 8191]
theorem view_Up.tab10 : rtab .any (opsOf Tryz.f15 10) = view_Up.T10 := by kernel_rfl
theorem view_Up.bits10 : waitsOk view_Up.T10.2 view_Up.B10 = true := by kernel_rfl
set_option maxHeartbeats 8000000 in
set_option maxRecDepth 100000 in
theorem view_Up.calls (k : Nat) (a0_0 : Int) (A0_1 : Option Addr) (c0_1 : Nat) (l0_1 : List (S53)) (a1 : Int) (r1 : Int) (r2 : List (S53)) (r3 : Int) (w : World) (hr0_1 : Kd.C k53 w A0_1 l0_1.length l0_1) (hc0_1 : l0_1.length ≤ c0_1) (h : view_Up.f k a0_0 l0_1 a1 = some (r1, r2, r3)) :
  Calls Tryz.prog 15 #[.agg #[.int .i64 a0_0, .slice A0_1 l0_1.length c0_1], .int .i64 a1] w fun e w' => ∃ v1_ : Value, e = .returned (.tuple #[.agg #[.int .i64 r1, v1_], .int .i64 r3]) ∧ Kd.R k53 53 w' w.heap.size (fun _ => True) v1_ r2 ∧ Below w.heap.size w w' := by
 have hu24 := Tryz.underlying24
 have hu53 := Tryz.underlying53
 have HR0_1 := Aside0.mk hr0_1
 have HC0_1 := Aside0.mk hc0_1
 clear hr0_1 hc0_1
 have HB := Aside0.mk (Below.refl w.heap.size w)
 have H : ((view_find.f a0_0 l0_1 a1).bind fun t138 => ((view_Check.f k a0_0 l0_1).bind fun t139 => (if t139 = true then (if t138 < 0 then none else (if 0 ≤ t138 then (if t138 < (l0_1.length : Int) then (if (rd_T53 l0_1 t138).f2 = true then none else (if a0_0 ≥ 1099511627775 then none else (if ((rd_T53 l0_1 t138).f1) ≥ 1099511627775 then none else ((view_step.f a0_0 l0_1 t138 a1 (wrap64 (((rd_T53 l0_1 t138).f1) + 1)) true).bind fun bt143 => (some (bt143.1, bt143.2, 0)))))) else (none)) else (none))) else none))) = some (r1, r2, r3) := h
 clear h
 replace H := Option.bind_eq_some_iff.mp H
 obtain ⟨t138, A30, H⟩ := H
 replace H : ((view_Check.f k a0_0 l0_1).bind fun t139 => (if t139 = true then (if t138 < 0 then none else (if 0 ≤ t138 then (if t138 < (l0_1.length : Int) then (if (rd_T53 l0_1 t138).f2 = true then none else (if a0_0 ≥ 1099511627775 then none else (if ((rd_T53 l0_1 t138).f1) ≥ 1099511627775 then none else ((view_step.f a0_0 l0_1 t138 a1 (wrap64 (((rd_T53 l0_1 t138).f1) + 1)) true).bind fun bt143 => (some (bt143.1, bt143.2, 0)))))) else (none)) else (none))) else none)) = some (r1, r2, r3) := H
 have A3 := Aside0.mk A30
 clear A30
 replace H := Option.bind_eq_some_iff.mp H
 obtain ⟨t139, A40, H⟩ := H
 replace H : (if t139 = true then (if t138 < 0 then none else (if 0 ≤ t138 then (if t138 < (l0_1.length : Int) then (if (rd_T53 l0_1 t138).f2 = true then none else (if a0_0 ≥ 1099511627775 then none else (if ((rd_T53 l0_1 t138).f1) ≥ 1099511627775 then none else ((view_step.f a0_0 l0_1 t138 a1 (wrap64 (((rd_T53 l0_1 t138).f1) + 1)) true).bind fun bt143 => (some (bt143.1, bt143.2, 0)))))) else (none)) else (none))) else none) = some (r1, r2, r3) := H
 have A4 := Aside0.mk A40
 clear A40
 by_cases c5 : t139 = true
 ·subst c5
  have H1 : (if t138 < 0 then none else (if 0 ≤ t138 then (if t138 < (l0_1.length : Int) then (if (rd_T53 l0_1 t138).f2 = true then none else (if a0_0 ≥ 1099511627775 then none else (if ((rd_T53 l0_1 t138).f1) ≥ 1099511627775 then none else ((view_step.f a0_0 l0_1 t138 a1 (wrap64 (((rd_T53 l0_1 t138).f1) + 1)) true).bind fun bt143 => (some (bt143.1, bt143.2, 0)))))) else (none)) else (none))) = some (r1, r2, r3) := by rw [if_pos rfl] at H; exact H
  clear H
  have H := H1
  clear H1
  by_cases c6 : t138 < 0
  ·rw [if_pos c6] at H
   cases H
  ·rw [if_neg c6] at H
   have c6b0 : decide (t138 < 0) = false := decide_eq_false c6
   clear c6
   by_cases c15 : 0 ≤ t138
   ·rw [if_pos c15] at H
    have c15b0 : decide (0 ≤ t138) = true := decide_eq_true c15
    clear c15
    by_cases c16 : t138 < (l0_1.length : Int)
    ·rw [if_pos c16] at H
     have c16b0 : decide (t138 < (l0_1.length : Int)) = true := decide_eq_true c16
     clear c16
     obtain ⟨bq17, hbq17⟩ : ∃ b_ : Bool, b_ = ((rd_T53 l0_1 t138).f2) := ⟨_, rfl⟩
     replace H : (if bq17 = true then none else (if a0_0 ≥ 1099511627775 then none else (if ((rd_T53 l0_1 t138).f1) ≥ 1099511627775 then none else ((view_step.f a0_0 l0_1 t138 a1 (wrap64 (((rd_T53 l0_1 t138).f1) + 1)) true).bind fun bt143 => (some (bt143.1, bt143.2, 0)))))) = some (r1, r2, r3) := by rw [← hbq17] at H; exact H
     have Nbq17 := Aside0.mk hbq17
     clear hbq17
     by_cases c18 : bq17 = true
     ·subst c18
      have H1 : (none : Option _) = some (r1, r2, r3) := by rw [if_pos rfl] at H; exact H
      cases H1
     ·replace c18 := Bool.eq_false_iff.mpr c18
      subst c18
      have H1 : (if a0_0 ≥ 1099511627775 then none else (if ((rd_T53 l0_1 t138).f1) ≥ 1099511627775 then none else ((view_step.f a0_0 l0_1 t138 a1 (wrap64 (((rd_T53 l0_1 t138).f1) + 1)) true).bind fun bt143 => (some (bt143.1, bt143.2, 0))))) = some (r1, r2, r3) := by rw [if_neg (show ¬ (false = true) by decide)] at H; exact H
      clear H
      have H := H1
      clear H1
      by_cases c28 : a0_0 ≥ 1099511627775
      ·rw [if_pos c28] at H
       cases H
      ·rw [if_neg c28] at H
       have c28b0 : decide (1099511627775 ≤ a0_0) = false := decide_eq_false c28
       clear c28
       by_cases c38 : ((rd_T53 l0_1 t138).f1) ≥ 1099511627775
       ·rw [if_pos c38] at H
        cases H
       ·rw [if_neg c38] at H
        have c38b0 : decide (1099511627775 ≤ ((rd_T53 l0_1 t138).f1)) = false := decide_eq_false c38
        clear c38
        replace H := Option.bind_eq_some_iff.mp H
        obtain ⟨⟨t143, t144⟩, A480, H⟩ := H
        replace H : (some (t143, t144, 0)) = some (r1, r2, r3) := H
        have A48 := Aside0.mk A480
        clear A480
        simp only [Option.some.injEq, Prod.mk.injEq] at H
        obtain ⟨rfl, rfl, rfl⟩ := H
        go_enter Tryz.func15, Tryz.ntmps15
        try go_wp2_with (first | ((with_reducible refine gate_dst (N := 2) rfl ?_); refine box_event ?hg (N := 2) ?hd (cs := #[.int .i64 a0_0, .slice A0_1 l0_1.length c0_1]) (t := 24) ?hr ?_; (case hd => rfl); (case hg => rfl); (case hr => first | (go_simp; done) ); intro gb136 hg w49 hbox hb; have n0_ := Aside0.mk (below_step (by repeat (first | (with_reducible first | exact HB.out ) )) hb); have n1_ := Aside0.mk (hbox); have n2_ := Aside0.mk ((by rw [hg]; exact (below_size (by repeat (first | (with_reducible first | exact HB.out ) ))) : w.heap.size ≤ gb136)); have n3_ := Aside0.mk ((by rw [hg]; exact (below_size (by repeat (first | (with_reducible first | exact HB.out ) ))) : w.heap.size ≤ gb136)); clear HB; have HB := n0_; have BK136 := n1_; have GW136 := n2_; have GE136 := n3_; clear n0_ n1_ n2_ n3_; clear hb hbox hg) | ((with_reducible refine gate_dst (N := 4) rfl ?_); refine box_event ?hg (N := 4) ?hd (cs := #[.int .i64 0, .slice none 0 0]) (t := 24) ?hr ?_; (case hd => rfl); (case hg => rfl); (case hr => first | (go_simp; done) ); intro gb137 hg w50 hbox hb; have n0_ := Aside0.mk (blk_below (g := gb136) (o := .cells #[.int .i64 a0_0, .slice A0_1 l0_1.length c0_1] 24 (0, 0)) (by (with_reducible repeat (fail)); exact BK136.out) hb); have n1_ := Aside0.mk (below_step (by repeat (first | (with_reducible first | exact HB.out ) )) hb); have n2_ := Aside0.mk (hbox); have n3_ := Aside0.mk ((by rw [hg]; exact (below_size (by repeat (first | (with_reducible first | exact HB.out ) ))) : w.heap.size ≤ gb137)); have n4_ := Aside0.mk ((by rw [hg]; exact (below_size (by repeat (first | (with_reducible first | exact HB.out ) ))) : w.heap.size ≤ gb137)); have n5_ := Aside0.mk ((by rw [hg]; exact Nat.ne_of_lt (blk_lt (g := gb136) (o := .cells #[.int .i64 a0_0, .slice A0_1 l0_1.length c0_1] 24 (0, 0)) (by (with_reducible repeat (fail)); exact BK136.out)) : gb136 ≠ gb137)); have n6_ := Aside0.mk ((by rw [hg]; exact Nat.ne_of_gt (blk_lt (g := gb136) (o := .cells #[.int .i64 a0_0, .slice A0_1 l0_1.length c0_1] 24 (0, 0)) (by (with_reducible repeat (fail)); exact BK136.out)) : gb137 ≠ gb136)); clear BK136; clear HB; have BK136 := n0_; have HB := n1_; have BK137 := n2_; have GW137 := n3_; have GE137 := n4_; have NB136_137 := n5_; have NB137_136 := n6_; clear n0_ n1_ n2_ n3_ n4_ n5_ n6_; clear hb hbox hg; have hnb51 := NB136_137.out; have hnc51 := NB137_136.out; have hcz52_0 : w50.cell? ⟨gb136, 0, none⟩ = some (.int .i64 a0_0) := (blk_cell BK136.out 0).trans rfl; have hcz52_1 : w50.cell? ⟨gb136, 1, none⟩ = some (.slice A0_1 l0_1.length c0_1) := (blk_cell BK136.out 1).trans rfl; have hfz52_0 := blk_frozen BK136.out 0; have hfz52_1 := blk_frozen BK136.out 1) | ((with_reducible refine gate_callee (f := 30) rfl ?_); refine goesL_ (some 9) rfl rfl Tryz.func30 (by kernel_rfl) rfl #[.agg #[.int .i64 a0_0, .slice A0_1 l0_1.length c0_1], .int .i64 a1] rfl (by (try simp only [List.map_toArray, List.map_cons, List.map_nil]); first | rfl ) ?_; (with_reducible refine (view_find.calls a0_0 _ _ l0_1 a1 t138 _ ?side1 ?side2 A3.out).mono ?_); (case side1 => repeat (first | exact (Kd.C_below HR0_1.out HB.out) )); (case side2 => exact HC0_1.out); rintro e w53 ⟨rfl, hb⟩; refine ⟨_, rfl, ?_⟩; have n0_ := Aside0.mk (blk_below (g := gb136) (o := .cells #[.int .i64 a0_0, .slice A0_1 l0_1.length c0_1] 24 (0, 0)) (by (with_reducible repeat (fail)); exact BK136.out) hb); have n1_ := Aside0.mk (blk_below (g := gb137) (o := .cells #[.int .i64 0, .slice none 0 0] 24 (0, 0)) (by (with_reducible repeat (fail)); exact BK137.out) hb); have n2_ := Aside0.mk (below_step (by repeat (first | (with_reducible first | exact HB.out ) )) hb); clear BK136; clear BK137; clear HB; have BK136 := n0_; have BK137 := n1_; have HB := n2_; clear n0_ n1_ n2_; (try clear hb); (try clear hb2); (try clear hk); (try clear hi); have hcz54_0 : w53.cell? ⟨gb136, 0, none⟩ = some (.int .i64 a0_0) := (blk_cell BK136.out 0).trans rfl; have hcz54_1 : w53.cell? ⟨gb136, 1, none⟩ = some (.slice A0_1 l0_1.length c0_1) := (blk_cell BK136.out 1).trans rfl; have hfz54_0 := blk_frozen BK136.out 0; have hfz54_1 := blk_frozen BK136.out 1) | ((with_reducible refine gate_callee (f := 25) rfl ?_); refine goesL_ (some 12) rfl rfl Tryz.func25 (by kernel_rfl) rfl #[.agg #[.int .i64 a0_0, .slice A0_1 l0_1.length c0_1]] rfl (by (try simp only [List.map_toArray, List.map_cons, List.map_nil]); first | rfl ) ?_; (with_reducible refine (view_Check.calls k a0_0 _ _ l0_1 true _ ?side1 ?side2 A4.out).mono ?_); (case side1 => repeat (first | exact (Kd.C_below HR0_1.out HB.out) )); (case side2 => exact HC0_1.out); rintro e w55 ⟨rfl, hb⟩; refine ⟨_, rfl, ?_⟩; have n0_ := Aside0.mk (blk_below (g := gb136) (o := .cells #[.int .i64 a0_0, .slice A0_1 l0_1.length c0_1] 24 (0, 0)) (by (with_reducible repeat (fail)); exact BK136.out) hb); have n1_ := Aside0.mk (blk_below (g := gb137) (o := .cells #[.int .i64 0, .slice none 0 0] 24 (0, 0)) (by (with_reducible repeat (fail)); exact BK137.out) hb); have n2_ := Aside0.mk (below_step (by repeat (first | (with_reducible first | exact HB.out ) )) hb); clear BK136; clear BK137; clear HB; have BK136 := n0_; have BK137 := n1_; have HB := n2_; clear n0_ n1_ n2_; (try clear hb); (try clear hb2); (try clear hk); (try clear hi); have hcz56_0 : w55.cell? ⟨gb136, 0, none⟩ = some (.int .i64 a0_0) := (blk_cell BK136.out 0).trans rfl; have hcz56_1 : w55.cell? ⟨gb136, 1, none⟩ = some (.slice A0_1 l0_1.length c0_1) := (blk_cell BK136.out 1).trans rfl; have hfz56_0 := blk_frozen BK136.out 0; have hfz56_1 := blk_frozen BK136.out 1; have p140 : 0 ≤ (t138 : Int) := of_decide_eq_true (by first | (with_reducible assumption) ); have q140 : t138 < (l0_1.length : Int) := of_decide_eq_true (by first | (with_reducible assumption) ); obtain ⟨ad140, e140, hx140_0, hx140_1, hx140_2⟩ := at_T53 HR0_1.out t138 p140 q140; (try rw [← Nbq17.out] at hx140_2); cases e140; replace hx140_0 := (HB.out.cell (World.block_lt_of_cell? w _ hx140_0)).trans hx140_0; replace hx140_1 := (HB.out.cell (World.block_lt_of_cell? w _ hx140_1)).trans hx140_1; replace hx140_2 := (HB.out.cell (World.block_lt_of_cell? w _ hx140_2)).trans hx140_2; replace p140 := eq_true p140; replace q140 := eq_true q140; have p141 : 0 ≤ (t138 : Int) := of_decide_eq_true (by first | (with_reducible assumption) ); have q141 : t138 < (l0_1.length : Int) := of_decide_eq_true (by first | (with_reducible assumption) ); obtain ⟨ad141, e141, hx141_0, hx141_1, hx141_2⟩ := at_T53 HR0_1.out t138 p141 q141; (try rw [← Nbq17.out] at hx141_2); obtain rfl : ad140 = ad141 := (by injection e141); replace hx141_0 := (HB.out.cell (World.block_lt_of_cell? w _ hx141_0)).trans hx141_0; replace hx141_1 := (HB.out.cell (World.block_lt_of_cell? w _ hx141_1)).trans hx141_1; replace hx141_2 := (HB.out.cell (World.block_lt_of_cell? w _ hx141_2)).trans hx141_2; replace p141 := eq_true p141; replace q141 := eq_true q141))
        have n0_ := Aside0.mk (blk_drew BK136.out)
        have n1_ := Aside0.mk (blk_drew BK137.out)
        have n2_ := Aside0.mk (below_drew1 HB.out)
        clear BK136
        clear BK137
        clear HB
        have BK136 := n0_
        have BK137 := n1_
        have HB := n2_
        clear n0_ n1_ n2_
        have p142 : 0 ≤ (t138 : Int) := of_decide_eq_true (by first | (with_reducible assumption) )
        have q142 : t138 < (l0_1.length : Int) := of_decide_eq_true (by first | (with_reducible assumption) )
        obtain ⟨ad142, e142, hx142_0, hx142_1, hx142_2⟩ := at_T53 HR0_1.out t138 p142 q142
        have hw142_2 := hx142_2
        have hw142_1 := hx142_1
        have hw142_0 := hx142_0
        (try rw [← Nbq17.out] at hx142_2)
        (try rw [← Nbq17.out] at hw142_2)
        obtain rfl : ad140 = ad142 := (by injection e142)
        replace hx142_0 := (HB.out.cell (World.block_lt_of_cell? w _ hx142_0)).trans hx142_0
        replace hx142_1 := (HB.out.cell (World.block_lt_of_cell? w _ hx142_1)).trans hx142_1
        replace hx142_2 := (HB.out.cell (World.block_lt_of_cell? w _ hx142_2)).trans hx142_2
        replace p142 := eq_true p142
        replace q142 := eq_true q142
        refine start_ (n := 14) (S := fun w' => w'.cell? ⟨gb136, 0, none⟩ = some (.int .i64 a0_0) ∧ w'.cell? ⟨gb136, 1, none⟩ = some (.slice (some ad140) l0_1.length c0_1) ∧ w'.cell? (ad140.add ((t138).toNat * 3)) = some (.int .i64 ((rd_T53 l0_1 t138).f0)) ∧ w'.cell? ⟨(ad140.add ((t138).toNat * 3)).block, (ad140.add ((t138).toNat * 3)).off + 1, none⟩ = some (.int .i64 ((rd_T53 l0_1 t138).f1)) ∧ w'.cell? ⟨(ad140.add ((t138).toNat * 3)).block, (ad140.add ((t138).toNat * 3)).off + 2, none⟩ = some (.bool (false))) (ds := []) #[false, false, false, false, false, false, false, false, false, false, false, false, false, false] (by kernel_rfl) rfl rfl ⟨(blk_cell BK136.out 0).trans rfl, (blk_cell BK136.out 1).trans rfl, ((HB.out.cell (World.block_lt_of_cell? w _ hw142_0)).trans hw142_0), ((HB.out.cell (World.block_lt_of_cell? w _ hw142_1)).trans hw142_1), ((HB.out.cell (World.block_lt_of_cell? w _ hw142_2)).trans hw142_2)⟩ (fun hHeld => ?_); refine with_tabW view_Up.tab10 view_Up.bits10 (fun HT_ HW_ => ?_)
        generalize w55.drew = w57 at BK136 BK137 HB hx142_0 hx142_1 hx142_2 hHeld ⊢
        refine pure_ (i := 1) (N := some 42) (v := ?_) (a' := ?_) #[false, true, false, false, false, false, false, false, false, false, false, false, false, false] rfl rfl (any_of HT_.out (by kernel_rfl)) (fun _ _ _ h => h) (Or.inl ⟨by rfl, ?_⟩) ?_ ?_
        rotate_left
        ·intro w'
         go_simp
         with_reducible rfl
        rotate_left
        ·simp only [Act.put, List.setIfInBounds_toArray, List.set_cons_zero, List.set_cons_succ, i64_w, i32_w]
         rfl
        refine pure_ (i := 2) (N := some 43) (v := ?_) (a' := ?_) #[false, true, true, false, false, false, false, false, false, false, false, false, false, false] rfl rfl (any_of HT_.out (by kernel_rfl)) (fun _ _ _ h => h) (Or.inl ⟨by rfl, ?_⟩) ?_ ?_
        rotate_left
        ·intro w'
         go_simp
         with_reducible rfl
        rotate_left
        ·simp only [Act.put, List.setIfInBounds_toArray, List.set_cons_zero, List.set_cons_succ, i64_w, i32_w]
         rfl
        refine pure_ (i := 3) (N := some 44) (v := ?_) (a' := ?_) #[false, true, true, true, false, false, false, false, false, false, false, false, false, false] rfl rfl (any_of HT_.out (by kernel_rfl)) (fun _ _ _ h => h) (Or.inl ⟨by rfl, ?_⟩) ?_ ?_
        rotate_left
        ·intro w'
         go_simp
         with_reducible rfl
        rotate_left
        ·simp only [Act.put, List.setIfInBounds_toArray, List.set_cons_zero, List.set_cons_succ, i64_w, i32_w]
         rfl
        refine pure_ (i := 5) (N := some 46) (v := ?_) (a' := ?_) #[false, true, true, true, false, true, false, false, false, false, false, false, false, false] rfl rfl (any_of HT_.out (by kernel_rfl)) (fun _ _ _ h => h) (Or.inl ⟨by rfl, ?_⟩) ?_ ?_
        rotate_left
        ·intro w'
         go_simp
         with_reducible rfl
        rotate_left
        ·simp only [Act.put, List.setIfInBounds_toArray, List.set_cons_zero, List.set_cons_succ, i64_w, i32_w]
         rfl
        refine take_ (i := 0) (N := some 41) (v := ?_) (a' := ?_) #[true, true, true, true, false, true, false, false, false, false, false, false, false, false] rfl rfl (take_ofW HT_.out HW_.out (by kernel_rfl)) (fun _ _ _ h => h) (Or.inl ⟨by rfl, ?_⟩) hHeld ?_ ?_
        rotate_left
        ·rintro w' ⟨s0, s1, s2, s3, s4⟩
         go_simp
         with_reducible rfl
        rotate_left
        ·simp only [Act.put, List.setIfInBounds_toArray, List.set_cons_zero, List.set_cons_succ, i64_w, i32_w]
         rfl
        refine take_ (i := 4) (N := some 45) (v := ?_) (a' := ?_) #[true, true, true, true, true, true, false, false, false, false, false, false, false, false] rfl rfl (take_ofW HT_.out HW_.out (by kernel_rfl)) (fun _ _ _ h => h) (Or.inl ⟨by rfl, ?_⟩) hHeld ?_ ?_
        rotate_left
        ·rintro w' ⟨s0, s1, s2, s3, s4⟩
         go_simp
         with_reducible rfl
        rotate_left
        ·simp only [Act.put, List.setIfInBounds_toArray, List.set_cons_zero, List.set_cons_succ, i64_w, i32_w]
         rfl
        refine pure_ (i := 6) (N := some 47) (v := ?_) (a' := ?_) #[true, true, true, true, true, true, true, false, false, false, false, false, false, false] rfl rfl (any_of HT_.out (by kernel_rfl)) (fun _ _ _ h => h) (Or.inl ⟨by rfl, ?_⟩) ?_ ?_
        rotate_left
        ·intro w'
         go_simp
         with_reducible rfl
        rotate_left
        ·simp only [Act.put, List.setIfInBounds_toArray, List.set_cons_zero, List.set_cons_succ, i64_w, i32_w]
         rfl
        refine pure_ (i := 7) (N := some 48) (v := ?_) (a' := ?_) #[true, true, true, true, true, true, true, true, false, false, false, false, false, false] rfl rfl (any_of HT_.out (by kernel_rfl)) (fun _ _ _ h => h) (Or.inl ⟨by rfl, ?_⟩) ?_ ?_
        rotate_left
        ·intro w'
         go_simp
         with_reducible rfl
        rotate_left
        ·simp only [Act.put, List.setIfInBounds_toArray, List.set_cons_zero, List.set_cons_succ, i64_w, i32_w]
         rfl
        refine take_ (i := 8) (N := some 49) (v := ?_) (a' := ?_) #[true, true, true, true, true, true, true, true, true, false, false, false, false, false] rfl rfl (take_ofW HT_.out HW_.out (by kernel_rfl)) (fun _ _ _ h => h) (Or.inl ⟨by rfl, ?_⟩) hHeld ?_ ?_
        rotate_left
        ·rintro w' ⟨s0, s1, s2, s3, s4⟩
         go_simp
         with_reducible rfl
        rotate_left
        ·simp only [Act.put, List.setIfInBounds_toArray, List.set_cons_zero, List.set_cons_succ, i64_w, i32_w]
         rfl
        refine pure_ (i := 9) (N := some 50) (v := ?_) (a' := ?_) #[true, true, true, true, true, true, true, true, true, true, false, false, false, false] rfl rfl (any_of HT_.out (by kernel_rfl)) (fun _ _ _ h => h) (Or.inl ⟨by rfl, ?_⟩) ?_ ?_
        rotate_left
        ·intro w'
         go_simp
         with_reducible rfl
        rotate_left
        ·simp only [Act.put, List.setIfInBounds_toArray, List.set_cons_zero, List.set_cons_succ, i64_w, i32_w]
         rfl
        refine pure_ (i := 10) (N := some 51) (v := ?_) (a' := ?_) #[true, true, true, true, true, true, true, true, true, true, true, false, false, false] rfl rfl (any_of HT_.out (by kernel_rfl)) (fun _ _ _ h => h) (Or.inl ⟨by rfl, ?_⟩) ?_ ?_
        rotate_left
        ·intro w'
         go_simp
         with_reducible rfl
        rotate_left
        ·simp only [Act.put, List.setIfInBounds_toArray, List.set_cons_zero, List.set_cons_succ, i64_w, i32_w]
         rfl
        refine one_ (i := 11) (N := some 52) #[true, true, true, true, true, true, true, true, true, true, true, true, false, false] rfl rfl (one_of HT_.out (by kernel_rfl)) (by decide) (fun K hK => ?_)
        refine goes_ Tryz.func31 (by kernel_rfl) rfl #[.agg #[.int .i64 a0_0, .slice (some ad140) l0_1.length c0_1], .int .i64 t138, .agg #[.int .i64 a1, .int .i64 (wrap64 (((rd_T53 l0_1 t138).f1) + 1)), .bool true]] (by rfl) rfl rfl (by (try simp only [List.map_toArray, List.map_cons, List.map_nil]); first | rfl ) ?_
        with_reducible refine (view_step.calls a0_0 _ _ l0_1 t138 a1 (wrap64 (((rd_T53 l0_1 t138).f1) + 1)) true t143 t144 _ ?side1 ?side2 A48.out).mono ?_
        (case side1 => repeat (first | exact (Kd.C_below HR0_1.out HB.out) ))
        (case side2 => exact HC0_1.out)
        rintro e w58 ⟨v145, rfl, ho0, hb⟩
        refine ⟨_, rfl, ?_⟩
        have n0_ := Aside0.mk (Kd.R_lower ho0 (below_size (by repeat (first | (with_reducible first | exact HB.out ) ))))
        have n1_ := Aside0.mk (blk_below (g := gb136) (o := .cells #[.int .i64 a0_0, .slice (some ad140) l0_1.length c0_1] 24 (0, 0)) (by (with_reducible repeat (fail)); exact BK136.out) hb)
        have n2_ := Aside0.mk (blk_below (g := gb137) (o := .cells #[.int .i64 0, .slice none 0 0] 24 (0, 0)) (by (with_reducible repeat (fail)); exact BK137.out) hb)
        have n3_ := Aside0.mk (below_step (by repeat (first | (with_reducible first | exact HB.out ) )) hb)
        clear BK136
        clear BK137
        clear HB
        have HO146 := n0_
        have BK136 := n1_
        have BK137 := n2_
        have HB := n3_
        clear n0_ n1_ n2_ n3_
        (try clear hb)
        (try clear hb2)
        (try clear hk)
        (try clear hi)
        (try clear ho0)
        obtain ⟨Ao60, co60, eo60⟩ := Kd.R_slice HO146.out
        (first | subst eo60 )
        refine hK.out _ _ ⟨(blk_cell BK136.out 0).trans rfl, (blk_cell BK136.out 1).trans rfl, ((HB.out.cell (World.block_lt_of_cell? w _ hw142_0)).trans hw142_0), ((HB.out.cell (World.block_lt_of_cell? w _ hw142_1)).trans hw142_1), ((HB.out.cell (World.block_lt_of_cell? w _ hw142_2)).trans hw142_2)⟩ (fun hHeld => ?_)
        clear hK K
        refine norm_ (a' := ?_) ?_ ?_
        rotate_left
        ·show Act.put _ (some 52) _ = _
         simp only [Act.put, List.setIfInBounds_toArray, List.set_cons_zero, List.set_cons_succ, i64_w, i32_w]
         rfl
        refine one_ (i := 12) (N := none) #[true, true, true, true, true, true, true, true, true, true, true, true, true, false] rfl rfl (one_of HT_.out (by kernel_rfl)) (by decide) (fun K hK => ?_)
        have hs59 : w58.cell? ⟨gb137, 0, none⟩ = some (.int .i64 0) := (blk_cell BK137.out 0).trans rfl
        have hfs59 := blk_frozen BK137.out 0
        have hns59_0 := NB136_137.out
        have hms59_0 := NB137_136.out
        have hs61 : w58.cell? ⟨gb137, 1, none⟩ = some (.slice none 0 0) := (blk_cell BK137.out 1).trans rfl
        have hfs61 := blk_frozen BK137.out 1
        have hns61_0 := NB136_137.out
        have hms61_0 := NB137_136.out
        refine skip_ (w1 := ?_) (by rfl) rfl ?_ ?_
        rotate_left
        ·go_simp
         rfl
        refine hK.out _ _ ⟨((cell_far (p := ⟨gb137, _, none⟩) NB136_137.out _).trans (((cell_far (p := ⟨gb137, _, none⟩) NB136_137.out _).trans (hHeld.1)))), ((cell_far (p := ⟨gb137, _, none⟩) NB136_137.out _).trans (((cell_far (p := ⟨gb137, _, none⟩) NB136_137.out _).trans (hHeld.2.1)))), ((cell_far (p := ⟨gb137, _, none⟩) (by first | exact Nat.ne_of_lt (Nat.lt_of_lt_of_le (by have := World.block_lt_of_cell? _ _ hw142_0; first | exact this) GW137.out) ) _).trans (((cell_far (p := ⟨gb137, _, none⟩) (by first | exact Nat.ne_of_lt (Nat.lt_of_lt_of_le (by have := World.block_lt_of_cell? _ _ hw142_0; first | exact this) GW137.out) ) _).trans (hHeld.2.2.1)))), ((cell_far (p := ⟨gb137, _, none⟩) (by first | exact Nat.ne_of_lt (Nat.lt_of_lt_of_le (by have := World.block_lt_of_cell? _ _ hw142_1; first | exact this) GW137.out) ) _).trans (((cell_far (p := ⟨gb137, _, none⟩) (by first | exact Nat.ne_of_lt (Nat.lt_of_lt_of_le (by have := World.block_lt_of_cell? _ _ hw142_1; first | exact this) GW137.out) ) _).trans (hHeld.2.2.2.1)))), ((cell_far (p := ⟨gb137, _, none⟩) (by first | exact Nat.ne_of_lt (Nat.lt_of_lt_of_le (by have := World.block_lt_of_cell? _ _ hw142_2; first | exact this) GW137.out) ) _).trans (((cell_far (p := ⟨gb137, _, none⟩) (by first | exact Nat.ne_of_lt (Nat.lt_of_lt_of_le (by have := World.block_lt_of_cell? _ _ hw142_2; first | exact this) GW137.out) ) _).trans (hHeld.2.2.2.2))))⟩ (fun hHeld => ?_)
        clear hK K
        refine pure_ (i := 13) (N := some 5) (v := ?_) (a' := ?_) #[true, true, true, true, true, true, true, true, true, true, true, true, true, true] rfl rfl (any_of HT_.out (by kernel_rfl)) (fun _ _ _ h => h) (Or.inl ⟨by rfl, ?_⟩) ?_ ?_
        rotate_left
        ·intro w'
         go_simp
         with_reducible rfl
        rotate_left
        ·simp only [Act.put, List.setIfInBounds_toArray, List.set_cons_zero, List.set_cons_succ, i64_w, i32_w]
         rfl
        refine done_ (done_of HT_.out (by kernel_rfl)) ?_
        try go_wp2
        refine bodyPost_ret (results_ct rfl _ _ gb137 24 #[.int .i64 t143, .slice Ao60 t144.length co60] (0, 0) _ rfl (by (with_reducible repeat (fail)); refine blk_put (cs := #[.int .i64 t143, .slice none 0 0]) ?_ 1 _ rfl; (with_reducible repeat (fail)); refine blk_put (cs := #[.int .i64 0, .slice none 0 0]) ?_ 0 _ rfl; (with_reducible repeat (fail)); exact BK137.out) Tryz.underlying24 rfl (by kernel_rfl)) rfl ?_
        exact ⟨_, by first | rfl , by (with_reducible repeat (fail)); exact Kd.R_mono (Kd.R_far (p := ⟨gb137, 1, none⟩) (Kd.R_far (p := ⟨gb137, 0, none⟩) (Kd.R_types HO146.out BK137.out (by decide)) (fun _ hk => hk.2) (.int .i64 t143)) (fun _ hk => hk.2) (.slice Ao60 t144.length co60)) (fun _ hk => trivial), by repeat (first | (with_reducible first | exact HB.out | refine below_set ?_ GE137.out) )⟩
    ·rw [if_neg c16] at H
     exact absurd H (by simp)
   ·rw [if_neg c15] at H
    exact absurd H (by simp)
 ·replace c5 := Bool.eq_false_iff.mpr c5
  subst c5
  have H1 : (none : Option _) = some (r1, r2, r3) := by rw [if_neg (show ¬ (false = true) by decide)] at H; exact H
  cases H1
end Go.Proofs.YtpdalofhekmbeaaGreatDoor.PViewKeeps
