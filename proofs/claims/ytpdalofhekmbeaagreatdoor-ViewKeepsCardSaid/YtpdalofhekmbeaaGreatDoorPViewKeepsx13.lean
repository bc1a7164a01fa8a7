-- Written by a program of this session over the kit's printer (with contracts of the session's own).
import Derived.Test.YtpdalofhekmbeaaGreatDoorPViewKeepsx0
import Derived.Test.YtpdalofhekmbeaaGreatDoorPViewKeepsx11
import Derived.Test.YtpdalofhekmbeaaGreatDoorPViewKeepsx12
namespace Go.Proofs.YtpdalofhekmbeaaGreatDoor.PViewKeeps
open Go.RowKit Go.Proofs.YtpdalofhekmbeaaGreatDoorW.PrintWords Go.Proofs.YtpdalofhekmbeaaGreatDoorW.PrintLast Go.Proofs.YtpdalofhekmbeaaGreatDoorW.PrintMore
attribute [local go_sem] max2_int min2_int max_two min_two max_three min_three max_four min_four   -- for this text's walks alone
set_option linter.unusedVariables false
set_option linter.unusedSimpArgs false

/-! ### caduceusref02_Fold: function 20 -/
def caduceusref02_Fold.l0 : Nat → List Int → ByteArray → Int → Option (ByteArray)
 | 0, _, _, _ => none
 | k + 1, x3, x4, x5 => if x5 < (x3.length : Int) then (if 0 ≤ x5 then ((caduceusref02_Small.f (rd x3 x5)).bind fun t280 => ((caduceusref02_Bytes.f t280).bind fun t281 => (if x4.size + t281.size ≤ 9223372036854775807 then (caduceusref02_Fold.l0 k x3 (x4 ++ t281) (wrap64 (x5 + 1))) else (none)))) else (none)) else (some x4)
def caduceusref02_Fold.f (k : Nat) (a0 : ByteArray) : Option (ByteArray) := (caduceusref02_Valid.f k a0).bind fun t275 => (if t275 = true then ((caduceusref02_Runes.f k a0).bind fun t276 => (caduceusref02_Fold.l0 k t276 (⟨#[]⟩ : ByteArray) 0)) else (some a0))
theorem caduceusref02_Fold.mono_l : ∀ k, (∀ y0 y1 y2, LeO (caduceusref02_Fold.l0 k y0 y1 y2) (caduceusref02_Fold.l0 (k + 1) y0 y1 y2))
 | 0 => fun _ _ _ r h => by simp [caduceusref02_Fold.l0] at h
 | k + 1 => by
  have ih0 := caduceusref02_Fold.mono_l k
  ·intro y0 y1 y2
   unfold caduceusref02_Fold.l0
   repeat' first
   | (with_reducible exact ih0 _ _ _)
   | (with_reducible exact LeO.refl _)
   | (with_reducible refine LeO.ite ?_ ?_)
   | (with_reducible refine LeO.bind ?_ (fun _ => ?_))

theorem caduceusref02_Fold.mono : ∀ a0 k, LeO (caduceusref02_Fold.f k a0) (caduceusref02_Fold.f (k + 1) a0) := by
 intro a0 k
 have ih0 := caduceusref02_Fold.mono_l k
 unfold caduceusref02_Fold.f
 repeat' first
   | (with_reducible exact ih0 _ _ _)
   | (with_reducible exact caduceusref02_Runes.mono _ _)
   | (with_reducible exact caduceusref02_Valid.mono _ _)
   | (with_reducible exact LeO.refl _)
   | (with_reducible refine LeO.ite ?_ ?_)
   | (with_reducible refine LeO.bind ?_ (fun _ => ?_))

set_option maxHeartbeats 8000000 in
set_option maxRecDepth 100000 in
theorem caduceusref02_Fold.calls (k : Nat) (a0 : ByteArray) (r : ByteArray) (w : World) (h : caduceusref02_Fold.f k a0 = some r) :
  Calls Tryz.prog 20 #[.string a0] w fun e w' => e = .returned (.string r) ∧ Below w.heap.size w w' := by
 have HB := Aside0.mk (Below.refl w.heap.size w)
 have H : ((caduceusref02_Valid.f k a0).bind fun t275 => (if t275 = true then ((caduceusref02_Runes.f k a0).bind fun t276 => (caduceusref02_Fold.l0 k t276 (⟨#[]⟩ : ByteArray) 0)) else (some a0))) = some r := h
 clear h
 replace H := Option.bind_eq_some_iff.mp H
 obtain ⟨t275, A20, H⟩ := H
 replace H : (if t275 = true then ((caduceusref02_Runes.f k a0).bind fun t276 => (caduceusref02_Fold.l0 k t276 (⟨#[]⟩ : ByteArray) 0)) else (some a0)) = some r := H
 have A2 := Aside0.mk A20
 clear A20
 by_cases c3 : t275 = true
 ·subst c3
  have H1 : ((caduceusref02_Runes.f k a0).bind fun t276 => (caduceusref02_Fold.l0 k t276 (⟨#[]⟩ : ByteArray) 0)) = some r := by rw [if_pos rfl] at H; exact H
  clear H
  have H := H1
  clear H1
  replace H := Option.bind_eq_some_iff.mp H
  obtain ⟨t276, A40, H⟩ := H
  replace H : (caduceusref02_Fold.l0 k t276 (⟨#[]⟩ : ByteArray) 0) = some r := H
  have A4 := Aside0.mk A40
  clear A40
  have H' := Aside0.mk H
  clear H
  go_enter Tryz.func20, Tryz.ntmps20
  go_wp2_with (first | ((with_reducible refine gate_callee (f := 36) rfl ?_); refine goesL_ (some 7) rfl rfl Tryz.func36 (by kernel_rfl) rfl #[.string a0] rfl (by (try simp only [List.map_toArray, List.map_cons, List.map_nil]); first | rfl ) ?_; (with_reducible refine (caduceusref02_Valid.calls k a0 true _ A2.out).mono ?_); rintro e w5 ⟨rfl, hb⟩; refine ⟨_, rfl, ?_⟩; have n0_ := Aside0.mk (below_step (by repeat (first | (with_reducible first | exact HB.out ) )) hb); clear HB; have HB := n0_; clear n0_; (try clear hb); (try clear hb2); (try clear hk); (try clear hi)) | ((with_reducible refine gate_callee (f := 37) rfl ?_); refine goesL_ (some 11) rfl rfl Tryz.func37 (by kernel_rfl) rfl #[.string a0] rfl (by (try simp only [List.map_toArray, List.map_cons, List.map_nil]); first | rfl ) ?_; (with_reducible refine (caduceusref02_Runes.calls k a0 t276 _ A4.out).mono ?_); rintro e w6 ⟨v277, rfl, ho0, hb⟩; refine ⟨_, rfl, ?_⟩; have n0_ := Aside0.mk (Kd.R_lower ho0 (below_size (by repeat (first | (with_reducible first | exact HB.out ) )))); have n1_ := Aside0.mk (below_step (by repeat (first | (with_reducible first | exact HB.out ) )) hb); clear HB; have HO278 := n0_; have HB := n1_; clear n0_ n1_; (try clear hb); (try clear hb2); (try clear hk); (try clear hi); (try clear ho0)))
  go_loopg [4, 5] k (fun kq v4 v5 w' => ∃ (x4_1 : ByteArray) (x5_1 : Int), v4 = .string x4_1 ∧ v5 = .int .i64 x5_1 ∧ Aside0 (caduceusref02_Fold.l0 kq t276 x4_1 x5_1 = some r) ∧ Aside0 (kq ≤ k) ∧ Aside0 (Kd.R (Kd.int .i64) 3 w' w.heap.size (fun _ => True) v277 t276) ∧ Aside0 (Below w.heap.size w w'))
  case atStart => exact ⟨((⟨#[]⟩ : ByteArray)), (0), (by first | rfl ), (by first | rfl ), H', ⟨Nat.le_refl _⟩, ⟨by (with_reducible repeat (fail)); exact HO278.out⟩, ⟨by repeat (first | (with_reducible first | exact HB.out ) )⟩⟩
  case round =>
   clear H'
   try clear c2
   try clear p2
   try clear c3
   obtain ⟨x4_1, x5_1, rfl, rfl, HA, HK1, HO_3, HB⟩ := hrel
   cases gk with
   | zero => exact absurd HA.out (by simp [caduceusref02_Fold.l0])
   | succ k1 =>
    have H := HA.out
    clear HA
    simp only [caduceusref02_Fold.l0] at H
    by_cases c7 : x5_1 < (t276.length : Int)
    ·rw [if_pos c7] at H
     have c7b0 : decide (x5_1 < (t276.length : Int)) = true := decide_eq_true c7
     clear c7
     by_cases c8 : 0 ≤ x5_1
     ·rw [if_pos c8] at H
      have c8b0 : decide (0 ≤ x5_1) = true := decide_eq_true c8
      clear c8
      replace H := Option.bind_eq_some_iff.mp H
      obtain ⟨t280, A90, H⟩ := H
      replace H : ((caduceusref02_Bytes.f t280).bind fun t281 => (if x4_1.size + t281.size ≤ 9223372036854775807 then (caduceusref02_Fold.l0 k1 t276 (x4_1 ++ t281) (wrap64 (x5_1 + 1))) else (none))) = some r := H
      have A9 := Aside0.mk A90
      clear A90
      replace H := Option.bind_eq_some_iff.mp H
      obtain ⟨t281, A100, H⟩ := H
      replace H : (if x4_1.size + t281.size ≤ 9223372036854775807 then (caduceusref02_Fold.l0 k1 t276 (x4_1 ++ t281) (wrap64 (x5_1 + 1))) else (none)) = some r := H
      have A10 := Aside0.mk A100
      clear A100
      by_cases c11 : x4_1.size + t281.size ≤ 9223372036854775807
      ·rw [if_pos c11] at H
       have c11b0 := eq_true c11
       have c11b1 : decide (x4_1.size + t281.size ≤ 9223372036854775807) = true := decide_eq_true c11
       try have c11b2 : (9223372036854775807 < x4_1.size + t281.size) = False := eq_false (Nat.not_lt.2 c11)
       have H' := Aside0.mk H
       clear H
       obtain ⟨Ao12, co12, eo12⟩ := Kd.R_slice HO_3.out
       subst eo12
       have p279 : 0 ≤ (x5_1 : Int) := of_decide_eq_true (by first | (with_reducible assumption) )
       have q279 : x5_1 < (t276.length : Int) := of_decide_eq_true (by first | (with_reducible assumption) )
       obtain ⟨ad279, e279, hx279_0⟩ := Kd.at_int (Kd.R_reads' HO_3.out).2.2 x5_1 p279 q279
       cases e279
       replace p279 := eq_true p279
       replace q279 := eq_true q279
       go_wp2_with (first | ((with_reducible refine gate_callee (f := 39) rfl ?_); refine goesL_ (some 23) rfl rfl Tryz.func39 (by kernel_rfl) rfl #[.int .i64 (rd t276 x5_1)] rfl (by (try simp only [List.map_toArray, List.map_cons, List.map_nil]); first | rfl ) ?_; (with_reducible refine (caduceusref02_Small.calls (rd t276 x5_1) t280 _ A9.out).mono ?_); rintro e w' ⟨rfl, ⟨nd, rfl⟩⟩; refine ⟨_, rfl, ?_⟩) | ((with_reducible refine gate_callee (f := 38) rfl ?_); refine goesL_ (some 24) rfl rfl Tryz.func38 (by kernel_rfl) rfl #[.int .i64 t280] rfl (by (try simp only [List.map_toArray, List.map_cons, List.map_nil]); first | rfl ) ?_; (with_reducible refine (caduceusref02_Bytes.calls t280 t281 _ A10.out).mono ?_); rintro e w13 ⟨rfl, hb⟩; refine ⟨_, rfl, ?_⟩; have n0_ := Aside0.mk (Kd.R_below (by (with_reducible repeat (first | apply Kd.R_drewN )); exact HO_3.out) hb); have n1_ := Aside0.mk (below_step (by repeat (first | (with_reducible first | exact HB.out | apply pw_below_drewN ) )) hb); clear HO_3; clear HB; have HO_3 := n0_; have HB := n1_; clear n0_ n1_; (try clear hb); (try clear hb2); (try clear hk); (try clear hi)))
       go_roundg k1
       case measure => have := HK1.out; omega
       case rel => exact ⟨(x4_1 ++ t281), (wrap64 (x5_1 + 1)), (by first | rfl ), (by first | rfl ), H', ⟨by have := HK1.out; omega⟩, ⟨by (with_reducible repeat (fail)); exact HO_3.out⟩, ⟨by repeat (first | (with_reducible first | exact HB.out ) )⟩⟩
      ·rw [if_neg c11] at H
       exact absurd H (by simp)
     ·rw [if_neg c8] at H
      exact absurd H (by simp)
    ·rw [if_neg c7] at H
     have c7b0 : decide (x5_1 < (t276.length : Int)) = false := decide_eq_false c7
     clear c7
     obtain rfl := Option.some.inj H
     obtain ⟨Ao14, co14, eo14⟩ := Kd.R_slice HO_3.out
     subst eo14
     go_wp2
     go_ret
     exact ⟨by first | rfl , by repeat (first | (with_reducible first | exact HB.out ) )⟩
 ·replace c3 := Bool.eq_false_iff.mpr c3
  subst c3
  have H1 : (some a0) = some r := by rw [if_neg (show ¬ (false = true) by decide)] at H; exact H
  clear H
  have H := H1
  clear H1
  obtain rfl := Option.some.inj H
  go_enter Tryz.func20, Tryz.ntmps20
  go_wp2_with (first | ((with_reducible refine gate_callee (f := 36) rfl ?_); refine goesL_ (some 7) rfl rfl Tryz.func36 (by kernel_rfl) rfl #[.string a0] rfl (by (try simp only [List.map_toArray, List.map_cons, List.map_nil]); first | rfl ) ?_; (with_reducible refine (caduceusref02_Valid.calls k a0 false _ A2.out).mono ?_); rintro e w15 ⟨rfl, hb⟩; refine ⟨_, rfl, ?_⟩; have n0_ := Aside0.mk (below_step (by repeat (first | (with_reducible first | exact HB.out ) )) hb); clear HB; have HB := n0_; clear n0_; (try clear hb); (try clear hb2); (try clear hk); (try clear hi)))
  go_ret
  exact ⟨by first | rfl , by repeat (first | (with_reducible first | exact HB.out ) )⟩

/-! ### caduceusref14_Check: function 28 -/
def caduceusref14_Check.l0 : Nat → Int → Int → List (S52) → Option (Bool)
 | 0, _, _, _ => none
 | k + 1, x3, x283000, x283001 => if x3 < (x283001.length : Int) then (if 0 ≤ x3 then (if ((rd_T52 x283001 x3).f0) < 1 then (some false) else (if ((rd_T52 x283001 x3).f0) > 15 then (some false) else (if x3 > 0 then (if 0 ≤ (wrap64 (x3 - 1)) then (if (wrap64 (x3 - 1)) < (x283001.length : Int) then (if ((rd_T52 x283001 x3).f0) ≤ ((rd_T52 x283001 (wrap64 (x3 - 1))).f0) then (some false) else (if ((rd_T52 x283001 x3).f1) < 1 then (some false) else (if ((rd_T52 x283001 x3).f1) > 1099511627775 then (some false) else (caduceusref14_Check.l0 k (wrap64 (x3 + 1)) x283000 x283001)))) else (none)) else (none)) else (if ((rd_T52 x283001 x3).f1) < 1 then (some false) else (if ((rd_T52 x283001 x3).f1) > 1099511627775 then (some false) else (caduceusref14_Check.l0 k (wrap64 (x3 + 1)) x283000 x283001)))))) else (none)) else (if (x283001.length : Int) > 0 then (if x283000 ≥ 1 then (some (decide (x283000 ≤ 1099511627775))) else (some false)) else (some false))
def caduceusref14_Check.f (k : Nat) (a0_0 : Int) (l0_1 : List (S52)) : Option (Bool) := caduceusref14_Check.l0 k 0 a0_0 l0_1
theorem caduceusref14_Check.mono_l : ∀ k, (∀ y0 y1 y2, LeO (caduceusref14_Check.l0 k y0 y1 y2) (caduceusref14_Check.l0 (k + 1) y0 y1 y2))
 | 0 => fun _ _ _ r h => by simp [caduceusref14_Check.l0] at h
 | k + 1 => by
  have ih0 := caduceusref14_Check.mono_l k
  ·intro y0 y1 y2
   unfold caduceusref14_Check.l0
   repeat' first
   | (with_reducible exact ih0 _ _ _)
   | (with_reducible exact LeO.refl _)
   | (with_reducible refine LeO.ite ?_ ?_)

theorem caduceusref14_Check.mono : ∀ a0 a1 k, LeO (caduceusref14_Check.f k a0 a1) (caduceusref14_Check.f (k + 1) a0 a1) := by
 intro a0 a1 k
 have ih0 := caduceusref14_Check.mono_l k
 unfold caduceusref14_Check.f
 repeat' first
   | (with_reducible exact ih0 _ _ _)

set_option maxHeartbeats 8000000 in
set_option maxRecDepth 100000 in
theorem caduceusref14_Check.calls (k : Nat) (a0_0 : Int) (A0_1 : Option Addr) (c0_1 : Nat) (l0_1 : List (S52)) (r : Bool) (w : World) (hr0_1 : Kd.C k52 w A0_1 l0_1.length l0_1) (hc0_1 : l0_1.length ≤ c0_1) (h : caduceusref14_Check.f k a0_0 l0_1 = some r) :
  Calls Tryz.prog 28 #[.agg #[.int .i64 a0_0, .slice A0_1 l0_1.length c0_1]] w fun e w' => e = .returned (.bool r) ∧ Below w.heap.size w w' := by
 have hu31 := Tryz.underlying31
 have hu52 := Tryz.underlying52
 have HR0_1 := Aside0.mk hr0_1
 have HC0_1 := Aside0.mk hc0_1
 clear hr0_1 hc0_1
 have HB := Aside0.mk (Below.refl w.heap.size w)
 have H : (caduceusref14_Check.l0 k 0 a0_0 l0_1) = some r := h
 clear h
 have H' := Aside0.mk H
 clear H
 go_enter Tryz.func28, Tryz.ntmps28
 go_wp2_with (first | ((with_reducible refine gate_dst (N := 1) rfl ?_); refine box_event ?hg (N := 1) ?hd (cs := #[.int .i64 a0_0, .slice A0_1 l0_1.length c0_1]) (t := 31) ?hr ?_; (case hd => rfl); (case hg => rfl); (case hr => first | (go_simp; done) ); intro gb282 hg w2 hbox hb; have n0_ := Aside0.mk (below_step (by repeat (first | (with_reducible first | exact HB.out ) )) hb); have n1_ := Aside0.mk (hbox); have n2_ := Aside0.mk ((by rw [hg]; exact (below_size (by repeat (first | (with_reducible first | exact HB.out ) ))) : w.heap.size ≤ gb282)); have n3_ := Aside0.mk ((by rw [hg]; exact (below_size (by repeat (first | (with_reducible first | exact HB.out ) ))) : w.heap.size ≤ gb282)); clear HB; have HB := n0_; have BK282 := n1_; have GW282 := n2_; have GE282 := n3_; clear n0_ n1_ n2_ n3_; clear hb hbox hg))
 go_loopg [3] k (fun kq v3 w' => ∃ (x3_1 : Int), v3 = .int .i64 x3_1 ∧ Aside0 (caduceusref14_Check.l0 kq x3_1 a0_0 l0_1 = some r) ∧ Aside0 (kq ≤ k) ∧ Aside0 (w'.heap[gb282]? = some (.cells #[.int .i64 a0_0, (.slice A0_1 l0_1.length c0_1)] 31 (0, 0))) ∧ Aside0 (Below w.heap.size w w'))
 case atStart => exact ⟨(0), (by first | rfl ), H', ⟨Nat.le_refl _⟩, ⟨by (with_reducible repeat (fail)); exact BK282.out⟩, ⟨by repeat (first | (with_reducible first | exact HB.out ) )⟩⟩
 case round =>
  clear H'
  try clear c2
  try clear p2
  obtain ⟨x3_1, rfl, HA, HK1, BK282, HB⟩ := hrel
  cases gk with
  | zero => exact absurd HA.out (by simp [caduceusref14_Check.l0])
  | succ k1 =>
   have H := HA.out
   clear HA
   simp only [caduceusref14_Check.l0] at H
   by_cases c3 : x3_1 < (l0_1.length : Int)
   ·rw [if_pos c3] at H
    have c3b0 : decide (x3_1 < (l0_1.length : Int)) = true := decide_eq_true c3
    clear c3
    by_cases c4 : 0 ≤ x3_1
    ·rw [if_pos c4] at H
     have c4b0 : decide (0 ≤ x3_1) = true := decide_eq_true c4
     clear c4
     by_cases c5 : ((rd_T52 l0_1 x3_1).f0) < 1
     ·rw [if_pos c5] at H
      have c5b0 : decide (((rd_T52 l0_1 x3_1).f0) < 1) = true := decide_eq_true c5
      clear c5
      obtain rfl := Option.some.inj H
      have hcz6_0 : wr.cell? ⟨gb282, 0, none⟩ = some (.int .i64 a0_0) := (blk_cell BK282.out 0).trans rfl
      have hcz6_1 : wr.cell? ⟨gb282, 1, none⟩ = some (.slice A0_1 l0_1.length c0_1) := (blk_cell BK282.out 1).trans rfl
      have hfz6_0 := blk_frozen BK282.out 0
      have hfz6_1 := blk_frozen BK282.out 1
      have p283 : 0 ≤ (x3_1 : Int) := of_decide_eq_true (by first | (with_reducible assumption) )
      have q283 : x3_1 < (l0_1.length : Int) := of_decide_eq_true (by first | (with_reducible assumption) )
      obtain ⟨ad283, e283, hx283_0, hx283_1, hx283_2⟩ := at_T52 HR0_1.out x3_1 p283 q283
      cases e283
      replace hx283_0 := (HB.out.cell (World.block_lt_of_cell? w _ hx283_0)).trans hx283_0
      replace hx283_1 := (HB.out.cell (World.block_lt_of_cell? w _ hx283_1)).trans hx283_1
      replace hx283_2 := (HB.out.cell (World.block_lt_of_cell? w _ hx283_2)).trans hx283_2
      replace p283 := eq_true p283
      replace q283 := eq_true q283
      go_wp2_with (first | ((with_reducible refine gate_dst (N := 4) rfl ?_); refine box_event ?hg (N := 4) ?hd (cs := #[.int .i64 0, .int .i64 0, .bool false]) (t := 52) ?hr ?_; (case hd => rfl); (case hg => rfl); (case hr => first | (go_simp; done) ); intro gb284 hg w7 hbox hb; have n0_ := Aside0.mk (blk_below (g := gb282) (o := .cells #[.int .i64 a0_0, .slice (some ad283) l0_1.length c0_1] 31 (0, 0)) (by (with_reducible repeat (fail)); exact BK282.out) hb); have n1_ := Aside0.mk (below_step (by repeat (first | (with_reducible first | exact HB.out ) )) hb); have n2_ := Aside0.mk (hbox); have n3_ := Aside0.mk ((by rw [hg]; exact (below_size (by repeat (first | (with_reducible first | exact HB.out ) ))) : w.heap.size ≤ gb284)); have n4_ := Aside0.mk ((by rw [hg]; exact (below_size (by repeat (first | (with_reducible first | exact HB.out ) ))) : w.heap.size ≤ gb284)); have n5_ := Aside0.mk ((by rw [hg]; exact Nat.ne_of_lt (blk_lt (g := gb282) (o := .cells #[.int .i64 a0_0, .slice (some ad283) l0_1.length c0_1] 31 (0, 0)) (by (with_reducible repeat (fail)); exact BK282.out)) : gb282 ≠ gb284)); have n6_ := Aside0.mk ((by rw [hg]; exact Nat.ne_of_gt (blk_lt (g := gb282) (o := .cells #[.int .i64 a0_0, .slice (some ad283) l0_1.length c0_1] 31 (0, 0)) (by (with_reducible repeat (fail)); exact BK282.out)) : gb284 ≠ gb282)); clear BK282; clear HB; have BK282 := n0_; have HB := n1_; have BK284 := n2_; have GW284 := n3_; have GE284 := n4_; have NB282_284 := n5_; have NB284_282 := n6_; clear n0_ n1_ n2_ n3_ n4_ n5_ n6_; clear hb hbox hg; have hnb8 := NB284_282.out; have hnc8 := NB282_284.out; have hcz9_0 : w7.cell? ⟨gb284, 0, none⟩ = some (.int .i64 0) := (blk_cell BK284.out 0).trans rfl; have hcz9_1 : w7.cell? ⟨gb284, 1, none⟩ = some (.int .i64 0) := (blk_cell BK284.out 1).trans rfl; have hcz9_2 : w7.cell? ⟨gb284, 2, none⟩ = some (.bool false) := (blk_cell BK284.out 2).trans rfl; have hfz9_0 := blk_frozen BK284.out 0; have hfz9_1 := blk_frozen BK284.out 1; have hfz9_2 := blk_frozen BK284.out 2))
      repeat (go_quiet (fail); try go_wp2)
      go_ret
      exact ⟨by first | rfl , by repeat (first | (with_reducible first | exact HB.out | apply pw_below_drewN | refine below_set ?_ GE284.out) )⟩
     ·rw [if_neg c5] at H
      have c5b0 : decide (((rd_T52 l0_1 x3_1).f0) < 1) = false := decide_eq_false c5
      clear c5
      by_cases c10 : ((rd_T52 l0_1 x3_1).f0) > 15
      ·rw [if_pos c10] at H
       have c10b0 : decide (15 < ((rd_T52 l0_1 x3_1).f0)) = true := decide_eq_true c10
       clear c10
       obtain rfl := Option.some.inj H
       have hcz11_0 : wr.cell? ⟨gb282, 0, none⟩ = some (.int .i64 a0_0) := (blk_cell BK282.out 0).trans rfl
       have hcz11_1 : wr.cell? ⟨gb282, 1, none⟩ = some (.slice A0_1 l0_1.length c0_1) := (blk_cell BK282.out 1).trans rfl
       have hfz11_0 := blk_frozen BK282.out 0
       have hfz11_1 := blk_frozen BK282.out 1
       have p283 : 0 ≤ (x3_1 : Int) := of_decide_eq_true (by first | (with_reducible assumption) )
       have q283 : x3_1 < (l0_1.length : Int) := of_decide_eq_true (by first | (with_reducible assumption) )
       obtain ⟨ad283, e283, hx283_0, hx283_1, hx283_2⟩ := at_T52 HR0_1.out x3_1 p283 q283
       cases e283
       replace hx283_0 := (HB.out.cell (World.block_lt_of_cell? w _ hx283_0)).trans hx283_0
       replace hx283_1 := (HB.out.cell (World.block_lt_of_cell? w _ hx283_1)).trans hx283_1
       replace hx283_2 := (HB.out.cell (World.block_lt_of_cell? w _ hx283_2)).trans hx283_2
       replace p283 := eq_true p283
       replace q283 := eq_true q283
       go_wp2_with (first | ((with_reducible refine gate_dst (N := 4) rfl ?_); refine box_event ?hg (N := 4) ?hd (cs := #[.int .i64 0, .int .i64 0, .bool false]) (t := 52) ?hr ?_; (case hd => rfl); (case hg => rfl); (case hr => first | (go_simp; done) ); intro gb284 hg w12 hbox hb; have n0_ := Aside0.mk (blk_below (g := gb282) (o := .cells #[.int .i64 a0_0, .slice (some ad283) l0_1.length c0_1] 31 (0, 0)) (by (with_reducible repeat (fail)); exact BK282.out) hb); have n1_ := Aside0.mk (below_step (by repeat (first | (with_reducible first | exact HB.out ) )) hb); have n2_ := Aside0.mk (hbox); have n3_ := Aside0.mk ((by rw [hg]; exact (below_size (by repeat (first | (with_reducible first | exact HB.out ) ))) : w.heap.size ≤ gb284)); have n4_ := Aside0.mk ((by rw [hg]; exact (below_size (by repeat (first | (with_reducible first | exact HB.out ) ))) : w.heap.size ≤ gb284)); have n5_ := Aside0.mk ((by rw [hg]; exact Nat.ne_of_lt (blk_lt (g := gb282) (o := .cells #[.int .i64 a0_0, .slice (some ad283) l0_1.length c0_1] 31 (0, 0)) (by (with_reducible repeat (fail)); exact BK282.out)) : gb282 ≠ gb284)); have n6_ := Aside0.mk ((by rw [hg]; exact Nat.ne_of_gt (blk_lt (g := gb282) (o := .cells #[.int .i64 a0_0, .slice (some ad283) l0_1.length c0_1] 31 (0, 0)) (by (with_reducible repeat (fail)); exact BK282.out)) : gb284 ≠ gb282)); clear BK282; clear HB; have BK282 := n0_; have HB := n1_; have BK284 := n2_; have GW284 := n3_; have GE284 := n4_; have NB282_284 := n5_; have NB284_282 := n6_; clear n0_ n1_ n2_ n3_ n4_ n5_ n6_; clear hb hbox hg; have hnb13 := NB284_282.out; have hnc13 := NB282_284.out; have hcz14_0 : w12.cell? ⟨gb284, 0, none⟩ = some (.int .i64 0) := (blk_cell BK284.out 0).trans rfl; have hcz14_1 : w12.cell? ⟨gb284, 1, none⟩ = some (.int .i64 0) := (blk_cell BK284.out 1).trans rfl; have hcz14_2 : w12.cell? ⟨gb284, 2, none⟩ = some (.bool false) := (blk_cell BK284.out 2).trans rfl; have hfz14_0 := blk_frozen BK284.out 0; have hfz14_1 := blk_frozen BK284.out 1; have hfz14_2 := blk_frozen BK284.out 2))
       repeat (go_quiet (fail); try go_wp2)
       go_ret
       exact ⟨by first | rfl , by repeat (first | (with_reducible first | exact HB.out | apply pw_below_drewN | refine below_set ?_ GE284.out) )⟩
      ·rw [if_neg c10] at H
       have c10b0 : decide (15 < ((rd_T52 l0_1 x3_1).f0)) = false := decide_eq_false c10
       clear c10
       by_cases c15 : x3_1 > 0
       ·rw [if_pos c15] at H
        have c15b0 : decide (0 < x3_1) = true := decide_eq_true c15
        clear c15
        obtain ⟨ji16, hji16⟩ : ∃ j_ : Int, (wrap64 (x3_1 - 1)) = j_ := ⟨_, rfl⟩
        replace H : (if 0 ≤ (ji16) then (if (ji16) < (l0_1.length : Int) then (if ((rd_T52 l0_1 x3_1).f0) ≤ ((rd_T52 l0_1 (ji16)).f0) then (some false) else (if ((rd_T52 l0_1 x3_1).f1) < 1 then (some false) else (if ((rd_T52 l0_1 x3_1).f1) > 1099511627775 then (some false) else (caduceusref14_Check.l0 k1 (wrap64 (x3_1 + 1)) a0_0 l0_1)))) else (none)) else (none)) = some r := by first | (rw [hji16] at H; exact H)
        have hji16w : (IntKind.i64.wrap (x3_1 - 1)) = ji16 := (i64_w _).trans hji16
        by_cases c17 : 0 ≤ (ji16)
        ·rw [if_pos c17] at H
         have c17b0 : decide (0 ≤ (ji16)) = true := decide_eq_true c17
         clear c17
         by_cases c18 : (ji16) < (l0_1.length : Int)
         ·rw [if_pos c18] at H
          have c18b0 : decide ((ji16) < (l0_1.length : Int)) = true := decide_eq_true c18
          clear c18
          by_cases c19 : ((rd_T52 l0_1 x3_1).f0) ≤ ((rd_T52 l0_1 (ji16)).f0)
          ·rw [if_pos c19] at H
           have c19b0 : decide (((rd_T52 l0_1 x3_1).f0) ≤ ((rd_T52 l0_1 (ji16)).f0)) = true := decide_eq_true c19
           clear c19
           obtain rfl := Option.some.inj H
           have hcz20_0 : wr.cell? ⟨gb282, 0, none⟩ = some (.int .i64 a0_0) := (blk_cell BK282.out 0).trans rfl
           have hcz20_1 : wr.cell? ⟨gb282, 1, none⟩ = some (.slice A0_1 l0_1.length c0_1) := (blk_cell BK282.out 1).trans rfl
           have hfz20_0 := blk_frozen BK282.out 0
           have hfz20_1 := blk_frozen BK282.out 1
           have p283 : 0 ≤ (x3_1 : Int) := of_decide_eq_true (by first | (with_reducible assumption) )
           have q283 : x3_1 < (l0_1.length : Int) := of_decide_eq_true (by first | (with_reducible assumption) )
           obtain ⟨ad283, e283, hx283_0, hx283_1, hx283_2⟩ := at_T52 HR0_1.out x3_1 p283 q283
           cases e283
           replace hx283_0 := (HB.out.cell (World.block_lt_of_cell? w _ hx283_0)).trans hx283_0
           replace hx283_1 := (HB.out.cell (World.block_lt_of_cell? w _ hx283_1)).trans hx283_1
           replace hx283_2 := (HB.out.cell (World.block_lt_of_cell? w _ hx283_2)).trans hx283_2
           replace p283 := eq_true p283
           replace q283 := eq_true q283
           go_wp2_with (first | ((with_reducible refine gate_dst (N := 4) rfl ?_); refine box_event ?hg (N := 4) ?hd (cs := #[.int .i64 0, .int .i64 0, .bool false]) (t := 52) ?hr ?_; (case hd => rfl); (case hg => rfl); (case hr => first | (go_simp; done) ); intro gb284 hg w21 hbox hb; have n0_ := Aside0.mk (blk_below (g := gb282) (o := .cells #[.int .i64 a0_0, .slice (some ad283) l0_1.length c0_1] 31 (0, 0)) (by (with_reducible repeat (fail)); exact BK282.out) hb); have n1_ := Aside0.mk (below_step (by repeat (first | (with_reducible first | exact HB.out ) )) hb); have n2_ := Aside0.mk (hbox); have n3_ := Aside0.mk ((by rw [hg]; exact (below_size (by repeat (first | (with_reducible first | exact HB.out ) ))) : w.heap.size ≤ gb284)); have n4_ := Aside0.mk ((by rw [hg]; exact (below_size (by repeat (first | (with_reducible first | exact HB.out ) ))) : w.heap.size ≤ gb284)); have n5_ := Aside0.mk ((by rw [hg]; exact Nat.ne_of_lt (blk_lt (g := gb282) (o := .cells #[.int .i64 a0_0, .slice (some ad283) l0_1.length c0_1] 31 (0, 0)) (by (with_reducible repeat (fail)); exact BK282.out)) : gb282 ≠ gb284)); have n6_ := Aside0.mk ((by rw [hg]; exact Nat.ne_of_gt (blk_lt (g := gb282) (o := .cells #[.int .i64 a0_0, .slice (some ad283) l0_1.length c0_1] 31 (0, 0)) (by (with_reducible repeat (fail)); exact BK282.out)) : gb284 ≠ gb282)); clear BK282; clear HB; have BK282 := n0_; have HB := n1_; have BK284 := n2_; have GW284 := n3_; have GE284 := n4_; have NB282_284 := n5_; have NB284_282 := n6_; clear n0_ n1_ n2_ n3_ n4_ n5_ n6_; clear hb hbox hg; have hnb22 := NB284_282.out; have hnc22 := NB282_284.out; have hcz23_0 : w21.cell? ⟨gb284, 0, none⟩ = some (.int .i64 0) := (blk_cell BK284.out 0).trans rfl; have hcz23_1 : w21.cell? ⟨gb284, 1, none⟩ = some (.int .i64 0) := (blk_cell BK284.out 1).trans rfl; have hcz23_2 : w21.cell? ⟨gb284, 2, none⟩ = some (.bool false) := (blk_cell BK284.out 2).trans rfl; have hfz23_0 := blk_frozen BK284.out 0; have hfz23_1 := blk_frozen BK284.out 1; have hfz23_2 := blk_frozen BK284.out 2; have hcz24_0 : w21.cell? ⟨gb282, 0, none⟩ = some (.int .i64 a0_0) := (blk_cell BK282.out 0).trans rfl; have hcz24_1 : w21.cell? ⟨gb282, 1, none⟩ = some (.slice (some ad283) l0_1.length c0_1) := (blk_cell BK282.out 1).trans rfl; have hfz24_0 := blk_frozen BK282.out 0; have hfz24_1 := blk_frozen BK282.out 1; have p285 : 0 ≤ ((ji16) : Int) := of_decide_eq_true (by first | (with_reducible assumption) ); have q285 : (ji16) < (l0_1.length : Int) := of_decide_eq_true (by first | (with_reducible assumption) ); obtain ⟨ad285, e285, hx285_0, hx285_1, hx285_2⟩ := at_T52 HR0_1.out (ji16) p285 q285; obtain rfl : ad283 = ad285 := (by injection e285); have hn285_0 : ad283.block ≠ gb284 := Nat.ne_of_lt (Nat.lt_of_lt_of_le (by have := World.block_lt_of_cell? _ _ hx285_0; first | rwa [add_block] at this ) GW284.out); have hn285_1 : ad283.block ≠ gb284 := Nat.ne_of_lt (Nat.lt_of_lt_of_le (by have := World.block_lt_of_cell? _ _ hx285_0; first | rwa [add_block] at this ) GW284.out); have hn285_2 : ad283.block ≠ gb284 := Nat.ne_of_lt (Nat.lt_of_lt_of_le (by have := World.block_lt_of_cell? _ _ hx285_0; first | rwa [add_block] at this ) GW284.out); replace hx285_0 := (HB.out.cell (World.block_lt_of_cell? w _ hx285_0)).trans hx285_0; replace hx285_1 := (HB.out.cell (World.block_lt_of_cell? w _ hx285_1)).trans hx285_1; replace hx285_2 := (HB.out.cell (World.block_lt_of_cell? w _ hx285_2)).trans hx285_2; replace hx285_0 := (cell_far (p := ⟨gb284, 0, none⟩) (by first | (rw [add_block]; exact hn285_0) ) (.int .i64 ((rd_T52 l0_1 x3_1).f0))).trans hx285_0; replace hx285_1 := (cell_far (p := ⟨gb284, 0, none⟩) (by first | (rw [add_block]; exact hn285_0) ) (.int .i64 ((rd_T52 l0_1 x3_1).f0))).trans hx285_1; replace hx285_2 := (cell_far (p := ⟨gb284, 0, none⟩) (by first | (rw [add_block]; exact hn285_0) ) (.int .i64 ((rd_T52 l0_1 x3_1).f0))).trans hx285_2; replace hx285_0 := (cell_far (p := ⟨gb284, 1, none⟩) (by first | (rw [add_block]; exact hn285_1) ) (.int .i64 ((rd_T52 l0_1 x3_1).f1))).trans hx285_0; replace hx285_1 := (cell_far (p := ⟨gb284, 1, none⟩) (by first | (rw [add_block]; exact hn285_1) ) (.int .i64 ((rd_T52 l0_1 x3_1).f1))).trans hx285_1; replace hx285_2 := (cell_far (p := ⟨gb284, 1, none⟩) (by first | (rw [add_block]; exact hn285_1) ) (.int .i64 ((rd_T52 l0_1 x3_1).f1))).trans hx285_2; replace hx285_0 := (cell_far (p := ⟨gb284, 2, none⟩) (by first | (rw [add_block]; exact hn285_2) ) (.bool ((rd_T52 l0_1 x3_1).f2))).trans hx285_0; replace hx285_1 := (cell_far (p := ⟨gb284, 2, none⟩) (by first | (rw [add_block]; exact hn285_2) ) (.bool ((rd_T52 l0_1 x3_1).f2))).trans hx285_1; replace hx285_2 := (cell_far (p := ⟨gb284, 2, none⟩) (by first | (rw [add_block]; exact hn285_2) ) (.bool ((rd_T52 l0_1 x3_1).f2))).trans hx285_2; (try have hy285_0 := fun (n_ : Nat) => (show (((((w21.drewN n_).setCell ⟨gb284, 0, none⟩ (.int .i64 ((rd_T52 l0_1 x3_1).f0))).setCell ⟨gb284, 1, none⟩ (.int .i64 ((rd_T52 l0_1 x3_1).f1))).setCell ⟨gb284, 2, none⟩ (.bool ((rd_T52 l0_1 x3_1).f2)))).cell? _ = some _ from hx285_0)); (try have hy285_1 := fun (n_ : Nat) => (show (((((w21.drewN n_).setCell ⟨gb284, 0, none⟩ (.int .i64 ((rd_T52 l0_1 x3_1).f0))).setCell ⟨gb284, 1, none⟩ (.int .i64 ((rd_T52 l0_1 x3_1).f1))).setCell ⟨gb284, 2, none⟩ (.bool ((rd_T52 l0_1 x3_1).f2)))).cell? _ = some _ from hx285_1)); (try have hy285_2 := fun (n_ : Nat) => (show (((((w21.drewN n_).setCell ⟨gb284, 0, none⟩ (.int .i64 ((rd_T52 l0_1 x3_1).f0))).setCell ⟨gb284, 1, none⟩ (.int .i64 ((rd_T52 l0_1 x3_1).f1))).setCell ⟨gb284, 2, none⟩ (.bool ((rd_T52 l0_1 x3_1).f2)))).cell? _ = some _ from hx285_2)); clear hn285_0; clear hn285_1; clear hn285_2; replace p285 := eq_true p285; replace q285 := eq_true q285))
           repeat (go_quiet (fail); try go_wp2)
           go_ret
           exact ⟨by first | rfl , by repeat (first | (with_reducible first | exact HB.out | apply pw_below_drewN | refine below_set ?_ GE284.out) )⟩
          ·rw [if_neg c19] at H
           have c19b0 : decide (((rd_T52 l0_1 x3_1).f0) ≤ ((rd_T52 l0_1 (ji16)).f0)) = false := decide_eq_false c19
           clear c19
           by_cases c25 : ((rd_T52 l0_1 x3_1).f1) < 1
           ·rw [if_pos c25] at H
            have c25b0 : decide (((rd_T52 l0_1 x3_1).f1) < 1) = true := decide_eq_true c25
            clear c25
            obtain rfl := Option.some.inj H
            have hcz26_0 : wr.cell? ⟨gb282, 0, none⟩ = some (.int .i64 a0_0) := (blk_cell BK282.out 0).trans rfl
            have hcz26_1 : wr.cell? ⟨gb282, 1, none⟩ = some (.slice A0_1 l0_1.length c0_1) := (blk_cell BK282.out 1).trans rfl
            have hfz26_0 := blk_frozen BK282.out 0
            have hfz26_1 := blk_frozen BK282.out 1
            have p283 : 0 ≤ (x3_1 : Int) := of_decide_eq_true (by first | (with_reducible assumption) )
            have q283 : x3_1 < (l0_1.length : Int) := of_decide_eq_true (by first | (with_reducible assumption) )
            obtain ⟨ad283, e283, hx283_0, hx283_1, hx283_2⟩ := at_T52 HR0_1.out x3_1 p283 q283
            cases e283
            replace hx283_0 := (HB.out.cell (World.block_lt_of_cell? w _ hx283_0)).trans hx283_0
            replace hx283_1 := (HB.out.cell (World.block_lt_of_cell? w _ hx283_1)).trans hx283_1
            replace hx283_2 := (HB.out.cell (World.block_lt_of_cell? w _ hx283_2)).trans hx283_2
            replace p283 := eq_true p283
            replace q283 := eq_true q283
            go_wp2_with (first | ((with_reducible refine gate_dst (N := 4) rfl ?_); refine box_event ?hg (N := 4) ?hd (cs := #[.int .i64 0, .int .i64 0, .bool false]) (t := 52) ?hr ?_; (case hd => rfl); (case hg => rfl); (case hr => first | (go_simp; done) ); intro gb284 hg w27 hbox hb; have n0_ := Aside0.mk (blk_below (g := gb282) (o := .cells #[.int .i64 a0_0, .slice (some ad283) l0_1.length c0_1] 31 (0, 0)) (by (with_reducible repeat (fail)); exact BK282.out) hb); have n1_ := Aside0.mk (below_step (by repeat (first | (with_reducible first | exact HB.out ) )) hb); have n2_ := Aside0.mk (hbox); have n3_ := Aside0.mk ((by rw [hg]; exact (below_size (by repeat (first | (with_reducible first | exact HB.out ) ))) : w.heap.size ≤ gb284)); have n4_ := Aside0.mk ((by rw [hg]; exact (below_size (by repeat (first | (with_reducible first | exact HB.out ) ))) : w.heap.size ≤ gb284)); have n5_ := Aside0.mk ((by rw [hg]; exact Nat.ne_of_lt (blk_lt (g := gb282) (o := .cells #[.int .i64 a0_0, .slice (some ad283) l0_1.length c0_1] 31 (0, 0)) (by (with_reducible repeat (fail)); exact BK282.out)) : gb282 ≠ gb284)); have n6_ := Aside0.mk ((by rw [hg]; exact Nat.ne_of_gt (blk_lt (g := gb282) (o := .cells #[.int .i64 a0_0, .slice (some ad283) l0_1.length c0_1] 31 (0, 0)) (by (with_reducible repeat (fail)); exact BK282.out)) : gb284 ≠ gb282)); clear BK282; clear HB; have BK282 := n0_; have HB := n1_; have BK284 := n2_; have GW284 := n3_; have GE284 := n4_; have NB282_284 := n5_; have NB284_282 := n6_; clear n0_ n1_ n2_ n3_ n4_ n5_ n6_; clear hb hbox hg; have hnb28 := NB284_282.out; have hnc28 := NB282_284.out; have hcz29_0 : w27.cell? ⟨gb284, 0, none⟩ = some (.int .i64 0) := (blk_cell BK284.out 0).trans rfl; have hcz29_1 : w27.cell? ⟨gb284, 1, none⟩ = some (.int .i64 0) := (blk_cell BK284.out 1).trans rfl; have hcz29_2 : w27.cell? ⟨gb284, 2, none⟩ = some (.bool false) := (blk_cell BK284.out 2).trans rfl; have hfz29_0 := blk_frozen BK284.out 0; have hfz29_1 := blk_frozen BK284.out 1; have hfz29_2 := blk_frozen BK284.out 2; have hcz30_0 : w27.cell? ⟨gb282, 0, none⟩ = some (.int .i64 a0_0) := (blk_cell BK282.out 0).trans rfl; have hcz30_1 : w27.cell? ⟨gb282, 1, none⟩ = some (.slice (some ad283) l0_1.length c0_1) := (blk_cell BK282.out 1).trans rfl; have hfz30_0 := blk_frozen BK282.out 0; have hfz30_1 := blk_frozen BK282.out 1; have p285 : 0 ≤ ((ji16) : Int) := of_decide_eq_true (by first | (with_reducible assumption) ); have q285 : (ji16) < (l0_1.length : Int) := of_decide_eq_true (by first | (with_reducible assumption) ); obtain ⟨ad285, e285, hx285_0, hx285_1, hx285_2⟩ := at_T52 HR0_1.out (ji16) p285 q285; obtain rfl : ad283 = ad285 := (by injection e285); have hn285_0 : ad283.block ≠ gb284 := Nat.ne_of_lt (Nat.lt_of_lt_of_le (by have := World.block_lt_of_cell? _ _ hx285_0; first | rwa [add_block] at this ) GW284.out); have hn285_1 : ad283.block ≠ gb284 := Nat.ne_of_lt (Nat.lt_of_lt_of_le (by have := World.block_lt_of_cell? _ _ hx285_0; first | rwa [add_block] at this ) GW284.out); have hn285_2 : ad283.block ≠ gb284 := Nat.ne_of_lt (Nat.lt_of_lt_of_le (by have := World.block_lt_of_cell? _ _ hx285_0; first | rwa [add_block] at this ) GW284.out); replace hx285_0 := (HB.out.cell (World.block_lt_of_cell? w _ hx285_0)).trans hx285_0; replace hx285_1 := (HB.out.cell (World.block_lt_of_cell? w _ hx285_1)).trans hx285_1; replace hx285_2 := (HB.out.cell (World.block_lt_of_cell? w _ hx285_2)).trans hx285_2; replace hx285_0 := (cell_far (p := ⟨gb284, 0, none⟩) (by first | (rw [add_block]; exact hn285_0) ) (.int .i64 ((rd_T52 l0_1 x3_1).f0))).trans hx285_0; replace hx285_1 := (cell_far (p := ⟨gb284, 0, none⟩) (by first | (rw [add_block]; exact hn285_0) ) (.int .i64 ((rd_T52 l0_1 x3_1).f0))).trans hx285_1; replace hx285_2 := (cell_far (p := ⟨gb284, 0, none⟩) (by first | (rw [add_block]; exact hn285_0) ) (.int .i64 ((rd_T52 l0_1 x3_1).f0))).trans hx285_2; replace hx285_0 := (cell_far (p := ⟨gb284, 1, none⟩) (by first | (rw [add_block]; exact hn285_1) ) (.int .i64 ((rd_T52 l0_1 x3_1).f1))).trans hx285_0; replace hx285_1 := (cell_far (p := ⟨gb284, 1, none⟩) (by first | (rw [add_block]; exact hn285_1) ) (.int .i64 ((rd_T52 l0_1 x3_1).f1))).trans hx285_1; replace hx285_2 := (cell_far (p := ⟨gb284, 1, none⟩) (by first | (rw [add_block]; exact hn285_1) ) (.int .i64 ((rd_T52 l0_1 x3_1).f1))).trans hx285_2; replace hx285_0 := (cell_far (p := ⟨gb284, 2, none⟩) (by first | (rw [add_block]; exact hn285_2) ) (.bool ((rd_T52 l0_1 x3_1).f2))).trans hx285_0; replace hx285_1 := (cell_far (p := ⟨gb284, 2, none⟩) (by first | (rw [add_block]; exact hn285_2) ) (.bool ((rd_T52 l0_1 x3_1).f2))).trans hx285_1; replace hx285_2 := (cell_far (p := ⟨gb284, 2, none⟩) (by first | (rw [add_block]; exact hn285_2) ) (.bool ((rd_T52 l0_1 x3_1).f2))).trans hx285_2; (try have hy285_0 := fun (n_ : Nat) => (show (((((w27.drewN n_).setCell ⟨gb284, 0, none⟩ (.int .i64 ((rd_T52 l0_1 x3_1).f0))).setCell ⟨gb284, 1, none⟩ (.int .i64 ((rd_T52 l0_1 x3_1).f1))).setCell ⟨gb284, 2, none⟩ (.bool ((rd_T52 l0_1 x3_1).f2)))).cell? _ = some _ from hx285_0)); (try have hy285_1 := fun (n_ : Nat) => (show (((((w27.drewN n_).setCell ⟨gb284, 0, none⟩ (.int .i64 ((rd_T52 l0_1 x3_1).f0))).setCell ⟨gb284, 1, none⟩ (.int .i64 ((rd_T52 l0_1 x3_1).f1))).setCell ⟨gb284, 2, none⟩ (.bool ((rd_T52 l0_1 x3_1).f2)))).cell? _ = some _ from hx285_1)); (try have hy285_2 := fun (n_ : Nat) => (show (((((w27.drewN n_).setCell ⟨gb284, 0, none⟩ (.int .i64 ((rd_T52 l0_1 x3_1).f0))).setCell ⟨gb284, 1, none⟩ (.int .i64 ((rd_T52 l0_1 x3_1).f1))).setCell ⟨gb284, 2, none⟩ (.bool ((rd_T52 l0_1 x3_1).f2)))).cell? _ = some _ from hx285_2)); clear hn285_0; clear hn285_1; clear hn285_2; replace p285 := eq_true p285; replace q285 := eq_true q285))
            repeat (go_quiet (fail); try go_wp2)
            go_ret
            exact ⟨by first | rfl , by repeat (first | (with_reducible first | exact HB.out | apply pw_below_drewN | refine below_set ?_ GE284.out) )⟩
           ·rw [if_neg c25] at H
            have c25b0 : decide (((rd_T52 l0_1 x3_1).f1) < 1) = false := decide_eq_false c25
            clear c25
            by_cases c31 : ((rd_T52 l0_1 x3_1).f1) > 1099511627775
            ·rw [if_pos c31] at H
             have c31b0 : decide (1099511627775 < ((rd_T52 l0_1 x3_1).f1)) = true := decide_eq_true c31
             clear c31
             obtain rfl := Option.some.inj H
             have hcz32_0 : wr.cell? ⟨gb282, 0, none⟩ = some (.int .i64 a0_0) := (blk_cell BK282.out 0).trans rfl
             have hcz32_1 : wr.cell? ⟨gb282, 1, none⟩ = some (.slice A0_1 l0_1.length c0_1) := (blk_cell BK282.out 1).trans rfl
             have hfz32_0 := blk_frozen BK282.out 0
             have hfz32_1 := blk_frozen BK282.out 1
             have p283 : 0 ≤ (x3_1 : Int) := of_decide_eq_true (by first | (with_reducible assumption) )
             have q283 : x3_1 < (l0_1.length : Int) := of_decide_eq_true (by first | (with_reducible assumption) )
             obtain ⟨ad283, e283, hx283_0, hx283_1, hx283_2⟩ := at_T52 HR0_1.out x3_1 p283 q283
             cases e283
             replace hx283_0 := (HB.out.cell (World.block_lt_of_cell? w _ hx283_0)).trans hx283_0
             replace hx283_1 := (HB.out.cell (World.block_lt_of_cell? w _ hx283_1)).trans hx283_1
             replace hx283_2 := (HB.out.cell (World.block_lt_of_cell? w _ hx283_2)).trans hx283_2
             replace p283 := eq_true p283
             replace q283 := eq_true q283
             go_wp2_with (first | ((with_reducible refine gate_dst (N := 4) rfl ?_); refine box_event ?hg (N := 4) ?hd (cs := #[.int .i64 0, .int .i64 0, .bool false]) (t := 52) ?hr ?_; (case hd => rfl); (case hg => rfl); (case hr => first | (go_simp; done) ); intro gb284 hg w33 hbox hb; have n0_ := Aside0.mk (blk_below (g := gb282) (o := .cells #[.int .i64 a0_0, .slice (some ad283) l0_1.length c0_1] 31 (0, 0)) (by (with_reducible repeat (fail)); exact BK282.out) hb); have n1_ := Aside0.mk (below_step (by repeat (first | (with_reducible first | exact HB.out ) )) hb); have n2_ := Aside0.mk (hbox); have n3_ := Aside0.mk ((by rw [hg]; exact (below_size (by repeat (first | (with_reducible first | exact HB.out ) ))) : w.heap.size ≤ gb284)); have n4_ := Aside0.mk ((by rw [hg]; exact (below_size (by repeat (first | (with_reducible first | exact HB.out ) ))) : w.heap.size ≤ gb284)); have n5_ := Aside0.mk ((by rw [hg]; exact Nat.ne_of_lt (blk_lt (g := gb282) (o := .cells #[.int .i64 a0_0, .slice (some ad283) l0_1.length c0_1] 31 (0, 0)) (by (with_reducible repeat (fail)); exact BK282.out)) : gb282 ≠ gb284)); have n6_ := Aside0.mk ((by rw [hg]; exact Nat.ne_of_gt (blk_lt (g := gb282) (o := .cells #[.int .i64 a0_0, .slice (some ad283) l0_1.length c0_1] 31 (0, 0)) (by (with_reducible repeat (fail)); exact BK282.out)) : gb284 ≠ gb282)); clear BK282; clear HB; have BK282 := n0_; have HB := n1_; have BK284 := n2_; have GW284 := n3_; have GE284 := n4_; have NB282_284 := n5_; have NB284_282 := n6_; clear n0_ n1_ n2_ n3_ n4_ n5_ n6_; clear hb hbox hg; have hnb34 := NB284_282.out; have hnc34 := NB282_284.out; have hcz35_0 : w33.cell? ⟨gb284, 0, none⟩ = some (.int .i64 0) := (blk_cell BK284.out 0).trans rfl; have hcz35_1 : w33.cell? ⟨gb284, 1, none⟩ = some (.int .i64 0) := (blk_cell BK284.out 1).trans rfl; have hcz35_2 : w33.cell? ⟨gb284, 2, none⟩ = some (.bool false) := (blk_cell BK284.out 2).trans rfl; have hfz35_0 := blk_frozen BK284.out 0; have hfz35_1 := blk_frozen BK284.out 1; have hfz35_2 := blk_frozen BK284.out 2; have hcz36_0 : w33.cell? ⟨gb282, 0, none⟩ = some (.int .i64 a0_0) := (blk_cell BK282.out 0).trans rfl; have hcz36_1 : w33.cell? ⟨gb282, 1, none⟩ = some (.slice (some ad283) l0_1.length c0_1) := (blk_cell BK282.out 1).trans rfl; have hfz36_0 := blk_frozen BK282.out 0; have hfz36_1 := blk_frozen BK282.out 1; have p285 : 0 ≤ ((ji16) : Int) := of_decide_eq_true (by first | (with_reducible assumption) ); have q285 : (ji16) < (l0_1.length : Int) := of_decide_eq_true (by first | (with_reducible assumption) ); obtain ⟨ad285, e285, hx285_0, hx285_1, hx285_2⟩ := at_T52 HR0_1.out (ji16) p285 q285; obtain rfl : ad283 = ad285 := (by injection e285); have hn285_0 : ad283.block ≠ gb284 := Nat.ne_of_lt (Nat.lt_of_lt_of_le (by have := World.block_lt_of_cell? _ _ hx285_0; first | rwa [add_block] at this ) GW284.out); have hn285_1 : ad283.block ≠ gb284 := Nat.ne_of_lt (Nat.lt_of_lt_of_le (by have := World.block_lt_of_cell? _ _ hx285_0; first | rwa [add_block] at this ) GW284.out); have hn285_2 : ad283.block ≠ gb284 := Nat.ne_of_lt (Nat.lt_of_lt_of_le (by have := World.block_lt_of_cell? _ _ hx285_0; first | rwa [add_block] at this ) GW284.out); replace hx285_0 := (HB.out.cell (World.block_lt_of_cell? w _ hx285_0)).trans hx285_0; replace hx285_1 := (HB.out.cell (World.block_lt_of_cell? w _ hx285_1)).trans hx285_1; replace hx285_2 := (HB.out.cell (World.block_lt_of_cell? w _ hx285_2)).trans hx285_2; replace hx285_0 := (cell_far (p := ⟨gb284, 0, none⟩) (by first | (rw [add_block]; exact hn285_0) ) (.int .i64 ((rd_T52 l0_1 x3_1).f0))).trans hx285_0; replace hx285_1 := (cell_far (p := ⟨gb284, 0, none⟩) (by first | (rw [add_block]; exact hn285_0) ) (.int .i64 ((rd_T52 l0_1 x3_1).f0))).trans hx285_1; replace hx285_2 := (cell_far (p := ⟨gb284, 0, none⟩) (by first | (rw [add_block]; exact hn285_0) ) (.int .i64 ((rd_T52 l0_1 x3_1).f0))).trans hx285_2; replace hx285_0 := (cell_far (p := ⟨gb284, 1, none⟩) (by first | (rw [add_block]; exact hn285_1) ) (.int .i64 ((rd_T52 l0_1 x3_1).f1))).trans hx285_0; replace hx285_1 := (cell_far (p := ⟨gb284, 1, none⟩) (by first | (rw [add_block]; exact hn285_1) ) (.int .i64 ((rd_T52 l0_1 x3_1).f1))).trans hx285_1; replace hx285_2 := (cell_far (p := ⟨gb284, 1, none⟩) (by first | (rw [add_block]; exact hn285_1) ) (.int .i64 ((rd_T52 l0_1 x3_1).f1))).trans hx285_2; replace hx285_0 := (cell_far (p := ⟨gb284, 2, none⟩) (by first | (rw [add_block]; exact hn285_2) ) (.bool ((rd_T52 l0_1 x3_1).f2))).trans hx285_0; replace hx285_1 := (cell_far (p := ⟨gb284, 2, none⟩) (by first | (rw [add_block]; exact hn285_2) ) (.bool ((rd_T52 l0_1 x3_1).f2))).trans hx285_1; replace hx285_2 := (cell_far (p := ⟨gb284, 2, none⟩) (by first | (rw [add_block]; exact hn285_2) ) (.bool ((rd_T52 l0_1 x3_1).f2))).trans hx285_2; (try have hy285_0 := fun (n_ : Nat) => (show (((((w33.drewN n_).setCell ⟨gb284, 0, none⟩ (.int .i64 ((rd_T52 l0_1 x3_1).f0))).setCell ⟨gb284, 1, none⟩ (.int .i64 ((rd_T52 l0_1 x3_1).f1))).setCell ⟨gb284, 2, none⟩ (.bool ((rd_T52 l0_1 x3_1).f2)))).cell? _ = some _ from hx285_0)); (try have hy285_1 := fun (n_ : Nat) => (show (((((w33.drewN n_).setCell ⟨gb284, 0, none⟩ (.int .i64 ((rd_T52 l0_1 x3_1).f0))).setCell ⟨gb284, 1, none⟩ (.int .i64 ((rd_T52 l0_1 x3_1).f1))).setCell ⟨gb284, 2, none⟩ (.bool ((rd_T52 l0_1 x3_1).f2)))).cell? _ = some _ from hx285_1)); (try have hy285_2 := fun (n_ : Nat) => (show (((((w33.drewN n_).setCell ⟨gb284, 0, none⟩ (.int .i64 ((rd_T52 l0_1 x3_1).f0))).setCell ⟨gb284, 1, none⟩ (.int .i64 ((rd_T52 l0_1 x3_1).f1))).setCell ⟨gb284, 2, none⟩ (.bool ((rd_T52 l0_1 x3_1).f2)))).cell? _ = some _ from hx285_2)); clear hn285_0; clear hn285_1; clear hn285_2; replace p285 := eq_true p285; replace q285 := eq_true q285))
             repeat (go_quiet (fail); try go_wp2)
             go_ret
             exact ⟨by first | rfl , by repeat (first | (with_reducible first | exact HB.out | apply pw_below_drewN | refine below_set ?_ GE284.out) )⟩
            ·rw [if_neg c31] at H
             have c31b0 : decide (1099511627775 < ((rd_T52 l0_1 x3_1).f1)) = false := decide_eq_false c31
             clear c31
             have H' := Aside0.mk H
             clear H
             have hcz37_0 : wr.cell? ⟨gb282, 0, none⟩ = some (.int .i64 a0_0) := (blk_cell BK282.out 0).trans rfl
             have hcz37_1 : wr.cell? ⟨gb282, 1, none⟩ = some (.slice A0_1 l0_1.length c0_1) := (blk_cell BK282.out 1).trans rfl
             have hfz37_0 := blk_frozen BK282.out 0
             have hfz37_1 := blk_frozen BK282.out 1
             have p283 : 0 ≤ (x3_1 : Int) := of_decide_eq_true (by first | (with_reducible assumption) )
             have q283 : x3_1 < (l0_1.length : Int) := of_decide_eq_true (by first | (with_reducible assumption) )
             obtain ⟨ad283, e283, hx283_0, hx283_1, hx283_2⟩ := at_T52 HR0_1.out x3_1 p283 q283
             cases e283
             replace hx283_0 := (HB.out.cell (World.block_lt_of_cell? w _ hx283_0)).trans hx283_0
             replace hx283_1 := (HB.out.cell (World.block_lt_of_cell? w _ hx283_1)).trans hx283_1
             replace hx283_2 := (HB.out.cell (World.block_lt_of_cell? w _ hx283_2)).trans hx283_2
             replace p283 := eq_true p283
             replace q283 := eq_true q283
             go_wp2_with (first | ((with_reducible refine gate_dst (N := 4) rfl ?_); refine box_event ?hg (N := 4) ?hd (cs := #[.int .i64 0, .int .i64 0, .bool false]) (t := 52) ?hr ?_; (case hd => rfl); (case hg => rfl); (case hr => first | (go_simp; done) ); intro gb284 hg w38 hbox hb; have n0_ := Aside0.mk (blk_below (g := gb282) (o := .cells #[.int .i64 a0_0, .slice (some ad283) l0_1.length c0_1] 31 (0, 0)) (by (with_reducible repeat (fail)); exact BK282.out) hb); have n1_ := Aside0.mk (below_step (by repeat (first | (with_reducible first | exact HB.out ) )) hb); have n2_ := Aside0.mk (hbox); have n3_ := Aside0.mk ((by rw [hg]; exact (below_size (by repeat (first | (with_reducible first | exact HB.out ) ))) : w.heap.size ≤ gb284)); have n4_ := Aside0.mk ((by rw [hg]; exact (below_size (by repeat (first | (with_reducible first | exact HB.out ) ))) : w.heap.size ≤ gb284)); have n5_ := Aside0.mk ((by rw [hg]; exact Nat.ne_of_lt (blk_lt (g := gb282) (o := .cells #[.int .i64 a0_0, .slice (some ad283) l0_1.length c0_1] 31 (0, 0)) (by (with_reducible repeat (fail)); exact BK282.out)) : gb282 ≠ gb284)); have n6_ := Aside0.mk ((by rw [hg]; exact Nat.ne_of_gt (blk_lt (g := gb282) (o := .cells #[.int .i64 a0_0, .slice (some ad283) l0_1.length c0_1] 31 (0, 0)) (by (with_reducible repeat (fail)); exact BK282.out)) : gb284 ≠ gb282)); clear BK282; clear HB; have BK282 := n0_; have HB := n1_; have BK284 := n2_; have GW284 := n3_; have GE284 := n4_; have NB282_284 := n5_; have NB284_282 := n6_; clear n0_ n1_ n2_ n3_ n4_ n5_ n6_; clear hb hbox hg; have hnb39 := NB284_282.out; have hnc39 := NB282_284.out; have hcz40_0 : w38.cell? ⟨gb284, 0, none⟩ = some (.int .i64 0) := (blk_cell BK284.out 0).trans rfl; have hcz40_1 : w38.cell? ⟨gb284, 1, none⟩ = some (.int .i64 0) := (blk_cell BK284.out 1).trans rfl; have hcz40_2 : w38.cell? ⟨gb284, 2, none⟩ = some (.bool false) := (blk_cell BK284.out 2).trans rfl; have hfz40_0 := blk_frozen BK284.out 0; have hfz40_1 := blk_frozen BK284.out 1; have hfz40_2 := blk_frozen BK284.out 2; have hcz41_0 : w38.cell? ⟨gb282, 0, none⟩ = some (.int .i64 a0_0) := (blk_cell BK282.out 0).trans rfl; have hcz41_1 : w38.cell? ⟨gb282, 1, none⟩ = some (.slice (some ad283) l0_1.length c0_1) := (blk_cell BK282.out 1).trans rfl; have hfz41_0 := blk_frozen BK282.out 0; have hfz41_1 := blk_frozen BK282.out 1; have p285 : 0 ≤ ((ji16) : Int) := of_decide_eq_true (by first | (with_reducible assumption) ); have q285 : (ji16) < (l0_1.length : Int) := of_decide_eq_true (by first | (with_reducible assumption) ); obtain ⟨ad285, e285, hx285_0, hx285_1, hx285_2⟩ := at_T52 HR0_1.out (ji16) p285 q285; obtain rfl : ad283 = ad285 := (by injection e285); have hn285_0 : ad283.block ≠ gb284 := Nat.ne_of_lt (Nat.lt_of_lt_of_le (by have := World.block_lt_of_cell? _ _ hx285_0; first | rwa [add_block] at this ) GW284.out); have hn285_1 : ad283.block ≠ gb284 := Nat.ne_of_lt (Nat.lt_of_lt_of_le (by have := World.block_lt_of_cell? _ _ hx285_0; first | rwa [add_block] at this ) GW284.out); have hn285_2 : ad283.block ≠ gb284 := Nat.ne_of_lt (Nat.lt_of_lt_of_le (by have := World.block_lt_of_cell? _ _ hx285_0; first | rwa [add_block] at this ) GW284.out); replace hx285_0 := (HB.out.cell (World.block_lt_of_cell? w _ hx285_0)).trans hx285_0; replace hx285_1 := (HB.out.cell (World.block_lt_of_cell? w _ hx285_1)).trans hx285_1; replace hx285_2 := (HB.out.cell (World.block_lt_of_cell? w _ hx285_2)).trans hx285_2; replace hx285_0 := (cell_far (p := ⟨gb284, 0, none⟩) (by first | (rw [add_block]; exact hn285_0) ) (.int .i64 ((rd_T52 l0_1 x3_1).f0))).trans hx285_0; replace hx285_1 := (cell_far (p := ⟨gb284, 0, none⟩) (by first | (rw [add_block]; exact hn285_0) ) (.int .i64 ((rd_T52 l0_1 x3_1).f0))).trans hx285_1; replace hx285_2 := (cell_far (p := ⟨gb284, 0, none⟩) (by first | (rw [add_block]; exact hn285_0) ) (.int .i64 ((rd_T52 l0_1 x3_1).f0))).trans hx285_2; replace hx285_0 := (cell_far (p := ⟨gb284, 1, none⟩) (by first | (rw [add_block]; exact hn285_1) ) (.int .i64 ((rd_T52 l0_1 x3_1).f1))).trans hx285_0; replace hx285_1 := (cell_far (p := ⟨gb284, 1, none⟩) (by first | (rw [add_block]; exact hn285_1) ) (.int .i64 ((rd_T52 l0_1 x3_1).f1))).trans hx285_1; replace hx285_2 := (cell_far (p := ⟨gb284, 1, none⟩) (by first | (rw [add_block]; exact hn285_1) ) (.int .i64 ((rd_T52 l0_1 x3_1).f1))).trans hx285_2; replace hx285_0 := (cell_far (p := ⟨gb284, 2, none⟩) (by first | (rw [add_block]; exact hn285_2) ) (.bool ((rd_T52 l0_1 x3_1).f2))).trans hx285_0; replace hx285_1 := (cell_far (p := ⟨gb284, 2, none⟩) (by first | (rw [add_block]; exact hn285_2) ) (.bool ((rd_T52 l0_1 x3_1).f2))).trans hx285_1; replace hx285_2 := (cell_far (p := ⟨gb284, 2, none⟩) (by first | (rw [add_block]; exact hn285_2) ) (.bool ((rd_T52 l0_1 x3_1).f2))).trans hx285_2; (try have hy285_0 := fun (n_ : Nat) => (show (((((w38.drewN n_).setCell ⟨gb284, 0, none⟩ (.int .i64 ((rd_T52 l0_1 x3_1).f0))).setCell ⟨gb284, 1, none⟩ (.int .i64 ((rd_T52 l0_1 x3_1).f1))).setCell ⟨gb284, 2, none⟩ (.bool ((rd_T52 l0_1 x3_1).f2)))).cell? _ = some _ from hx285_0)); (try have hy285_1 := fun (n_ : Nat) => (show (((((w38.drewN n_).setCell ⟨gb284, 0, none⟩ (.int .i64 ((rd_T52 l0_1 x3_1).f0))).setCell ⟨gb284, 1, none⟩ (.int .i64 ((rd_T52 l0_1 x3_1).f1))).setCell ⟨gb284, 2, none⟩ (.bool ((rd_T52 l0_1 x3_1).f2)))).cell? _ = some _ from hx285_1)); (try have hy285_2 := fun (n_ : Nat) => (show (((((w38.drewN n_).setCell ⟨gb284, 0, none⟩ (.int .i64 ((rd_T52 l0_1 x3_1).f0))).setCell ⟨gb284, 1, none⟩ (.int .i64 ((rd_T52 l0_1 x3_1).f1))).setCell ⟨gb284, 2, none⟩ (.bool ((rd_T52 l0_1 x3_1).f2)))).cell? _ = some _ from hx285_2)); clear hn285_0; clear hn285_1; clear hn285_2; replace p285 := eq_true p285; replace q285 := eq_true q285))
             repeat (go_quiet (fail); try go_wp2)
             go_roundg k1
             case measure => have := HK1.out; omega
             case rel => exact ⟨(wrap64 (x3_1 + 1)), (by first | rfl ), H', ⟨by have := HK1.out; omega⟩, ⟨by (with_reducible repeat (first | refine blk_drewN ?_ _ )); refine blk_far ?_ NB282_284.out _; (with_reducible repeat (fail)); refine blk_far ?_ NB282_284.out _; (with_reducible repeat (fail)); refine blk_far ?_ NB282_284.out _; (with_reducible repeat (fail)); exact BK282.out⟩, ⟨by repeat (first | (with_reducible first | exact HB.out | apply pw_below_drewN | refine below_set ?_ GE284.out) )⟩⟩
         ·rw [if_neg c18] at H
          exact absurd H (by simp)
        ·rw [if_neg c17] at H
         exact absurd H (by simp)
       ·rw [if_neg c15] at H
        have c15b0 : decide (0 < x3_1) = false := decide_eq_false c15
        clear c15
        by_cases c42 : ((rd_T52 l0_1 x3_1).f1) < 1
        ·rw [if_pos c42] at H
         have c42b0 : decide (((rd_T52 l0_1 x3_1).f1) < 1) = true := decide_eq_true c42
         clear c42
         obtain rfl := Option.some.inj H
         have hcz43_0 : wr.cell? ⟨gb282, 0, none⟩ = some (.int .i64 a0_0) := (blk_cell BK282.out 0).trans rfl
         have hcz43_1 : wr.cell? ⟨gb282, 1, none⟩ = some (.slice A0_1 l0_1.length c0_1) := (blk_cell BK282.out 1).trans rfl
         have hfz43_0 := blk_frozen BK282.out 0
         have hfz43_1 := blk_frozen BK282.out 1
         have p283 : 0 ≤ (x3_1 : Int) := of_decide_eq_true (by first | (with_reducible assumption) )
         have q283 : x3_1 < (l0_1.length : Int) := of_decide_eq_true (by first | (with_reducible assumption) )
         obtain ⟨ad283, e283, hx283_0, hx283_1, hx283_2⟩ := at_T52 HR0_1.out x3_1 p283 q283
         cases e283
         replace hx283_0 := (HB.out.cell (World.block_lt_of_cell? w _ hx283_0)).trans hx283_0
         replace hx283_1 := (HB.out.cell (World.block_lt_of_cell? w _ hx283_1)).trans hx283_1
         replace hx283_2 := (HB.out.cell (World.block_lt_of_cell? w _ hx283_2)).trans hx283_2
         replace p283 := eq_true p283
         replace q283 := eq_true q283
         go_wp2_with (first | ((with_reducible refine gate_dst (N := 4) rfl ?_); refine box_event ?hg (N := 4) ?hd (cs := #[.int .i64 0, .int .i64 0, .bool false]) (t := 52) ?hr ?_; (case hd => rfl); (case hg => rfl); (case hr => first | (go_simp; done) ); intro gb284 hg w44 hbox hb; have n0_ := Aside0.mk (blk_below (g := gb282) (o := .cells #[.int .i64 a0_0, .slice (some ad283) l0_1.length c0_1] 31 (0, 0)) (by (with_reducible repeat (fail)); exact BK282.out) hb); have n1_ := Aside0.mk (below_step (by repeat (first | (with_reducible first | exact HB.out ) )) hb); have n2_ := Aside0.mk (hbox); have n3_ := Aside0.mk ((by rw [hg]; exact (below_size (by repeat (first | (with_reducible first | exact HB.out ) ))) : w.heap.size ≤ gb284)); have n4_ := Aside0.mk ((by rw [hg]; exact (below_size (by repeat (first | (with_reducible first | exact HB.out ) ))) : w.heap.size ≤ gb284)); have n5_ := Aside0.mk ((by rw [hg]; exact Nat.ne_of_lt (blk_lt (g := gb282) (o := .cells #[.int .i64 a0_0, .slice (some ad283) l0_1.length c0_1] 31 (0, 0)) (by (with_reducible repeat (fail)); exact BK282.out)) : gb282 ≠ gb284)); have n6_ := Aside0.mk ((by rw [hg]; exact Nat.ne_of_gt (blk_lt (g := gb282) (o := .cells #[.int .i64 a0_0, .slice (some ad283) l0_1.length c0_1] 31 (0, 0)) (by (with_reducible repeat (fail)); exact BK282.out)) : gb284 ≠ gb282)); clear BK282; clear HB; have BK282 := n0_; have HB := n1_; have BK284 := n2_; have GW284 := n3_; have GE284 := n4_; have NB282_284 := n5_; have NB284_282 := n6_; clear n0_ n1_ n2_ n3_ n4_ n5_ n6_; clear hb hbox hg; have hnb45 := NB284_282.out; have hnc45 := NB282_284.out; have hcz46_0 : w44.cell? ⟨gb284, 0, none⟩ = some (.int .i64 0) := (blk_cell BK284.out 0).trans rfl; have hcz46_1 : w44.cell? ⟨gb284, 1, none⟩ = some (.int .i64 0) := (blk_cell BK284.out 1).trans rfl; have hcz46_2 : w44.cell? ⟨gb284, 2, none⟩ = some (.bool false) := (blk_cell BK284.out 2).trans rfl; have hfz46_0 := blk_frozen BK284.out 0; have hfz46_1 := blk_frozen BK284.out 1; have hfz46_2 := blk_frozen BK284.out 2))
         repeat (go_quiet (fail); try go_wp2)
         go_ret
         exact ⟨by first | rfl , by repeat (first | (with_reducible first | exact HB.out | apply pw_below_drewN | refine below_set ?_ GE284.out) )⟩
        ·rw [if_neg c42] at H
         have c42b0 : decide (((rd_T52 l0_1 x3_1).f1) < 1) = false := decide_eq_false c42
         clear c42
         by_cases c47 : ((rd_T52 l0_1 x3_1).f1) > 1099511627775
         ·rw [if_pos c47] at H
          have c47b0 : decide (1099511627775 < ((rd_T52 l0_1 x3_1).f1)) = true := decide_eq_true c47
          clear c47
          obtain rfl := Option.some.inj H
          have hcz48_0 : wr.cell? ⟨gb282, 0, none⟩ = some (.int .i64 a0_0) := (blk_cell BK282.out 0).trans rfl
          have hcz48_1 : wr.cell? ⟨gb282, 1, none⟩ = some (.slice A0_1 l0_1.length c0_1) := (blk_cell BK282.out 1).trans rfl
          have hfz48_0 := blk_frozen BK282.out 0
          have hfz48_1 := blk_frozen BK282.out 1
          have p283 : 0 ≤ (x3_1 : Int) := of_decide_eq_true (by first | (with_reducible assumption) )
          have q283 : x3_1 < (l0_1.length : Int) := of_decide_eq_true (by first | (with_reducible assumption) )
          obtain ⟨ad283, e283, hx283_0, hx283_1, hx283_2⟩ := at_T52 HR0_1.out x3_1 p283 q283
          cases e283
          replace hx283_0 := (HB.out.cell (World.block_lt_of_cell? w _ hx283_0)).trans hx283_0
          replace hx283_1 := (HB.out.cell (World.block_lt_of_cell? w _ hx283_1)).trans hx283_1
          replace hx283_2 := (HB.out.cell (World.block_lt_of_cell? w _ hx283_2)).trans hx283_2
          replace p283 := eq_true p283
          replace q283 := eq_true q283
          go_wp2_with (first | ((with_reducible refine gate_dst (N := 4) rfl ?_); refine box_event ?hg (N := 4) ?hd (cs := #[.int .i64 0, .int .i64 0, .bool false]) (t := 52) ?hr ?_; (case hd => rfl); (case hg => rfl); (case hr => first | (go_simp; done) ); intro gb284 hg w49 hbox hb; have n0_ := Aside0.mk (blk_below (g := gb282) (o := .cells #[.int .i64 a0_0, .slice (some ad283) l0_1.length c0_1] 31 (0, 0)) (by (with_reducible repeat (fail)); exact BK282.out) hb); have n1_ := Aside0.mk (below_step (by repeat (first | (with_reducible first | exact HB.out ) )) hb); have n2_ := Aside0.mk (hbox); have n3_ := Aside0.mk ((by rw [hg]; exact (below_size (by repeat (first | (with_reducible first | exact HB.out ) ))) : w.heap.size ≤ gb284)); have n4_ := Aside0.mk ((by rw [hg]; exact (below_size (by repeat (first | (with_reducible first | exact HB.out ) ))) : w.heap.size ≤ gb284)); have n5_ := Aside0.mk ((by rw [hg]; exact Nat.ne_of_lt (blk_lt (g := gb282) (o := .cells #[.int .i64 a0_0, .slice (some ad283) l0_1.length c0_1] 31 (0, 0)) (by (with_reducible repeat (fail)); exact BK282.out)) : gb282 ≠ gb284)); have n6_ := Aside0.mk ((by rw [hg]; exact Nat.ne_of_gt (blk_lt (g := gb282) (o := .cells #[.int .i64 a0_0, .slice (some ad283) l0_1.length c0_1] 31 (0, 0)) (by (with_reducible repeat (fail)); exact BK282.out)) : gb284 ≠ gb282)); clear BK282; clear HB; have BK282 := n0_; have HB := n1_; have BK284 := n2_; have GW284 := n3_; have GE284 := n4_; have NB282_284 := n5_; have NB284_282 := n6_; clear n0_ n1_ n2_ n3_ n4_ n5_ n6_; clear hb hbox hg; have hnb50 := NB284_282.out; have hnc50 := NB282_284.out; have hcz51_0 : w49.cell? ⟨gb284, 0, none⟩ = some (.int .i64 0) := (blk_cell BK284.out 0).trans rfl; have hcz51_1 : w49.cell? ⟨gb284, 1, none⟩ = some (.int .i64 0) := (blk_cell BK284.out 1).trans rfl; have hcz51_2 : w49.cell? ⟨gb284, 2, none⟩ = some (.bool false) := (blk_cell BK284.out 2).trans rfl; have hfz51_0 := blk_frozen BK284.out 0; have hfz51_1 := blk_frozen BK284.out 1; have hfz51_2 := blk_frozen BK284.out 2))
          repeat (go_quiet (fail); try go_wp2)
          go_ret
          exact ⟨by first | rfl , by repeat (first | (with_reducible first | exact HB.out | apply pw_below_drewN | refine below_set ?_ GE284.out) )⟩
         ·rw [if_neg c47] at H
          have c47b0 : decide (1099511627775 < ((rd_T52 l0_1 x3_1).f1)) = false := decide_eq_false c47
          clear c47
          have H' := Aside0.mk H
          clear H
          have hcz52_0 : wr.cell? ⟨gb282, 0, none⟩ = some (.int .i64 a0_0) := (blk_cell BK282.out 0).trans rfl
          have hcz52_1 : wr.cell? ⟨gb282, 1, none⟩ = some (.slice A0_1 l0_1.length c0_1) := (blk_cell BK282.out 1).trans rfl
          have hfz52_0 := blk_frozen BK282.out 0
          have hfz52_1 := blk_frozen BK282.out 1
          have p283 : 0 ≤ (x3_1 : Int) := of_decide_eq_true (by first | (with_reducible assumption) )
          have q283 : x3_1 < (l0_1.length : Int) := of_decide_eq_true (by first | (with_reducible assumption) )
          obtain ⟨ad283, e283, hx283_0, hx283_1, hx283_2⟩ := at_T52 HR0_1.out x3_1 p283 q283
          cases e283
          replace hx283_0 := (HB.out.cell (World.block_lt_of_cell? w _ hx283_0)).trans hx283_0
          replace hx283_1 := (HB.out.cell (World.block_lt_of_cell? w _ hx283_1)).trans hx283_1
          replace hx283_2 := (HB.out.cell (World.block_lt_of_cell? w _ hx283_2)).trans hx283_2
          replace p283 := eq_true p283
          replace q283 := eq_true q283
          go_wp2_with (first | ((with_reducible refine gate_dst (N := 4) rfl ?_); refine box_event ?hg (N := 4) ?hd (cs := #[.int .i64 0, .int .i64 0, .bool false]) (t := 52) ?hr ?_; (case hd => rfl); (case hg => rfl); (case hr => first | (go_simp; done) ); intro gb284 hg w53 hbox hb; have n0_ := Aside0.mk (blk_below (g := gb282) (o := .cells #[.int .i64 a0_0, .slice (some ad283) l0_1.length c0_1] 31 (0, 0)) (by (with_reducible repeat (fail)); exact BK282.out) hb); have n1_ := Aside0.mk (below_step (by repeat (first | (with_reducible first | exact HB.out ) )) hb); have n2_ := Aside0.mk (hbox); have n3_ := Aside0.mk ((by rw [hg]; exact (below_size (by repeat (first | (with_reducible first | exact HB.out ) ))) : w.heap.size ≤ gb284)); have n4_ := Aside0.mk ((by rw [hg]; exact (below_size (by repeat (first | (with_reducible first | exact HB.out ) ))) : w.heap.size ≤ gb284)); have n5_ := Aside0.mk ((by rw [hg]; exact Nat.ne_of_lt (blk_lt (g := gb282) (o := .cells #[.int .i64 a0_0, .slice (some ad283) l0_1.length c0_1] 31 (0, 0)) (by (with_reducible repeat (fail)); exact BK282.out)) : gb282 ≠ gb284)); have n6_ := Aside0.mk ((by rw [hg]; exact Nat.ne_of_gt (blk_lt (g := gb282) (o := .cells #[.int .i64 a0_0, .slice (some ad283) l0_1.length c0_1] 31 (0, 0)) (by (with_reducible repeat (fail)); exact BK282.out)) : gb284 ≠ gb282)); clear BK282; clear HB; have BK282 := n0_; have HB := n1_; have BK284 := n2_; have GW284 := n3_; have GE284 := n4_; have NB282_284 := n5_; have NB284_282 := n6_; clear n0_ n1_ n2_ n3_ n4_ n5_ n6_; clear hb hbox hg; have hnb54 := NB284_282.out; have hnc54 := NB282_284.out; have hcz55_0 : w53.cell? ⟨gb284, 0, none⟩ = some (.int .i64 0) := (blk_cell BK284.out 0).trans rfl; have hcz55_1 : w53.cell? ⟨gb284, 1, none⟩ = some (.int .i64 0) := (blk_cell BK284.out 1).trans rfl; have hcz55_2 : w53.cell? ⟨gb284, 2, none⟩ = some (.bool false) := (blk_cell BK284.out 2).trans rfl; have hfz55_0 := blk_frozen BK284.out 0; have hfz55_1 := blk_frozen BK284.out 1; have hfz55_2 := blk_frozen BK284.out 2))
          repeat (go_quiet (fail); try go_wp2)
          go_roundg k1
          case measure => have := HK1.out; omega
          case rel => exact ⟨(wrap64 (x3_1 + 1)), (by first | rfl ), H', ⟨by have := HK1.out; omega⟩, ⟨by (with_reducible repeat (first | refine blk_drewN ?_ _ )); refine blk_far ?_ NB282_284.out _; (with_reducible repeat (fail)); refine blk_far ?_ NB282_284.out _; (with_reducible repeat (fail)); refine blk_far ?_ NB282_284.out _; (with_reducible repeat (fail)); exact BK282.out⟩, ⟨by repeat (first | (with_reducible first | exact HB.out | apply pw_below_drewN | refine below_set ?_ GE284.out) )⟩⟩
    ·rw [if_neg c4] at H
     exact absurd H (by simp)
   ·rw [if_neg c3] at H
    have c3b0 : decide (x3_1 < (l0_1.length : Int)) = false := decide_eq_false c3
    clear c3
    by_cases c56 : (l0_1.length : Int) > 0
    ·rw [if_pos c56] at H
     have c56b0 : decide (0 < (l0_1.length : Int)) = true := decide_eq_true c56
     have c56b1 : decide (0 < l0_1.length) = true := decide_eq_true (by omega)
     clear c56
     by_cases c57 : a0_0 ≥ 1
     ·rw [if_pos c57] at H
      have c57b0 : decide (1 ≤ a0_0) = true := decide_eq_true c57
      clear c57
      obtain rfl := Option.some.inj H
      have hcz58_0 : wr.cell? ⟨gb282, 0, none⟩ = some (.int .i64 a0_0) := (blk_cell BK282.out 0).trans rfl
      have hcz58_1 : wr.cell? ⟨gb282, 1, none⟩ = some (.slice A0_1 l0_1.length c0_1) := (blk_cell BK282.out 1).trans rfl
      have hfz58_0 := blk_frozen BK282.out 0
      have hfz58_1 := blk_frozen BK282.out 1
      go_wp2
      go_ret
      exact ⟨by first | rfl , by repeat (first | (with_reducible first | exact HB.out ) )⟩
     ·rw [if_neg c57] at H
      have c57b0 : decide (1 ≤ a0_0) = false := decide_eq_false c57
      clear c57
      obtain rfl := Option.some.inj H
      have hcz59_0 : wr.cell? ⟨gb282, 0, none⟩ = some (.int .i64 a0_0) := (blk_cell BK282.out 0).trans rfl
      have hcz59_1 : wr.cell? ⟨gb282, 1, none⟩ = some (.slice A0_1 l0_1.length c0_1) := (blk_cell BK282.out 1).trans rfl
      have hfz59_0 := blk_frozen BK282.out 0
      have hfz59_1 := blk_frozen BK282.out 1
      go_wp2
      go_ret
      exact ⟨by first | rfl , by repeat (first | (with_reducible first | exact HB.out ) )⟩
    ·rw [if_neg c56] at H
     have c56b0 : decide (0 < (l0_1.length : Int)) = false := decide_eq_false c56
     have c56b1 : decide (0 < l0_1.length) = false := decide_eq_false (by omega)
     clear c56
     obtain rfl := Option.some.inj H
     have hcz60_0 : wr.cell? ⟨gb282, 0, none⟩ = some (.int .i64 a0_0) := (blk_cell BK282.out 0).trans rfl
     have hcz60_1 : wr.cell? ⟨gb282, 1, none⟩ = some (.slice A0_1 l0_1.length c0_1) := (blk_cell BK282.out 1).trans rfl
     have hfz60_0 := blk_frozen BK282.out 0
     have hfz60_1 := blk_frozen BK282.out 1
     go_wp2
     go_ret
     exact ⟨by first | rfl , by repeat (first | (with_reducible first | exact HB.out ) )⟩

/-! ### caduceusref14_Live: function 21 -/
mutual
def caduceusref14_Live.l0 : Nat → List Int → Int → Int → List (S52) → Option (List Int)
 | 0, _, _, _, _ => none
 | k + 1, x3, x4, x287000, x287001 => if x4 < (x287001.length : Int) then ((caduceusref14_Check.f k x287000 x287001).bind fun t287 => (caduceusref14_Live.j1 k x3 x4 t287 x287000 x287001)) else (caduceusref14_Live.j1 k x3 x4 false x287000 x287001)
def caduceusref14_Live.j1 : Nat → List Int → Int → Bool → Int → List (S52) → Option (List Int)
 | 0, _, _, _, _, _ => none
 | k + 1, x3, x4, x13, x287000, x287001 => if x13 = true then (if 0 ≤ x4 then (if x4 < (x287001.length : Int) then (if (rd_T52 x287001 x4).f2 = true then (if x3.length < 17592186044416 then (caduceusref14_Live.l0 k (x3 ++ [(rd_T52 x287001 x4).f0]) (wrap64 (x4 + 1)) x287000 x287001) else (none)) else (caduceusref14_Live.l0 k x3 (wrap64 (x4 + 1)) x287000 x287001)) else (none)) else (none)) else (some x3)
end
def caduceusref14_Live.f (k : Nat) (a0_0 : Int) (l0_1 : List (S52)) : Option (List Int) := caduceusref14_Live.l0 k ([] : List Int) 0 a0_0 l0_1
theorem caduceusref14_Live.mono_l : ∀ k, (∀ y0 y1 y2 y3, LeO (caduceusref14_Live.l0 k y0 y1 y2 y3) (caduceusref14_Live.l0 (k + 1) y0 y1 y2 y3)) ∧ (∀ y0 y1 y2 y3 y4, LeO (caduceusref14_Live.j1 k y0 y1 y2 y3 y4) (caduceusref14_Live.j1 (k + 1) y0 y1 y2 y3 y4))
 | 0 => ⟨fun _ _ _ _ r h => by simp [caduceusref14_Live.l0] at h, fun _ _ _ _ _ r h => by simp [caduceusref14_Live.j1] at h⟩
 | k + 1 => by
  obtain ⟨ih0, ih1⟩ := caduceusref14_Live.mono_l k
  refine ⟨?_, ?_⟩
  ·intro y0 y1 y2 y3
   unfold caduceusref14_Live.l0
   repeat' first
   | (with_reducible exact ih1 _ _ _ _ _)
   | (with_reducible exact caduceusref14_Check.mono _ _ _)
   | (with_reducible refine LeO.ite ?_ ?_)
   | (with_reducible refine LeO.bind ?_ (fun _ => ?_))

  ·intro y0 y1 y2 y3 y4
   unfold caduceusref14_Live.j1
   repeat' first
   | (with_reducible exact ih0 _ _ _ _)
   | (with_reducible exact LeO.refl _)
   | (with_reducible refine LeO.ite ?_ ?_)

theorem caduceusref14_Live.mono : ∀ a0 a1 k, LeO (caduceusref14_Live.f k a0 a1) (caduceusref14_Live.f (k + 1) a0 a1) := by
 intro a0 a1 k
 obtain ⟨ih0, ih1⟩ := caduceusref14_Live.mono_l k
 unfold caduceusref14_Live.f
 repeat' first
   | (with_reducible exact ih0 _ _ _ _)

set_option maxHeartbeats 8000000 in
set_option maxRecDepth 100000 in
theorem caduceusref14_Live.calls (k : Nat) (a0_0 : Int) (A0_1 : Option Addr) (c0_1 : Nat) (l0_1 : List (S52)) (r : List Int) (w : World) (hr0_1 : Kd.C k52 w A0_1 l0_1.length l0_1) (hc0_1 : l0_1.length ≤ c0_1) (h : caduceusref14_Live.f k a0_0 l0_1 = some r) :
  Calls Tryz.prog 21 #[.agg #[.int .i64 a0_0, .slice A0_1 l0_1.length c0_1]] w fun e w' => ∃ v0_ : Value, e = .returned (v0_) ∧ Kd.R (Kd.int .i64) 3 w' w.heap.size (fun _ => True) v0_ r ∧ Below w.heap.size w w' := by
 have hu31 := Tryz.underlying31
 have HR0_1 := Aside0.mk hr0_1
 have HC0_1 := Aside0.mk hc0_1
 clear hr0_1 hc0_1
 have HB := Aside0.mk (Below.refl w.heap.size w)
 have H : (caduceusref14_Live.l0 k ([] : List Int) 0 a0_0 l0_1) = some r := h
 clear h
 have H' := Aside0.mk H
 clear H
 go_enter Tryz.func21, Tryz.ntmps21
 go_wp2_with (first | ((with_reducible refine gate_dst (N := 1) rfl ?_); refine box_event ?hg (N := 1) ?hd (cs := #[.int .i64 a0_0, .slice A0_1 l0_1.length c0_1]) (t := 31) ?hr ?_; (case hd => rfl); (case hg => rfl); (case hr => first | (go_simp; done) ); intro gb286 hg w2 hbox hb; have n0_ := Aside0.mk (below_step (by repeat (first | (with_reducible first | exact HB.out ) )) hb); have n1_ := Aside0.mk (hbox); have n2_ := Aside0.mk ((by rw [hg]; exact (below_size (by repeat (first | (with_reducible first | exact HB.out ) ))) : w.heap.size ≤ gb286)); have n3_ := Aside0.mk ((by rw [hg]; exact (below_size (by repeat (first | (with_reducible first | exact HB.out ) ))) : w.heap.size ≤ gb286)); clear HB; have HB := n0_; have BK286 := n1_; have GW286 := n2_; have GE286 := n3_; clear n0_ n1_ n2_ n3_; clear hb hbox hg))
 go_loopg [3, 4] k (fun kq v3 v4 w' => ∃ (x3_1 : List Int) (x4_1 : Int), v4 = .int .i64 x4_1 ∧ Aside0 (caduceusref14_Live.l0 kq x3_1 x4_1 a0_0 l0_1 = some r) ∧ Aside0 (kq ≤ k) ∧ Aside0 (Kd.R (Kd.int .i64) 3 w' w.heap.size (fun _ => True) v3 x3_1) ∧ Aside0 (w'.heap[gb286]? = some (.cells #[.int .i64 a0_0, (.slice A0_1 l0_1.length c0_1)] 31 (0, 0))) ∧ Aside0 (Below w.heap.size w w'))
 case atStart => exact ⟨(([] : List Int)), (0), (by first | rfl ), H', ⟨Nat.le_refl _⟩, ⟨by first | exact Kd.R_nil _ _ _ _ _ ⟩, ⟨by (with_reducible repeat (fail)); exact BK286.out⟩, ⟨by repeat (first | (with_reducible first | exact HB.out ) )⟩⟩
 case round =>
  clear H'
  try clear c2
  try clear p2
  obtain ⟨x3_1, x4_1, rfl, HA, HK1, HO_3, BK286, HB⟩ := hrel
  cases gk with
  | zero => exact absurd HA.out (by simp [caduceusref14_Live.l0])
  | succ k1 =>
   have H := HA.out
   clear HA
   simp only [caduceusref14_Live.l0] at H
   have HC3 := Aside0.mk H
   clear H
   go_upto_region 3 with (fail)
   go_cut [13] (fun v13 wc => ∃ (kq : Nat) (x13_2 : Bool), v13 = .bool x13_2 ∧ Aside0 (caduceusref14_Live.j1 kq x3_1 x4_1 x13_2 a0_0 l0_1 = some r) ∧ Aside0 (kq ≤ k1) ∧ Aside0 (Kd.R (Kd.int .i64) 3 wc w.heap.size (fun _ => True) u3 x3_1) ∧ Aside0 (wc.heap[gb286]? = some (.cells #[.int .i64 a0_0, (.slice A0_1 l0_1.length c0_1)] 31 (0, 0))) ∧ Aside0 (Below w.heap.size w wc))
   case first =>
    have H := HC3.out
    clear HC3
    by_cases c4 : x4_1 < (l0_1.length : Int)
    ·rw [if_pos c4] at H
     have c4b0 : decide (x4_1 < (l0_1.length : Int)) = true := decide_eq_true c4
     clear c4
     (first | skip)
     replace H := Option.bind_eq_some_iff.mp H
     obtain ⟨t287, A50, H⟩ := H
     replace H : (caduceusref14_Live.j1 k1 x3_1 x4_1 t287 a0_0 l0_1) = some r := H
     have A5 := Aside0.mk A50
     clear A50
     have H' := Aside0.mk H
     clear H
     have hcz6_0 : wr.cell? ⟨gb286, 0, none⟩ = some (.int .i64 a0_0) := (blk_cell BK286.out 0).trans rfl
     have hcz6_1 : wr.cell? ⟨gb286, 1, none⟩ = some (.slice A0_1 l0_1.length c0_1) := (blk_cell BK286.out 1).trans rfl
     have hfz6_0 := blk_frozen BK286.out 0
     have hfz6_1 := blk_frozen BK286.out 1
     go_wp2_with (first | (go_at_call 28; (with_reducible refine (caduceusref14_Check.calls k1 a0_0 _ _ l0_1 t287 _ ?side1 ?side2 A5.out).mono ?_); (case side1 => repeat (first | exact (Kd.C_below HR0_1.out HB.out) )); (case side2 => exact HC0_1.out); rintro e w7 ⟨rfl, hb⟩; have n0_ := Aside0.mk (Kd.R_below (by (with_reducible repeat (fail)); exact HO_3.out) hb); have n1_ := Aside0.mk (blk_below (g := gb286) (o := .cells #[.int .i64 a0_0, .slice A0_1 l0_1.length c0_1] 31 (0, 0)) (by (with_reducible repeat (fail)); exact BK286.out) hb); have n2_ := Aside0.mk (below_step (by repeat (first | (with_reducible first | exact HB.out ) )) hb); clear HO_3; clear BK286; clear HB; have HO_3 := n0_; have BK286 := n1_; have HB := n2_; clear n0_ n1_ n2_; (try clear hb); (try clear hb2); (try clear hk); (try clear hi)))
     go_meet
     case rel => exact ⟨_, (t287), (by first | rfl ), H', ⟨by have := HK1.out; first | omega ⟩, ⟨by (with_reducible repeat (fail)); exact HO_3.out⟩, ⟨by (with_reducible repeat (fail)); exact BK286.out⟩, ⟨by repeat (first | (with_reducible first | exact HB.out ) )⟩⟩
    ·rw [if_neg c4] at H
     have c4b0 : decide (x4_1 < (l0_1.length : Int)) = false := decide_eq_false c4
     clear c4
     (first | skip)
     have H' := Aside0.mk H
     clear H
     have hcz8_0 : wr.cell? ⟨gb286, 0, none⟩ = some (.int .i64 a0_0) := (blk_cell BK286.out 0).trans rfl
     have hcz8_1 : wr.cell? ⟨gb286, 1, none⟩ = some (.slice A0_1 l0_1.length c0_1) := (blk_cell BK286.out 1).trans rfl
     have hfz8_0 := blk_frozen BK286.out 0
     have hfz8_1 := blk_frozen BK286.out 1
     go_wp2
     go_meet
     case rel => exact ⟨_, (false), (by first | rfl ), H', ⟨by have := HK1.out; first | omega ⟩, ⟨by (with_reducible repeat (fail)); exact HO_3.out⟩, ⟨by (with_reducible repeat (fail)); exact BK286.out⟩, ⟨by repeat (first | (with_reducible first | exact HB.out ) )⟩⟩
   case rest =>
    clear HC3
    try clear c2
    try clear p2
    try clear c4
    try clear c4b0
    try clear hcz6_0
    try clear hcz6_1
    try clear hcz8_0
    try clear hcz8_1
    try clear hfz6_0
    try clear hfz6_1
    try clear hfz8_0
    try clear hfz8_1
    try clear p2
    obtain ⟨kq, x13_2, rfl, HA, HJ2, HO_3, BK286, HB⟩ := hcut
    cases kq with
    | zero => exact absurd HA.out (by simp [caduceusref14_Live.j1])
    | succ kj2 =>
     have H := HA.out
     clear HA
     simp only [caduceusref14_Live.j1] at H
     by_cases c9 : x13_2 = true
     ·subst c9
      have H1 : (if 0 ≤ x4_1 then (if x4_1 < (l0_1.length : Int) then (if (rd_T52 l0_1 x4_1).f2 = true then (if x3_1.length < 17592186044416 then (caduceusref14_Live.l0 kj2 (x3_1 ++ [(rd_T52 l0_1 x4_1).f0]) (wrap64 (x4_1 + 1)) a0_0 l0_1) else (none)) else (caduceusref14_Live.l0 kj2 x3_1 (wrap64 (x4_1 + 1)) a0_0 l0_1)) else (none)) else (none)) = some r := by rw [if_pos rfl] at H; exact H
      clear H
      have H := H1
      clear H1
      by_cases c10 : 0 ≤ x4_1
      ·rw [if_pos c10] at H
       have c10b0 : decide (0 ≤ x4_1) = true := decide_eq_true c10
       clear c10
       by_cases c11 : x4_1 < (l0_1.length : Int)
       ·rw [if_pos c11] at H
        have c11b0 : decide (x4_1 < (l0_1.length : Int)) = true := decide_eq_true c11
        clear c11
        obtain ⟨bq12, hbq12⟩ : ∃ b_ : Bool, b_ = ((rd_T52 l0_1 x4_1).f2) := ⟨_, rfl⟩
        replace H : (if bq12 = true then (if x3_1.length < 17592186044416 then (caduceusref14_Live.l0 kj2 (x3_1 ++ [(rd_T52 l0_1 x4_1).f0]) (wrap64 (x4_1 + 1)) a0_0 l0_1) else (none)) else (caduceusref14_Live.l0 kj2 x3_1 (wrap64 (x4_1 + 1)) a0_0 l0_1)) = some r := by rw [← hbq12] at H; exact H
        have Nbq12 := Aside0.mk hbq12
        clear hbq12
        by_cases c13 : bq12 = true
        ·subst c13
         have H1 : (if x3_1.length < 17592186044416 then (caduceusref14_Live.l0 kj2 (x3_1 ++ [(rd_T52 l0_1 x4_1).f0]) (wrap64 (x4_1 + 1)) a0_0 l0_1) else (none)) = some r := by rw [if_pos rfl] at H; exact H
         clear H
         have H := H1
         clear H1
         by_cases c14 : x3_1.length < 17592186044416
         ·rw [if_pos c14] at H
          have LMc14 := Aside0.mk c14
          clear c14
          obtain ⟨y290, hy290⟩ : ∃ y_ : List Int, y_ = (x3_1 ++ [(rd_T52 l0_1 x4_1).f0]) := ⟨_, rfl⟩
          replace H : (caduceusref14_Live.l0 kj2 y290 (wrap64 (x4_1 + 1)) a0_0 l0_1) = some r := by first | (rw [hy290]; with_reducible exact H)
          have Ny290 := Aside0.mk hy290
          clear hy290
          have H' := Aside0.mk H
          clear H
          have hcz15_0 : wc.cell? ⟨gb286, 0, none⟩ = some (.int .i64 a0_0) := (blk_cell BK286.out 0).trans rfl
          have hcz15_1 : wc.cell? ⟨gb286, 1, none⟩ = some (.slice A0_1 l0_1.length c0_1) := (blk_cell BK286.out 1).trans rfl
          have hfz15_0 := blk_frozen BK286.out 0
          have hfz15_1 := blk_frozen BK286.out 1
          have p288 : 0 ≤ (x4_1 : Int) := of_decide_eq_true (by first | (with_reducible assumption) )
          have q288 : x4_1 < (l0_1.length : Int) := of_decide_eq_true (by first | (with_reducible assumption) )
          obtain ⟨ad288, e288, hx288_0, hx288_1, hx288_2⟩ := at_T52 HR0_1.out x4_1 p288 q288
          (try rw [← Nbq12.out] at hx288_2)
          (try rw [← Nbq12.out] at hw288_2)
          cases e288
          replace hx288_0 := (HB.out.cell (World.block_lt_of_cell? w _ hx288_0)).trans hx288_0
          replace hx288_1 := (HB.out.cell (World.block_lt_of_cell? w _ hx288_1)).trans hx288_1
          replace hx288_2 := (HB.out.cell (World.block_lt_of_cell? w _ hx288_2)).trans hx288_2
          replace p288 := eq_true p288
          replace q288 := eq_true q288
          have p289 : 0 ≤ (x4_1 : Int) := of_decide_eq_true (by first | (with_reducible assumption) )
          have q289 : x4_1 < (l0_1.length : Int) := of_decide_eq_true (by first | (with_reducible assumption) )
          obtain ⟨ad289, e289, hx289_0, hx289_1, hx289_2⟩ := at_T52 HR0_1.out x4_1 p289 q289
          (try rw [← Nbq12.out] at hx289_2)
          (try rw [← Nbq12.out] at hw289_2)
          obtain rfl : ad288 = ad289 := (by injection e289)
          replace hx289_0 := (HB.out.cell (World.block_lt_of_cell? w _ hx289_0)).trans hx289_0
          replace hx289_1 := (HB.out.cell (World.block_lt_of_cell? w _ hx289_1)).trans hx289_1
          replace hx289_2 := (HB.out.cell (World.block_lt_of_cell? w _ hx289_2)).trans hx289_2
          replace p289 := eq_true p289
          replace q289 := eq_true q289
          go_wp2_with (first | ((with_reducible refine gate_builtin (b := .append) (xs := #[.tmp 22, .tmp 29]) rfl ?_); at_builtin; refine Kd.R_append (Kd.int .i64) (w0 := w) w.heap.size rfl (.tmp 22) (.tmp 29) 27 3 (.int .i64 0) 8 rfl Tryz.underlying27 info3 rfl (by decide) (by omega) u3 x3_1 ((rd_T52 l0_1 x4_1).f0) [.int .i64 ((rd_T52 l0_1 x4_1).f0)] (fun _ => True) (fun _ => False) rfl rfl ?aP (fun _ hk => hk.elim) ?aF ?aO ?aB ?aS ?aL ?_; (case aP => exact rfl); (case aB => exact (by repeat (first | (with_reducible first | exact HB.out ) ))); (case aF => exact (fun _ _ => trivial)); (case aO => exact (by (with_reducible repeat (fail)); exact HO_3.out)); (case aS => exact (below_size (by repeat (first | (with_reducible first | exact HB.out ) )))); (case aL => have := LMc14.out; omega); intro v291 w16 ho hb hg hat; rw [← Ny290.out] at ho; have n0_ := Aside0.mk (blk_grown (g := gb286) (o := .cells #[.int .i64 a0_0, .slice (some ad288) l0_1.length c0_1] 31 (0, 0)) (by (with_reducible repeat (fail)); exact BK286.out) hg (Kd.R_ne HO_3.out BK286.out (by decide))); have n1_ := Aside0.mk (hb); have n2_ := Aside0.mk (ho); clear BK286; clear HB; clear HO_3; have BK286 := n0_; have HB := n1_; have HO292 := n2_; clear n0_ n1_ n2_; clear ho hb hg hat))
          go_roundg kj2
          case measure => have := HK1.out; have := HJ2.out; omega
          case rel => exact ⟨(y290), (wrap64 (x4_1 + 1)), (by first | rfl ), H', ⟨by have := HK1.out; have := HJ2.out; omega⟩, ⟨by (with_reducible repeat (fail)); exact HO292.out⟩, ⟨by (with_reducible repeat (fail)); exact BK286.out⟩, ⟨by repeat (first | (with_reducible first | exact HB.out ) )⟩⟩
         ·rw [if_neg c14] at H
          exact absurd H (by simp)
        ·replace c13 := Bool.eq_false_iff.mpr c13
         subst c13
         have H1 : (caduceusref14_Live.l0 kj2 x3_1 (wrap64 (x4_1 + 1)) a0_0 l0_1) = some r := by rw [if_neg (show ¬ (false = true) by decide)] at H; exact H
         clear H
         have H := H1
         clear H1
         have H' := Aside0.mk H
         clear H
         have hcz17_0 : wc.cell? ⟨gb286, 0, none⟩ = some (.int .i64 a0_0) := (blk_cell BK286.out 0).trans rfl
         have hcz17_1 : wc.cell? ⟨gb286, 1, none⟩ = some (.slice A0_1 l0_1.length c0_1) := (blk_cell BK286.out 1).trans rfl
         have hfz17_0 := blk_frozen BK286.out 0
         have hfz17_1 := blk_frozen BK286.out 1
         have p288 : 0 ≤ (x4_1 : Int) := of_decide_eq_true (by first | (with_reducible assumption) )
         have q288 : x4_1 < (l0_1.length : Int) := of_decide_eq_true (by first | (with_reducible assumption) )
         obtain ⟨ad288, e288, hx288_0, hx288_1, hx288_2⟩ := at_T52 HR0_1.out x4_1 p288 q288
         (try rw [← Nbq12.out] at hx288_2)
         (try rw [← Nbq12.out] at hw288_2)
         cases e288
         replace hx288_0 := (HB.out.cell (World.block_lt_of_cell? w _ hx288_0)).trans hx288_0
         replace hx288_1 := (HB.out.cell (World.block_lt_of_cell? w _ hx288_1)).trans hx288_1
         replace hx288_2 := (HB.out.cell (World.block_lt_of_cell? w _ hx288_2)).trans hx288_2
         replace p288 := eq_true p288
         replace q288 := eq_true q288
         go_wp2
         go_roundg kj2
         case measure => have := HK1.out; have := HJ2.out; omega
         case rel => exact ⟨(x3_1), (wrap64 (x4_1 + 1)), (by first | rfl ), H', ⟨by have := HK1.out; have := HJ2.out; omega⟩, ⟨by (with_reducible repeat (fail)); exact HO_3.out⟩, ⟨by (with_reducible repeat (fail)); exact BK286.out⟩, ⟨by repeat (first | (with_reducible first | exact HB.out ) )⟩⟩
       ·rw [if_neg c11] at H
        exact absurd H (by simp)
      ·rw [if_neg c10] at H
       exact absurd H (by simp)
     ·replace c9 := Bool.eq_false_iff.mpr c9
      subst c9
      have H1 : (some x3_1) = some r := by rw [if_neg (show ¬ (false = true) by decide)] at H; exact H
      clear H
      have H := H1
      clear H1
      obtain rfl := Option.some.inj H
      go_wp2
      go_ret
      exact ⟨_, by first | rfl , by (with_reducible repeat (fail)); exact HO_3.out, by repeat (first | (with_reducible first | exact HB.out ) )⟩

end Go.Proofs.YtpdalofhekmbeaaGreatDoor.PViewKeeps
