-- Written by a program of this session over the kit's printer (with contracts of the session's own).
import Derived.Test.YtmcochnofkjhaaaDoorPAllx0
import Derived.Test.YtmcochnofkjhaaaDoorPAllx9
import Derived.Test.YtmcochnofkjhaaaDoorPAllx10
import Derived.Test.YtmcochnofkjhaaaDoorPAllx12
namespace Go.Proofs.YtmcochnofkjhaaaDoor.PAll
open Go.RowKit Go.Proofs.YtmcochnofkjhaaaDoorW.PrintWords Go.Proofs.YtmcochnofkjhaaaDoorW.PrintLast Go.Proofs.YtmcochnofkjhaaaDoorW.PrintMore
attribute [local go_sem] max2_int min2_int max_two min_two max_three min_three max_four min_four   -- for this text's walks alone
set_option linter.unusedVariables false
set_option linter.unusedSimpArgs false

/-! ### caduceusref02_Fold: function 83 -/
def caduceusref02_Fold.l0 : Nat → List Int → ByteArray → Int → Option (ByteArray)
 | 0, _, _, _ => none
 | k + 1, x3, x4, x5 => if x5 < (x3.length : Int) then (if 0 ≤ x5 then ((caduceusref02_Small.f (rd x3 x5)).bind fun t236 => ((caduceusref02_Bytes.f t236).bind fun t237 => (if x4.size + t237.size ≤ 9223372036854775807 then (caduceusref02_Fold.l0 k x3 (x4 ++ t237) (wrap64 (x5 + 1))) else (none)))) else (none)) else (some x4)
def caduceusref02_Fold.f (k : Nat) (a0 : ByteArray) : Option (ByteArray) := (caduceusref02_Valid.f k a0).bind fun t231 => (if t231 = true then ((caduceusref02_Runes.f k a0).bind fun t232 => (caduceusref02_Fold.l0 k t232 (⟨#[]⟩ : ByteArray) 0)) else (some a0))
theorem caduceusref02_Fold.mono_l : ∀ k, (∀ y0 y1 y2, LeO (caduceusref02_Fold.l0 k y0 y1 y2) (caduceusref02_Fold.l0 (k + 1) y0 y1 y2))
 | 0 => fun _ _ _ r h => by simp [caduceusref02_Fold.l0] at h
 | k + 1 => by
  have ih0 := caduceusref02_Fold.mono_l k
  ·intro y0 y1 y2
   unfold caduceusref02_Fold.l0
   repeat' first
   | (with_reducible exact ih0 _ _ _)
   | (with_reducible exact LeO.refl _)
   | (with_reducible refine LeO.ite ?_ ?_)
   | (with_reducible refine LeO.bind ?_ (fun _ => ?_))

theorem caduceusref02_Fold.mono : ∀ a0 k, LeO (caduceusref02_Fold.f k a0) (caduceusref02_Fold.f (k + 1) a0) := by
 intro a0 k
 have ih0 := caduceusref02_Fold.mono_l k
 unfold caduceusref02_Fold.f
 repeat' first
   | (with_reducible exact ih0 _ _ _)
   | (with_reducible exact caduceusref02_Runes.mono _ _)
   | (with_reducible exact caduceusref02_Valid.mono _ _)
   | (with_reducible exact LeO.refl _)
   | (with_reducible refine LeO.ite ?_ ?_)
   | (with_reducible refine LeO.bind ?_ (fun _ => ?_))

set_option maxHeartbeats 8000000 in
set_option maxRecDepth 100000 in
theorem caduceusref02_Fold.calls (k : Nat) (a0 : ByteArray) (r : ByteArray) (w : World) (h : caduceusref02_Fold.f k a0 = some r) :
  Calls Tryd.prog 83 #[.string a0] w fun e w' => e = .returned (.string r) ∧ Below w.heap.size w w' := by
 have HB := Aside0.mk (Below.refl w.heap.size w)
 have H : ((caduceusref02_Valid.f k a0).bind fun t231 => (if t231 = true then ((caduceusref02_Runes.f k a0).bind fun t232 => (caduceusref02_Fold.l0 k t232 (⟨#[]⟩ : ByteArray) 0)) else (some a0))) = some r := h
 clear h
 replace H := Option.bind_eq_some_iff.mp H
 obtain ⟨t231, A20, H⟩ := H
 replace H : (if t231 = true then ((caduceusref02_Runes.f k a0).bind fun t232 => (caduceusref02_Fold.l0 k t232 (⟨#[]⟩ : ByteArray) 0)) else (some a0)) = some r := H
 have A2 := Aside0.mk A20
 clear A20
 by_cases c3 : t231 = true
 ·subst c3
  have H1 : ((caduceusref02_Runes.f k a0).bind fun t232 => (caduceusref02_Fold.l0 k t232 (⟨#[]⟩ : ByteArray) 0)) = some r := by rw [if_pos rfl] at H; exact H
  clear H
  have H := H1
  clear H1
  replace H := Option.bind_eq_some_iff.mp H
  obtain ⟨t232, A40, H⟩ := H
  replace H : (caduceusref02_Fold.l0 k t232 (⟨#[]⟩ : ByteArray) 0) = some r := H
  have A4 := Aside0.mk A40
  clear A40
  have H' := Aside0.mk H
  clear H
  go_enter Tryd.func83, Tryd.ntmps83
  go_wp2_with (first | ((with_reducible refine gate_callee (f := 55) rfl ?_); refine goesL_ (some 7) rfl rfl Tryd.func55 (by kernel_rfl) rfl #[.string a0] rfl (by (try simp only [List.map_toArray, List.map_cons, List.map_nil]); first | rfl ) ?_; (with_reducible refine (caduceusref02_Valid.calls k a0 true _ A2.out).mono ?_); rintro e w5 ⟨rfl, hb⟩; refine ⟨_, rfl, ?_⟩; have n0_ := Aside0.mk (below_step (by repeat (first | (with_reducible first | exact HB.out ) )) hb); clear HB; have HB := n0_; clear n0_; (try clear hb); (try clear hb2); (try clear hk); (try clear hi)) | ((with_reducible refine gate_callee (f := 56) rfl ?_); refine goesL_ (some 11) rfl rfl Tryd.func56 (by kernel_rfl) rfl #[.string a0] rfl (by (try simp only [List.map_toArray, List.map_cons, List.map_nil]); first | rfl ) ?_; (with_reducible refine (caduceusref02_Runes.calls k a0 t232 _ A4.out).mono ?_); rintro e w6 ⟨v233, rfl, ho0, hb⟩; refine ⟨_, rfl, ?_⟩; have n0_ := Aside0.mk (Kd.R_lower ho0 (below_size (by repeat (first | (with_reducible first | exact HB.out ) )))); have n1_ := Aside0.mk (below_step (by repeat (first | (with_reducible first | exact HB.out ) )) hb); clear HB; have HO234 := n0_; have HB := n1_; clear n0_ n1_; (try clear hb); (try clear hb2); (try clear hk); (try clear hi); (try clear ho0)))
  go_loopg [4, 5] k (fun kq v4 v5 w' => ∃ (x4_1 : ByteArray) (x5_1 : Int), v4 = .string x4_1 ∧ v5 = .int .i64 x5_1 ∧ Aside0 (caduceusref02_Fold.l0 kq t232 x4_1 x5_1 = some r) ∧ Aside0 (kq ≤ k) ∧ Aside0 (Kd.R (Kd.int .i64) 3 w' w.heap.size (fun _ => True) v233 t232) ∧ Aside0 (Below w.heap.size w w'))
  case atStart => exact ⟨((⟨#[]⟩ : ByteArray)), (0), (by first | rfl ), (by first | rfl ), H', ⟨Nat.le_refl _⟩, ⟨by (with_reducible repeat (fail)); exact HO234.out⟩, ⟨by repeat (first | (with_reducible first | exact HB.out ) )⟩⟩
  case round =>
   clear H'
   try clear p2
   try clear c3
   try clear c5
   obtain ⟨x4_1, x5_1, rfl, rfl, HA, HK1, HO_3, HB⟩ := hrel
   cases gk with
   | zero => exact absurd HA.out (by simp [caduceusref02_Fold.l0])
   | succ k1 =>
    have H := HA.out
    clear HA
    simp only [caduceusref02_Fold.l0] at H
    by_cases c7 : x5_1 < (t232.length : Int)
    ·rw [if_pos c7] at H
     have c7b0 : decide (x5_1 < (t232.length : Int)) = true := decide_eq_true c7
     clear c7
     by_cases c8 : 0 ≤ x5_1
     ·rw [if_pos c8] at H
      have c8b0 : decide (0 ≤ x5_1) = true := decide_eq_true c8
      clear c8
      replace H := Option.bind_eq_some_iff.mp H
      obtain ⟨t236, A90, H⟩ := H
      replace H : ((caduceusref02_Bytes.f t236).bind fun t237 => (if x4_1.size + t237.size ≤ 9223372036854775807 then (caduceusref02_Fold.l0 k1 t232 (x4_1 ++ t237) (wrap64 (x5_1 + 1))) else (none))) = some r := H
      have A9 := Aside0.mk A90
      clear A90
      replace H := Option.bind_eq_some_iff.mp H
      obtain ⟨t237, A100, H⟩ := H
      replace H : (if x4_1.size + t237.size ≤ 9223372036854775807 then (caduceusref02_Fold.l0 k1 t232 (x4_1 ++ t237) (wrap64 (x5_1 + 1))) else (none)) = some r := H
      have A10 := Aside0.mk A100
      clear A100
      by_cases c11 : x4_1.size + t237.size ≤ 9223372036854775807
      ·rw [if_pos c11] at H
       have c11b0 := eq_true c11
       have c11b1 : decide (x4_1.size + t237.size ≤ 9223372036854775807) = true := decide_eq_true c11
       try have c11b2 : (9223372036854775807 < x4_1.size + t237.size) = False := eq_false (Nat.not_lt.2 c11)
       have H' := Aside0.mk H
       clear H
       obtain ⟨Ao12, co12, eo12⟩ := Kd.R_slice HO_3.out
       subst eo12
       have p235 : 0 ≤ (x5_1 : Int) := of_decide_eq_true (by first | (with_reducible assumption) )
       have q235 : x5_1 < (t232.length : Int) := of_decide_eq_true (by first | (with_reducible assumption) )
       obtain ⟨ad235, e235, hx235_0⟩ := Kd.at_int (Kd.R_reads' HO_3.out).2.2 x5_1 p235 q235
       cases e235
       replace p235 := eq_true p235
       replace q235 := eq_true q235
       go_wp2_with (first | ((with_reducible refine gate_callee (f := 89) rfl ?_); refine goesL_ (some 23) rfl rfl Tryd.func89 (by kernel_rfl) rfl #[.int .i64 (rd t232 x5_1)] rfl (by (try simp only [List.map_toArray, List.map_cons, List.map_nil]); first | rfl ) ?_; (with_reducible refine (caduceusref02_Small.calls (rd t232 x5_1) t236 _ A9.out).mono ?_); rintro e w' ⟨rfl, ⟨nd, rfl⟩⟩; refine ⟨_, rfl, ?_⟩) | ((with_reducible refine gate_callee (f := 88) rfl ?_); refine goesL_ (some 24) rfl rfl Tryd.func88 (by kernel_rfl) rfl #[.int .i64 t236] rfl (by (try simp only [List.map_toArray, List.map_cons, List.map_nil]); first | rfl ) ?_; (with_reducible refine (caduceusref02_Bytes.calls t236 t237 _ A10.out).mono ?_); rintro e w13 ⟨rfl, hb⟩; refine ⟨_, rfl, ?_⟩; have n0_ := Aside0.mk (Kd.R_below (by (with_reducible repeat (first | apply Kd.R_drewN )); exact HO_3.out) hb); have n1_ := Aside0.mk (below_step (by repeat (first | (with_reducible first | exact HB.out | apply pw_below_drewN ) )) hb); clear HO_3; clear HB; have HO_3 := n0_; have HB := n1_; clear n0_ n1_; (try clear hb); (try clear hb2); (try clear hk); (try clear hi)))
       go_roundg k1
       case measure => have := HK1.out; omega
       case rel => exact ⟨(x4_1 ++ t237), (wrap64 (x5_1 + 1)), (by first | rfl ), (by first | rfl ), H', ⟨by have := HK1.out; omega⟩, ⟨by (with_reducible repeat (fail)); exact HO_3.out⟩, ⟨by repeat (first | (with_reducible first | exact HB.out ) )⟩⟩
      ·rw [if_neg c11] at H
       exact absurd H (by simp)
     ·rw [if_neg c8] at H
      exact absurd H (by simp)
    ·rw [if_neg c7] at H
     have c7b0 : decide (x5_1 < (t232.length : Int)) = false := decide_eq_false c7
     clear c7
     obtain rfl := Option.some.inj H
     obtain ⟨Ao14, co14, eo14⟩ := Kd.R_slice HO_3.out
     subst eo14
     go_wp2
     go_ret
     exact ⟨by first | rfl , by repeat (first | (with_reducible first | exact HB.out ) )⟩
 ·replace c3 := Bool.eq_false_iff.mpr c3
  subst c3
  have H1 : (some a0) = some r := by rw [if_neg (show ¬ (false = true) by decide)] at H; exact H
  clear H
  have H := H1
  clear H1
  obtain rfl := Option.some.inj H
  go_enter Tryd.func83, Tryd.ntmps83
  go_wp2_with (first | ((with_reducible refine gate_callee (f := 55) rfl ?_); refine goesL_ (some 7) rfl rfl Tryd.func55 (by kernel_rfl) rfl #[.string a0] rfl (by (try simp only [List.map_toArray, List.map_cons, List.map_nil]); first | rfl ) ?_; (with_reducible refine (caduceusref02_Valid.calls k a0 false _ A2.out).mono ?_); rintro e w15 ⟨rfl, hb⟩; refine ⟨_, rfl, ?_⟩; have n0_ := Aside0.mk (below_step (by repeat (first | (with_reducible first | exact HB.out ) )) hb); clear HB; have HB := n0_; clear n0_; (try clear hb); (try clear hb2); (try clear hk); (try clear hi)))
  go_ret
  exact ⟨by first | rfl , by repeat (first | (with_reducible first | exact HB.out ) )⟩

/-! ### caduceusref02_Compare: function 72 (a contract of this session's own) -/
def caduceusref02_Compare.f (k : Nat) (a0 a1 : ByteArray) : Option Int := (caduceusref02_Fold.f k a0).bind fun x => (caduceusref02_Fold.f k a1).bind fun y => if x.size ≤ 1099511627776 then (if y.size ≤ 1099511627776 then ((caduceusref02_Valid.f k x).bind fun v => if v = true then ((caduceusref02_Valid.f k y).bind fun u => if u = true then ((caduceusref02_Runes.f k x).bind fun l => (caduceusref02_Runes.f k y).bind fun m => some (NC.cmpL l m)) else some (NC.cmpL (bytesOf x) (bytesOf y))) else some (NC.cmpL (bytesOf x) (bytesOf y))) else none) else none
theorem caduceusref02_Compare.mono : ∀ a0 a1 k, LeO (caduceusref02_Compare.f k a0 a1) (caduceusref02_Compare.f (k + 1) a0 a1) := by
 intro a0 a1 k
 unfold caduceusref02_Compare.f
 exact LeO.bind (caduceusref02_Fold.mono _ _) fun _ => LeO.bind (caduceusref02_Fold.mono _ _) fun _ => LeO.ite (LeO.ite (LeO.bind (caduceusref02_Valid.mono _ _) fun _ => LeO.ite (LeO.bind (caduceusref02_Valid.mono _ _) fun _ => LeO.ite (LeO.bind (caduceusref02_Runes.mono _ _) fun _ => LeO.bind (caduceusref02_Runes.mono _ _) fun _ => LeO.refl _) (LeO.refl _)) (LeO.refl _)) (LeO.refl _)) (LeO.refl _)
theorem caduceusref02_Compare.snoc (s : ByteArray) (i : Nat) (h : i < s.size) : (bytesOf s).take i ++ [bt s (i : Int)] = (bytesOf s).take (i + 1) := by
 have hl : i < (bytesOf s).length := by rw [bytesOf_length]; exact h
 rw [List.take_succ_eq_append_getElem hl, ← rd_bytesOf]
 congr 2
 simp [rd, List.getD_eq_getElem?_getD, hl]
set_option maxHeartbeats 8000000 in
set_option maxRecDepth 100000 in
theorem caduceusref02_Compare.calls1 (k : Nat) (a0 a1 x y : ByteArray) (w : World) (hf0 : caduceusref02_Fold.f k a0 = some x) (hf1 : caduceusref02_Fold.f k a1 = some y) (hz0 : x.size ≤ 1099511627776) (hz1 : y.size ≤ 1099511627776) (l m : List Int) (hv0 : caduceusref02_Valid.f k x = some true) (hv1 : caduceusref02_Valid.f k y = some true) (hl : caduceusref02_Runes.f k x = some l) (hm : caduceusref02_Runes.f k y = some m) :
  Calls Tryd.prog 72 #[.string a0, .string a1] w fun e w' => e = .returned (.int .i64 (NC.cmpL l m)) ∧ Below w.heap.size w w' := by
 have F0 := Aside0.mk hf0
 have F1 := Aside0.mk hf1
 have Z0 := Aside0.mk hz0
 have Z1 := Aside0.mk hz1
 have HB := Aside0.mk (Below.refl w.heap.size w)
 clear hf0 hf1 hz0 hz1
 have V0 := Aside0.mk hv0
 have V1 := Aside0.mk hv1
 have RL := Aside0.mk hl
 have RM := Aside0.mk hm
 clear hv0 hv1 hl hm

 go_enter Tryd.func72, Tryd.ntmps72
 go_wp2_with fail
 refine (caduceusref02_Fold.calls k a0 x _ F0.out).mono ?_
 rintro e w1 ⟨rfl, hb⟩
 have n_ := Aside0.mk (below_step HB.out hb)
 clear HB hb
 have HB := n_
 clear n_
 go_wp2_with fail
 refine (caduceusref02_Fold.calls k a1 y _ F1.out).mono ?_
 rintro e w2 ⟨rfl, hb⟩
 have n_ := Aside0.mk (below_step HB.out hb)
 clear HB hb
 have HB := n_
 clear n_
 go_wp2_with fail
 refine (caduceusref02_Valid.calls k x true _ V0.out).mono ?_
 rintro e w3 ⟨rfl, hb⟩
 have n_ := Aside0.mk (below_step HB.out hb)
 clear HB hb
 have HB := n_
 clear n_
 go_wp2_with fail
 refine (caduceusref02_Valid.calls k y true _ V1.out).mono ?_
 rintro e w4 ⟨rfl, hb⟩
 have n_ := Aside0.mk (below_step HB.out hb)
 clear HB hb
 have HB := n_
 clear n_
 go_wp2_with fail
 refine (caduceusref02_Runes.calls k x l _ RL.out).mono ?_
 rintro e w5 ⟨v7, rfl, hr, hb⟩
 obtain ⟨A7, c7, rfl, hc7, hr7⟩ := Kd.R_reads hr
 have R7 := Aside0.mk hr7
 have n_ := Aside0.mk (below_step HB.out hb)
 clear HB
 have HB := n_
 clear n_ hr hr7 hc7
 go_wp2_with fail
 refine (caduceusref02_Runes.calls k y m _ RM.out).mono ?_
 rintro e w6 ⟨v8, rfl, hr, hb⟩
 obtain ⟨A8, c8, rfl, hc8, hr8⟩ := Kd.R_reads hr
 have R8 := Aside0.mk hr8
 have n_ := Aside0.mk (below_step HB.out hb)
 clear HB
 have HB := n_
 clear n_ hr hr8 hc8
 have n7_ := Aside0.mk (Kd.C_below R7.out hb)
 clear R7 hb
 have R7 := n7_
 clear n7_
 obtain ⟨w0, rfl⟩ : ∃ w0 : World, w0 = w6 := ⟨_, rfl⟩

 have L7 := Aside0.mk (Kd.C_max R7.out)
 have L8 := Aside0.mk (Kd.C_max R8.out)
 have hm7 := L7.out
 have hm8 := L8.out
 go_wp2
 go_loopw [11] (fun v11 wr => ∃ i : Nat, v11 = .int .i64 i ∧ Aside0 (i ≤ l.length) ∧ Aside0 (i ≤ m.length) ∧ Aside0 (NC.cmpL (l.drop i) (m.drop i) = NC.cmpL l m) ∧ Aside0 (Below w0.heap.size w0 wr)) (fun v11 _ => l.length - (intOf v11).toNat)
 case atStart => exact ⟨0, rfl, ⟨by omega⟩, ⟨by omega⟩, ⟨by simp⟩, ⟨Below.refl _ _⟩⟩
 case round =>
  obtain ⟨i, rfl, HI7, HI8, HE, HB3⟩ := hrel
  have hi7 := HI7.out
  have hi8 := HI8.out
  by_cases h7 : i < l.length
  ·by_cases h8 : i < m.length
   ·obtain ⟨a7, e7, x7⟩ := Kd.at_int (Kd.C_below R7.out HB3.out) (i : Int) (by omega) (by omega)
    obtain ⟨a8, e8, x8⟩ := Kd.at_int (Kd.C_below R8.out HB3.out) (i : Int) (by omega) (by omega)
    cases e7
    cases e8
    have HS := Aside0.mk (NC.cmpL_step l m i h7 h8)
    have q7 : rd l (i : Int) = l.getD i 0 := by simp [rd]
    have q8 : rd m (i : Int) = m.getD i 0 := by simp [rd]
    rw [q7, Int.toNat_natCast] at x7
    rw [q8, Int.toNat_natCast] at x8
    clear q7 q8
    generalize hg7 : l.getD i 0 = p at HS x7
    generalize hg8 : m.getD i 0 = q at HS x8
    have G7 := Aside0.mk hg7
    have G8 := Aside0.mk hg8
    clear hg7 hg8
    have d1 : decide ((i : Int) < (l.length : Int)) = true := decide_eq_true (by omega)
    have d2 : decide ((i : Int) < (m.length : Int)) = true := decide_eq_true (by omega)
    have d3 : decide (i < l.length) = true := decide_eq_true h7
    have d4 : decide (i < m.length) = true := decide_eq_true h8
    have p1 : (0 : Int) ≤ (i : Int) := by omega
    have p2 : (i : Int) < (l.length : Int) := by omega
    have p3 : (i : Int) < (m.length : Int) := by omega
    by_cases c1 : p < q
    ·have t1 : decide (p < q) = true := decide_eq_true c1
     have HX := Aside0.mk (show NC.cmpL l m = -1 by rw [← HE.out, HS.out, if_pos c1])
     clear HE HS c1
     go_wp2
     go_quiet (fail)
     go_wp2
     go_ret
     exact ⟨NC.ret_int HX.out, below_step HB.out (by repeat (first | exact HB3.out | apply pw_below_drewN))⟩
    ·have t1 : decide (p < q) = false := decide_eq_false c1
     by_cases c2 : q < p
     ·have t2 : decide (q < p) = true := decide_eq_true c2
      have HX := Aside0.mk (show NC.cmpL l m = 1 by rw [← HE.out, HS.out, if_neg c1, if_pos c2])
      clear HE HS c1 c2
      go_wp2
      go_quiet (fail)
      go_wp2
      go_quiet (fail)
      go_wp2
      go_ret
      exact ⟨NC.ret_int HX.out, below_step HB.out (by repeat (first | exact HB3.out | apply pw_below_drewN))⟩
     ·have t2 : decide (q < p) = false := decide_eq_false c2
      have HX := Aside0.mk (show NC.cmpL (l.drop (i + 1)) (m.drop (i + 1)) = NC.cmpL l m by rw [← HE.out, HS.out, if_neg c1, if_neg c2])
      clear HE HS c1 c2
      go_wp2
      go_quiet (fail)
      go_wp2
      go_quiet (fail)
      go_wp2
      go_roundw
      case rel => exact ⟨i + 1, by go_num, ⟨h7⟩, ⟨h8⟩, HX, ⟨by repeat (first | exact HB3.out | apply pw_below_drewN)⟩⟩
      case measure => simp [intOf]; omega
   ·have HX := Aside0.mk (show NC.cmpL l m = 1 by rw [← HE.out, NC.cmpL_lens _ _ i (Or.inr (by omega)) hi7 hi8, if_neg (by omega), if_pos (by omega)])
    have d1 : decide ((i : Int) < (l.length : Int)) = true := decide_eq_true (by omega)
    have d2 : decide ((i : Int) < (m.length : Int)) = false := decide_eq_false (by omega)
    have d3 : decide (i < l.length) = true := decide_eq_true h7
    have d4 : decide (i < m.length) = false := decide_eq_false h8
    have d5 : decide (l.length < m.length) = false := decide_eq_false (by omega)
    have d6 : decide (m.length < l.length) = true := decide_eq_true (by omega)
    have d7 : decide ((l.length : Int) < (m.length : Int)) = false := decide_eq_false (by omega)
    have d8 : decide ((m.length : Int) < (l.length : Int)) = true := decide_eq_true (by omega)
    clear HE
    go_wp2
    go_ret
    exact ⟨NC.ret_int HX.out, below_step HB.out HB3.out⟩
  ·have d1 : decide ((i : Int) < (l.length : Int)) = false := decide_eq_false (by omega)
   have d3 : decide (i < l.length) = false := decide_eq_false h7
   by_cases h8 : l.length < m.length
   ·have HX := Aside0.mk (show NC.cmpL l m = -1 by rw [← HE.out, NC.cmpL_lens _ _ i (Or.inl (by omega)) hi7 hi8, if_pos (by omega)])
    have d5 : decide (l.length < m.length) = true := decide_eq_true h8
    have d7 : decide ((l.length : Int) < (m.length : Int)) = true := decide_eq_true (by omega)
    clear HE
    go_wp2
    go_ret
    exact ⟨NC.ret_int HX.out, below_step HB.out HB3.out⟩
   ·have HX := Aside0.mk (show NC.cmpL l m = 0 by rw [← HE.out, NC.cmpL_lens _ _ i (Or.inl (by omega)) hi7 hi8, if_neg (by omega), if_neg (by omega)])
    have d5 : decide (l.length < m.length) = false := decide_eq_false h8
    have d7 : decide ((l.length : Int) < (m.length : Int)) = false := decide_eq_false (by omega)
    have d6 : decide (m.length < l.length) = false := decide_eq_false (by omega)
    have d8 : decide ((m.length : Int) < (l.length : Int)) = false := decide_eq_false (by omega)
    clear HE
    go_wp2
    go_ret
    exact ⟨NC.ret_int HX.out, below_step HB.out HB3.out⟩
set_option maxHeartbeats 8000000 in
set_option maxRecDepth 100000 in
theorem caduceusref02_Compare.calls2 (k : Nat) (a0 a1 x y : ByteArray) (w : World) (hf0 : caduceusref02_Fold.f k a0 = some x) (hf1 : caduceusref02_Fold.f k a1 = some y) (hz0 : x.size ≤ 1099511627776) (hz1 : y.size ≤ 1099511627776) (hv0 : caduceusref02_Valid.f k x = some true) (hv1 : caduceusref02_Valid.f k y = some false) :
  Calls Tryd.prog 72 #[.string a0, .string a1] w fun e w' => e = .returned (.int .i64 (NC.cmpL (bytesOf x) (bytesOf y))) ∧ Below w.heap.size w w' := by
 have F0 := Aside0.mk hf0
 have F1 := Aside0.mk hf1
 have Z0 := Aside0.mk hz0
 have Z1 := Aside0.mk hz1
 have HB := Aside0.mk (Below.refl w.heap.size w)
 clear hf0 hf1 hz0 hz1
 have V0 := Aside0.mk hv0
 have V1 := Aside0.mk hv1
 clear hv0 hv1

 go_enter Tryd.func72, Tryd.ntmps72
 go_wp2_with fail
 refine (caduceusref02_Fold.calls k a0 x _ F0.out).mono ?_
 rintro e w1 ⟨rfl, hb⟩
 have n_ := Aside0.mk (below_step HB.out hb)
 clear HB hb
 have HB := n_
 clear n_
 go_wp2_with fail
 refine (caduceusref02_Fold.calls k a1 y _ F1.out).mono ?_
 rintro e w2 ⟨rfl, hb⟩
 have n_ := Aside0.mk (below_step HB.out hb)
 clear HB hb
 have HB := n_
 clear n_
 go_wp2_with fail
 refine (caduceusref02_Valid.calls k x true _ V0.out).mono ?_
 rintro e w3 ⟨rfl, hb⟩
 have n_ := Aside0.mk (below_step HB.out hb)
 clear HB hb
 have HB := n_
 clear n_
 go_wp2_with fail
 refine (caduceusref02_Valid.calls k y false _ V1.out).mono ?_
 rintro e w4 ⟨rfl, hb⟩
 have n_ := Aside0.mk (below_step HB.out hb)
 clear HB hb
 have HB := n_
 clear n_
 go_wp2
 go_loopw [7, 9] (fun v7 v9 wr => ∃ i : Nat, v9 = .int .i64 i ∧ Aside0 (i ≤ x.size) ∧ Aside0 ((Kd.int .i64).R 3 wr w.heap.size (fun _ => True) v7 ((bytesOf x).take i)) ∧ Aside0 (Below w.heap.size w wr)) (fun _ v9 _ => x.size - (intOf v9).toNat)
 case atStart => exact ⟨0, rfl, ⟨by omega⟩, ⟨by rw [List.take_zero]; exact Kd.R_nil _ _ _ _ _⟩, HB⟩
 case round =>
  obtain ⟨i, rfl, HI, HR, HBr⟩ := hrel
  have hi := HI.out
  by_cases hlt : i < x.size
  ·have hx : ((x[i]'hlt).toNat : Int) = bt x (i : Int) := by have h_ := bt_at x (i : Int) (by simpa using hlt); simpa using h_
   have hw : wrap64 (bt x (i : Int)) = bt x (i : Int) := by have hbr := bt_range x (i : Int); unfold wrap64; omega
   have p1 : (0 : Int) ≤ (i : Int) := by omega
   have p2 : (i : Int) < (x.size : Int) := by omega
   have d1 : decide ((i : Int) < (x.size : Int)) = true := decide_eq_true p2
   have d2 : decide (i < x.size) = true := decide_eq_true hlt
   have HSN := Aside0.mk (caduceusref02_Compare.snoc x i hlt)
   have hzz := Z0.out
   have HLN := Aside0.mk (show (((bytesOf x).take i).length + 1) * 8 ≤ 140737488355328 by rw [List.length_take, bytesOf_length]; omega)
   go_wp2_with (first
    | ((with_reducible refine gate_builtin (b := .append) (xs := #[.tmp 32, .tmp 37]) rfl ?_); at_builtin; refine Kd.R_append (Kd.int .i64) (w0 := w) w.heap.size rfl (.tmp 32) (.tmp 37) 46 3 (.int .i64 0) 8 rfl Tryd.underlying46 info3 rfl (by decide) (by omega) u7 ((bytesOf x).take i) (bt x (i : Int)) [.int .i64 (bt x (i : Int))] (fun _ => True) (fun _ => False) rfl (by first | (go_simp; done) ) ?aP (fun _ hk => hk.elim) ?aF ?aO ?aB ?aS ?aL ?_; (case aP => exact rfl); (case aB => exact HBr.out); (case aF => exact (fun _ _ => trivial)); (case aO => exact HR.out); (case aS => exact HBr.out.size); (case aL => exact HLN.out); intro v5 w5 ho hb hg hat; rw [HSN.out] at ho; have HO5 := Aside0.mk ho; have HB5 := Aside0.mk hb;  clear ho hb hg hat))
   go_roundw
   case rel => exact ⟨i + 1, by go_num, ⟨hlt⟩, HO5, HB5⟩
   case measure => simp [intOf]; omega
  ·have he : i = x.size := by omega
   have HRE := Aside0.mk (show (Kd.int .i64).R 3 wr w.heap.size (fun _ => True) u7 (bytesOf x) by have h_ := HR.out; rw [List.take_of_length_le (by rw [bytesOf_length]; omega)] at h_; exact h_)
   have d1 : decide ((i : Int) < (x.size : Int)) = false := decide_eq_false (by omega)
   have d2 : decide (i < x.size) = false := decide_eq_false hlt
   clear hi hlt he HR HI
   obtain ⟨A7, c7, rfl, hc7, hr7⟩ := Kd.R_reads HRE.out
   have R7 := Aside0.mk hr7
   have HB := HBr
   obtain ⟨wa, rfl⟩ : ∃ wa : World, wa = wr := ⟨_, rfl⟩
   clear hr7 hc7 HRE HBr
   go_wp2
   clear d1 d2

   go_wp2
   go_loopw [8, 10] (fun v8 v10 wr => ∃ i : Nat, v10 = .int .i64 i ∧ Aside0 (i ≤ y.size) ∧ Aside0 ((Kd.int .i64).R 3 wr w.heap.size (fun k => wa.heap.size ≤ k) v8 ((bytesOf y).take i)) ∧ Aside0 (Below w.heap.size w wr) ∧ Aside0 (Below wa.heap.size wa wr)) (fun _ v10 _ => y.size - (intOf v10).toNat)
   case atStart => exact ⟨0, rfl, ⟨by omega⟩, ⟨by rw [List.take_zero]; exact Kd.R_nil _ _ _ _ _⟩, HB, ⟨Below.refl _ _⟩⟩
   case round =>
    obtain ⟨i, rfl, HI, HR, HBr, HBa⟩ := hrel
    have hi := HI.out
    by_cases hlt : i < y.size
    ·have hx : ((y[i]'hlt).toNat : Int) = bt y (i : Int) := by have h_ := bt_at y (i : Int) (by simpa using hlt); simpa using h_
     have hw : wrap64 (bt y (i : Int)) = bt y (i : Int) := by have hbr := bt_range y (i : Int); unfold wrap64; omega
     have p1 : (0 : Int) ≤ (i : Int) := by omega
     have p2 : (i : Int) < (y.size : Int) := by omega
     have d1 : decide ((i : Int) < (y.size : Int)) = true := decide_eq_true p2
     have d2 : decide (i < y.size) = true := decide_eq_true hlt
     have HSN := Aside0.mk (caduceusref02_Compare.snoc y i hlt)
     have hzz := Z1.out
     have HLN := Aside0.mk (show (((bytesOf y).take i).length + 1) * 8 ≤ 140737488355328 by rw [List.length_take, bytesOf_length]; omega)
     go_wp2_with (first
      | ((with_reducible refine gate_builtin (b := .append) (xs := #[.tmp 45, .tmp 50]) rfl ?_); at_builtin; refine Kd.R_append (Kd.int .i64) (w0 := w) w.heap.size rfl (.tmp 45) (.tmp 50) 46 3 (.int .i64 0) 8 rfl Tryd.underlying46 info3 rfl (by decide) (by omega) u8 ((bytesOf y).take i) (bt y (i : Int)) [.int .i64 (bt y (i : Int))] (fun k => wa.heap.size ≤ k) (fun _ => False) rfl (by first | (go_simp; done) ) ?aP (fun _ hk => hk.elim) ?aF ?aO ?aB ?aS ?aL ?_; (case aP => exact rfl); (case aB => exact HBr.out); (case aF => exact (fun k hk => Nat.le_trans HBa.out.size hk)); (case aO => exact HR.out); (case aS => exact HBr.out.size); (case aL => exact HLN.out); intro v5 w5 ho hb hg hat; rw [HSN.out] at ho; have HO5 := Aside0.mk ho; have HB5 := Aside0.mk hb; have HA5 := Aside0.mk (HBa.out.grown hg HBa.out.size (fun k hk => HR.out.1 k hk));  clear ho hb hg hat))
     go_roundw
     case rel => exact ⟨i + 1, by go_num, ⟨hlt⟩, HO5, HB5, HA5⟩
     case measure => simp [intOf]; omega
    ·have he : i = y.size := by omega
     have HRE := Aside0.mk (show (Kd.int .i64).R 3 wr w.heap.size (fun k => wa.heap.size ≤ k) u8 (bytesOf y) by have h_ := HR.out; rw [List.take_of_length_le (by rw [bytesOf_length]; omega)] at h_; exact h_)
     have d1 : decide ((i : Int) < (y.size : Int)) = false := decide_eq_false (by omega)
     have d2 : decide (i < y.size) = false := decide_eq_false hlt
     clear hi hlt he HR HI
     obtain ⟨A8, c8, rfl, hc8, hr8⟩ := Kd.R_reads HRE.out
     have R8 := Aside0.mk hr8
     have n7_ := Aside0.mk (Kd.C_below R7.out HBa.out)
     clear R7
     have R7 := n7_
     clear n7_ hr8 hc8 HRE HB
     have HB := HBr
     clear HBr HBa
     go_wp2
     clear d1 d2
     obtain ⟨w0, rfl⟩ : ∃ w0 : World, w0 = wr := ⟨_, rfl⟩

     have L7 := Aside0.mk (Kd.C_max R7.out)
     have L8 := Aside0.mk (Kd.C_max R8.out)
     have hm7 := L7.out
     have hm8 := L8.out
     go_wp2
     go_loopw [11] (fun v11 wr => ∃ i : Nat, v11 = .int .i64 i ∧ Aside0 (i ≤ (bytesOf x).length) ∧ Aside0 (i ≤ (bytesOf y).length) ∧ Aside0 (NC.cmpL ((bytesOf x).drop i) ((bytesOf y).drop i) = NC.cmpL (bytesOf x) (bytesOf y)) ∧ Aside0 (Below w0.heap.size w0 wr)) (fun v11 _ => (bytesOf x).length - (intOf v11).toNat)
     case atStart => exact ⟨0, rfl, ⟨by omega⟩, ⟨by omega⟩, ⟨by simp⟩, ⟨Below.refl _ _⟩⟩
     case round =>
      obtain ⟨i, rfl, HI7, HI8, HE, HB3⟩ := hrel
      have hi7 := HI7.out
      have hi8 := HI8.out
      by_cases h7 : i < (bytesOf x).length
      ·by_cases h8 : i < (bytesOf y).length
       ·obtain ⟨a7, e7, x7⟩ := Kd.at_int (Kd.C_below R7.out HB3.out) (i : Int) (by omega) (by omega)
        obtain ⟨a8, e8, x8⟩ := Kd.at_int (Kd.C_below R8.out HB3.out) (i : Int) (by omega) (by omega)
        cases e7
        cases e8
        have HS := Aside0.mk (NC.cmpL_step (bytesOf x) (bytesOf y) i h7 h8)
        have q7 : rd (bytesOf x) (i : Int) = (bytesOf x).getD i 0 := by simp [rd]
        have q8 : rd (bytesOf y) (i : Int) = (bytesOf y).getD i 0 := by simp [rd]
        rw [q7, Int.toNat_natCast] at x7
        rw [q8, Int.toNat_natCast] at x8
        clear q7 q8
        generalize hg7 : (bytesOf x).getD i 0 = p at HS x7
        generalize hg8 : (bytesOf y).getD i 0 = q at HS x8
        have G7 := Aside0.mk hg7
        have G8 := Aside0.mk hg8
        clear hg7 hg8
        have d1 : decide ((i : Int) < ((bytesOf x).length : Int)) = true := decide_eq_true (by omega)
        have d2 : decide ((i : Int) < ((bytesOf y).length : Int)) = true := decide_eq_true (by omega)
        have d3 : decide (i < (bytesOf x).length) = true := decide_eq_true h7
        have d4 : decide (i < (bytesOf y).length) = true := decide_eq_true h8
        have p1 : (0 : Int) ≤ (i : Int) := by omega
        have p2 : (i : Int) < ((bytesOf x).length : Int) := by omega
        have p3 : (i : Int) < ((bytesOf y).length : Int) := by omega
        by_cases c1 : p < q
        ·have t1 : decide (p < q) = true := decide_eq_true c1
         have HX := Aside0.mk (show NC.cmpL (bytesOf x) (bytesOf y) = -1 by rw [← HE.out, HS.out, if_pos c1])
         clear HE HS c1
         go_wp2
         go_quiet (fail)
         go_wp2
         go_ret
         exact ⟨NC.ret_int HX.out, below_step HB.out (by repeat (first | exact HB3.out | apply pw_below_drewN))⟩
        ·have t1 : decide (p < q) = false := decide_eq_false c1
         by_cases c2 : q < p
         ·have t2 : decide (q < p) = true := decide_eq_true c2
          have HX := Aside0.mk (show NC.cmpL (bytesOf x) (bytesOf y) = 1 by rw [← HE.out, HS.out, if_neg c1, if_pos c2])
          clear HE HS c1 c2
          go_wp2
          go_quiet (fail)
          go_wp2
          go_quiet (fail)
          go_wp2
          go_ret
          exact ⟨NC.ret_int HX.out, below_step HB.out (by repeat (first | exact HB3.out | apply pw_below_drewN))⟩
         ·have t2 : decide (q < p) = false := decide_eq_false c2
          have HX := Aside0.mk (show NC.cmpL ((bytesOf x).drop (i + 1)) ((bytesOf y).drop (i + 1)) = NC.cmpL (bytesOf x) (bytesOf y) by rw [← HE.out, HS.out, if_neg c1, if_neg c2])
          clear HE HS c1 c2
          go_wp2
          go_quiet (fail)
          go_wp2
          go_quiet (fail)
          go_wp2
          go_roundw
          case rel => exact ⟨i + 1, by go_num, ⟨h7⟩, ⟨h8⟩, HX, ⟨by repeat (first | exact HB3.out | apply pw_below_drewN)⟩⟩
          case measure => simp [intOf]; omega
       ·have HX := Aside0.mk (show NC.cmpL (bytesOf x) (bytesOf y) = 1 by rw [← HE.out, NC.cmpL_lens _ _ i (Or.inr (by omega)) hi7 hi8, if_neg (by omega), if_pos (by omega)])
        have d1 : decide ((i : Int) < ((bytesOf x).length : Int)) = true := decide_eq_true (by omega)
        have d2 : decide ((i : Int) < ((bytesOf y).length : Int)) = false := decide_eq_false (by omega)
        have d3 : decide (i < (bytesOf x).length) = true := decide_eq_true h7
        have d4 : decide (i < (bytesOf y).length) = false := decide_eq_false h8
        have d5 : decide ((bytesOf x).length < (bytesOf y).length) = false := decide_eq_false (by omega)
        have d6 : decide ((bytesOf y).length < (bytesOf x).length) = true := decide_eq_true (by omega)
        have d7 : decide (((bytesOf x).length : Int) < ((bytesOf y).length : Int)) = false := decide_eq_false (by omega)
        have d8 : decide (((bytesOf y).length : Int) < ((bytesOf x).length : Int)) = true := decide_eq_true (by omega)
        clear HE
        go_wp2
        go_ret
        exact ⟨NC.ret_int HX.out, below_step HB.out HB3.out⟩
      ·have d1 : decide ((i : Int) < ((bytesOf x).length : Int)) = false := decide_eq_false (by omega)
       have d3 : decide (i < (bytesOf x).length) = false := decide_eq_false h7
       by_cases h8 : (bytesOf x).length < (bytesOf y).length
       ·have HX := Aside0.mk (show NC.cmpL (bytesOf x) (bytesOf y) = -1 by rw [← HE.out, NC.cmpL_lens _ _ i (Or.inl (by omega)) hi7 hi8, if_pos (by omega)])
        have d5 : decide ((bytesOf x).length < (bytesOf y).length) = true := decide_eq_true h8
        have d7 : decide (((bytesOf x).length : Int) < ((bytesOf y).length : Int)) = true := decide_eq_true (by omega)
        clear HE
        go_wp2
        go_ret
        exact ⟨NC.ret_int HX.out, below_step HB.out HB3.out⟩
       ·have HX := Aside0.mk (show NC.cmpL (bytesOf x) (bytesOf y) = 0 by rw [← HE.out, NC.cmpL_lens _ _ i (Or.inl (by omega)) hi7 hi8, if_neg (by omega), if_neg (by omega)])
        have d5 : decide ((bytesOf x).length < (bytesOf y).length) = false := decide_eq_false h8
        have d7 : decide (((bytesOf x).length : Int) < ((bytesOf y).length : Int)) = false := decide_eq_false (by omega)
        have d6 : decide ((bytesOf y).length < (bytesOf x).length) = false := decide_eq_false (by omega)
        have d8 : decide (((bytesOf y).length : Int) < ((bytesOf x).length : Int)) = false := decide_eq_false (by omega)
        clear HE
        go_wp2
        go_ret
        exact ⟨NC.ret_int HX.out, below_step HB.out HB3.out⟩
set_option maxHeartbeats 8000000 in
set_option maxRecDepth 100000 in
theorem caduceusref02_Compare.calls3 (k : Nat) (a0 a1 x y : ByteArray) (w : World) (hf0 : caduceusref02_Fold.f k a0 = some x) (hf1 : caduceusref02_Fold.f k a1 = some y) (hz0 : x.size ≤ 1099511627776) (hz1 : y.size ≤ 1099511627776) (hv0 : caduceusref02_Valid.f k x = some false) :
  Calls Tryd.prog 72 #[.string a0, .string a1] w fun e w' => e = .returned (.int .i64 (NC.cmpL (bytesOf x) (bytesOf y))) ∧ Below w.heap.size w w' := by
 have F0 := Aside0.mk hf0
 have F1 := Aside0.mk hf1
 have Z0 := Aside0.mk hz0
 have Z1 := Aside0.mk hz1
 have HB := Aside0.mk (Below.refl w.heap.size w)
 clear hf0 hf1 hz0 hz1
 have V0 := Aside0.mk hv0
 clear hv0

 go_enter Tryd.func72, Tryd.ntmps72
 go_wp2_with fail
 refine (caduceusref02_Fold.calls k a0 x _ F0.out).mono ?_
 rintro e w1 ⟨rfl, hb⟩
 have n_ := Aside0.mk (below_step HB.out hb)
 clear HB hb
 have HB := n_
 clear n_
 go_wp2_with fail
 refine (caduceusref02_Fold.calls k a1 y _ F1.out).mono ?_
 rintro e w2 ⟨rfl, hb⟩
 have n_ := Aside0.mk (below_step HB.out hb)
 clear HB hb
 have HB := n_
 clear n_
 go_wp2_with fail
 refine (caduceusref02_Valid.calls k x false _ V0.out).mono ?_
 rintro e w3 ⟨rfl, hb⟩
 have n_ := Aside0.mk (below_step HB.out hb)
 clear HB hb
 have HB := n_
 clear n_
 go_wp2
 go_loopw [7, 9] (fun v7 v9 wr => ∃ i : Nat, v9 = .int .i64 i ∧ Aside0 (i ≤ x.size) ∧ Aside0 ((Kd.int .i64).R 3 wr w.heap.size (fun _ => True) v7 ((bytesOf x).take i)) ∧ Aside0 (Below w.heap.size w wr)) (fun _ v9 _ => x.size - (intOf v9).toNat)
 case atStart => exact ⟨0, rfl, ⟨by omega⟩, ⟨by rw [List.take_zero]; exact Kd.R_nil _ _ _ _ _⟩, HB⟩
 case round =>
  obtain ⟨i, rfl, HI, HR, HBr⟩ := hrel
  have hi := HI.out
  by_cases hlt : i < x.size
  ·have hx : ((x[i]'hlt).toNat : Int) = bt x (i : Int) := by have h_ := bt_at x (i : Int) (by simpa using hlt); simpa using h_
   have hw : wrap64 (bt x (i : Int)) = bt x (i : Int) := by have hbr := bt_range x (i : Int); unfold wrap64; omega
   have p1 : (0 : Int) ≤ (i : Int) := by omega
   have p2 : (i : Int) < (x.size : Int) := by omega
   have d1 : decide ((i : Int) < (x.size : Int)) = true := decide_eq_true p2
   have d2 : decide (i < x.size) = true := decide_eq_true hlt
   have HSN := Aside0.mk (caduceusref02_Compare.snoc x i hlt)
   have hzz := Z0.out
   have HLN := Aside0.mk (show (((bytesOf x).take i).length + 1) * 8 ≤ 140737488355328 by rw [List.length_take, bytesOf_length]; omega)
   go_wp2_with (first
    | ((with_reducible refine gate_builtin (b := .append) (xs := #[.tmp 32, .tmp 37]) rfl ?_); at_builtin; refine Kd.R_append (Kd.int .i64) (w0 := w) w.heap.size rfl (.tmp 32) (.tmp 37) 46 3 (.int .i64 0) 8 rfl Tryd.underlying46 info3 rfl (by decide) (by omega) u7 ((bytesOf x).take i) (bt x (i : Int)) [.int .i64 (bt x (i : Int))] (fun _ => True) (fun _ => False) rfl (by first | (go_simp; done) ) ?aP (fun _ hk => hk.elim) ?aF ?aO ?aB ?aS ?aL ?_; (case aP => exact rfl); (case aB => exact HBr.out); (case aF => exact (fun _ _ => trivial)); (case aO => exact HR.out); (case aS => exact HBr.out.size); (case aL => exact HLN.out); intro v5 w5 ho hb hg hat; rw [HSN.out] at ho; have HO5 := Aside0.mk ho; have HB5 := Aside0.mk hb;  clear ho hb hg hat))
   go_roundw
   case rel => exact ⟨i + 1, by go_num, ⟨hlt⟩, HO5, HB5⟩
   case measure => simp [intOf]; omega
  ·have he : i = x.size := by omega
   have HRE := Aside0.mk (show (Kd.int .i64).R 3 wr w.heap.size (fun _ => True) u7 (bytesOf x) by have h_ := HR.out; rw [List.take_of_length_le (by rw [bytesOf_length]; omega)] at h_; exact h_)
   have d1 : decide ((i : Int) < (x.size : Int)) = false := decide_eq_false (by omega)
   have d2 : decide (i < x.size) = false := decide_eq_false hlt
   clear hi hlt he HR HI
   obtain ⟨A7, c7, rfl, hc7, hr7⟩ := Kd.R_reads HRE.out
   have R7 := Aside0.mk hr7
   have HB := HBr
   obtain ⟨wa, rfl⟩ : ∃ wa : World, wa = wr := ⟨_, rfl⟩
   clear hr7 hc7 HRE HBr
   go_wp2
   clear d1 d2

   go_wp2
   go_loopw [8, 10] (fun v8 v10 wr => ∃ i : Nat, v10 = .int .i64 i ∧ Aside0 (i ≤ y.size) ∧ Aside0 ((Kd.int .i64).R 3 wr w.heap.size (fun k => wa.heap.size ≤ k) v8 ((bytesOf y).take i)) ∧ Aside0 (Below w.heap.size w wr) ∧ Aside0 (Below wa.heap.size wa wr)) (fun _ v10 _ => y.size - (intOf v10).toNat)
   case atStart => exact ⟨0, rfl, ⟨by omega⟩, ⟨by rw [List.take_zero]; exact Kd.R_nil _ _ _ _ _⟩, HB, ⟨Below.refl _ _⟩⟩
   case round =>
    obtain ⟨i, rfl, HI, HR, HBr, HBa⟩ := hrel
    have hi := HI.out
    by_cases hlt : i < y.size
    ·have hx : ((y[i]'hlt).toNat : Int) = bt y (i : Int) := by have h_ := bt_at y (i : Int) (by simpa using hlt); simpa using h_
     have hw : wrap64 (bt y (i : Int)) = bt y (i : Int) := by have hbr := bt_range y (i : Int); unfold wrap64; omega
     have p1 : (0 : Int) ≤ (i : Int) := by omega
     have p2 : (i : Int) < (y.size : Int) := by omega
     have d1 : decide ((i : Int) < (y.size : Int)) = true := decide_eq_true p2
     have d2 : decide (i < y.size) = true := decide_eq_true hlt
     have HSN := Aside0.mk (caduceusref02_Compare.snoc y i hlt)
     have hzz := Z1.out
     have HLN := Aside0.mk (show (((bytesOf y).take i).length + 1) * 8 ≤ 140737488355328 by rw [List.length_take, bytesOf_length]; omega)
     go_wp2_with (first
      | ((with_reducible refine gate_builtin (b := .append) (xs := #[.tmp 45, .tmp 50]) rfl ?_); at_builtin; refine Kd.R_append (Kd.int .i64) (w0 := w) w.heap.size rfl (.tmp 45) (.tmp 50) 46 3 (.int .i64 0) 8 rfl Tryd.underlying46 info3 rfl (by decide) (by omega) u8 ((bytesOf y).take i) (bt y (i : Int)) [.int .i64 (bt y (i : Int))] (fun k => wa.heap.size ≤ k) (fun _ => False) rfl (by first | (go_simp; done) ) ?aP (fun _ hk => hk.elim) ?aF ?aO ?aB ?aS ?aL ?_; (case aP => exact rfl); (case aB => exact HBr.out); (case aF => exact (fun k hk => Nat.le_trans HBa.out.size hk)); (case aO => exact HR.out); (case aS => exact HBr.out.size); (case aL => exact HLN.out); intro v5 w5 ho hb hg hat; rw [HSN.out] at ho; have HO5 := Aside0.mk ho; have HB5 := Aside0.mk hb; have HA5 := Aside0.mk (HBa.out.grown hg HBa.out.size (fun k hk => HR.out.1 k hk));  clear ho hb hg hat))
     go_roundw
     case rel => exact ⟨i + 1, by go_num, ⟨hlt⟩, HO5, HB5, HA5⟩
     case measure => simp [intOf]; omega
    ·have he : i = y.size := by omega
     have HRE := Aside0.mk (show (Kd.int .i64).R 3 wr w.heap.size (fun k => wa.heap.size ≤ k) u8 (bytesOf y) by have h_ := HR.out; rw [List.take_of_length_le (by rw [bytesOf_length]; omega)] at h_; exact h_)
     have d1 : decide ((i : Int) < (y.size : Int)) = false := decide_eq_false (by omega)
     have d2 : decide (i < y.size) = false := decide_eq_false hlt
     clear hi hlt he HR HI
     obtain ⟨A8, c8, rfl, hc8, hr8⟩ := Kd.R_reads HRE.out
     have R8 := Aside0.mk hr8
     have n7_ := Aside0.mk (Kd.C_below R7.out HBa.out)
     clear R7
     have R7 := n7_
     clear n7_ hr8 hc8 HRE HB
     have HB := HBr
     clear HBr HBa
     go_wp2
     clear d1 d2
     obtain ⟨w0, rfl⟩ : ∃ w0 : World, w0 = wr := ⟨_, rfl⟩

     have L7 := Aside0.mk (Kd.C_max R7.out)
     have L8 := Aside0.mk (Kd.C_max R8.out)
     have hm7 := L7.out
     have hm8 := L8.out
     go_wp2
     go_loopw [11] (fun v11 wr => ∃ i : Nat, v11 = .int .i64 i ∧ Aside0 (i ≤ (bytesOf x).length) ∧ Aside0 (i ≤ (bytesOf y).length) ∧ Aside0 (NC.cmpL ((bytesOf x).drop i) ((bytesOf y).drop i) = NC.cmpL (bytesOf x) (bytesOf y)) ∧ Aside0 (Below w0.heap.size w0 wr)) (fun v11 _ => (bytesOf x).length - (intOf v11).toNat)
     case atStart => exact ⟨0, rfl, ⟨by omega⟩, ⟨by omega⟩, ⟨by simp⟩, ⟨Below.refl _ _⟩⟩
     case round =>
      obtain ⟨i, rfl, HI7, HI8, HE, HB3⟩ := hrel
      have hi7 := HI7.out
      have hi8 := HI8.out
      by_cases h7 : i < (bytesOf x).length
      ·by_cases h8 : i < (bytesOf y).length
       ·obtain ⟨a7, e7, x7⟩ := Kd.at_int (Kd.C_below R7.out HB3.out) (i : Int) (by omega) (by omega)
        obtain ⟨a8, e8, x8⟩ := Kd.at_int (Kd.C_below R8.out HB3.out) (i : Int) (by omega) (by omega)
        cases e7
        cases e8
        have HS := Aside0.mk (NC.cmpL_step (bytesOf x) (bytesOf y) i h7 h8)
        have q7 : rd (bytesOf x) (i : Int) = (bytesOf x).getD i 0 := by simp [rd]
        have q8 : rd (bytesOf y) (i : Int) = (bytesOf y).getD i 0 := by simp [rd]
        rw [q7, Int.toNat_natCast] at x7
        rw [q8, Int.toNat_natCast] at x8
        clear q7 q8
        generalize hg7 : (bytesOf x).getD i 0 = p at HS x7
        generalize hg8 : (bytesOf y).getD i 0 = q at HS x8
        have G7 := Aside0.mk hg7
        have G8 := Aside0.mk hg8
        clear hg7 hg8
        have d1 : decide ((i : Int) < ((bytesOf x).length : Int)) = true := decide_eq_true (by omega)
        have d2 : decide ((i : Int) < ((bytesOf y).length : Int)) = true := decide_eq_true (by omega)
        have d3 : decide (i < (bytesOf x).length) = true := decide_eq_true h7
        have d4 : decide (i < (bytesOf y).length) = true := decide_eq_true h8
        have p1 : (0 : Int) ≤ (i : Int) := by omega
        have p2 : (i : Int) < ((bytesOf x).length : Int) := by omega
        have p3 : (i : Int) < ((bytesOf y).length : Int) := by omega
        by_cases c1 : p < q
        ·have t1 : decide (p < q) = true := decide_eq_true c1
         have HX := Aside0.mk (show NC.cmpL (bytesOf x) (bytesOf y) = -1 by rw [← HE.out, HS.out, if_pos c1])
         clear HE HS c1
         go_wp2
         go_quiet (fail)
         go_wp2
         go_ret
         exact ⟨NC.ret_int HX.out, below_step HB.out (by repeat (first | exact HB3.out | apply pw_below_drewN))⟩
        ·have t1 : decide (p < q) = false := decide_eq_false c1
         by_cases c2 : q < p
         ·have t2 : decide (q < p) = true := decide_eq_true c2
          have HX := Aside0.mk (show NC.cmpL (bytesOf x) (bytesOf y) = 1 by rw [← HE.out, HS.out, if_neg c1, if_pos c2])
          clear HE HS c1 c2
          go_wp2
          go_quiet (fail)
          go_wp2
          go_quiet (fail)
          go_wp2
          go_ret
          exact ⟨NC.ret_int HX.out, below_step HB.out (by repeat (first | exact HB3.out | apply pw_below_drewN))⟩
         ·have t2 : decide (q < p) = false := decide_eq_false c2
          have HX := Aside0.mk (show NC.cmpL ((bytesOf x).drop (i + 1)) ((bytesOf y).drop (i + 1)) = NC.cmpL (bytesOf x) (bytesOf y) by rw [← HE.out, HS.out, if_neg c1, if_neg c2])
          clear HE HS c1 c2
          go_wp2
          go_quiet (fail)
          go_wp2
          go_quiet (fail)
          go_wp2
          go_roundw
          case rel => exact ⟨i + 1, by go_num, ⟨h7⟩, ⟨h8⟩, HX, ⟨by repeat (first | exact HB3.out | apply pw_below_drewN)⟩⟩
          case measure => simp [intOf]; omega
       ·have HX := Aside0.mk (show NC.cmpL (bytesOf x) (bytesOf y) = 1 by rw [← HE.out, NC.cmpL_lens _ _ i (Or.inr (by omega)) hi7 hi8, if_neg (by omega), if_pos (by omega)])
        have d1 : decide ((i : Int) < ((bytesOf x).length : Int)) = true := decide_eq_true (by omega)
        have d2 : decide ((i : Int) < ((bytesOf y).length : Int)) = false := decide_eq_false (by omega)
        have d3 : decide (i < (bytesOf x).length) = true := decide_eq_true h7
        have d4 : decide (i < (bytesOf y).length) = false := decide_eq_false h8
        have d5 : decide ((bytesOf x).length < (bytesOf y).length) = false := decide_eq_false (by omega)
        have d6 : decide ((bytesOf y).length < (bytesOf x).length) = true := decide_eq_true (by omega)
        have d7 : decide (((bytesOf x).length : Int) < ((bytesOf y).length : Int)) = false := decide_eq_false (by omega)
        have d8 : decide (((bytesOf y).length : Int) < ((bytesOf x).length : Int)) = true := decide_eq_true (by omega)
        clear HE
        go_wp2
        go_ret
        exact ⟨NC.ret_int HX.out, below_step HB.out HB3.out⟩
      ·have d1 : decide ((i : Int) < ((bytesOf x).length : Int)) = false := decide_eq_false (by omega)
       have d3 : decide (i < (bytesOf x).length) = false := decide_eq_false h7
       by_cases h8 : (bytesOf x).length < (bytesOf y).length
       ·have HX := Aside0.mk (show NC.cmpL (bytesOf x) (bytesOf y) = -1 by rw [← HE.out, NC.cmpL_lens _ _ i (Or.inl (by omega)) hi7 hi8, if_pos (by omega)])
        have d5 : decide ((bytesOf x).length < (bytesOf y).length) = true := decide_eq_true h8
        have d7 : decide (((bytesOf x).length : Int) < ((bytesOf y).length : Int)) = true := decide_eq_true (by omega)
        clear HE
        go_wp2
        go_ret
        exact ⟨NC.ret_int HX.out, below_step HB.out HB3.out⟩
       ·have HX := Aside0.mk (show NC.cmpL (bytesOf x) (bytesOf y) = 0 by rw [← HE.out, NC.cmpL_lens _ _ i (Or.inl (by omega)) hi7 hi8, if_neg (by omega), if_neg (by omega)])
        have d5 : decide ((bytesOf x).length < (bytesOf y).length) = false := decide_eq_false h8
        have d7 : decide (((bytesOf x).length : Int) < ((bytesOf y).length : Int)) = false := decide_eq_false (by omega)
        have d6 : decide ((bytesOf y).length < (bytesOf x).length) = false := decide_eq_false (by omega)
        have d8 : decide (((bytesOf y).length : Int) < ((bytesOf x).length : Int)) = false := decide_eq_false (by omega)
        clear HE
        go_wp2
        go_ret
        exact ⟨NC.ret_int HX.out, below_step HB.out HB3.out⟩
theorem caduceusref02_Compare.calls (k : Nat) (a0 a1 : ByteArray) (r : Int) (w : World) (h : caduceusref02_Compare.f k a0 a1 = some r) :
  Calls Tryd.prog 72 #[.string a0, .string a1] w fun e w' => e = .returned (.int .i64 r) ∧ Below w.heap.size w w' := by
 unfold caduceusref02_Compare.f at h
 obtain ⟨x, hx, h⟩ := Option.bind_eq_some_iff.mp h
 obtain ⟨y, hy, h⟩ := Option.bind_eq_some_iff.mp h
 by_cases z0 : x.size ≤ 1099511627776
 case neg => rw [if_neg z0] at h; cases h
 rw [if_pos z0] at h
 by_cases z1 : y.size ≤ 1099511627776
 case neg => rw [if_neg z1] at h; cases h
 rw [if_pos z1] at h
 obtain ⟨v, hv, h⟩ := Option.bind_eq_some_iff.mp h
 cases v with
 | true =>
  rw [if_pos rfl] at h
  obtain ⟨u, hu, h⟩ := Option.bind_eq_some_iff.mp h
  cases u with
  | true =>
   rw [if_pos rfl] at h
   obtain ⟨l, hl, h⟩ := Option.bind_eq_some_iff.mp h
   obtain ⟨m, hm, h⟩ := Option.bind_eq_some_iff.mp h
   obtain rfl := Option.some.inj h
   exact caduceusref02_Compare.calls1 k a0 a1 x y w hx hy z0 z1 l m hv hu hl hm
  | false =>
   rw [if_neg (by decide)] at h
   obtain rfl := Option.some.inj h
   exact caduceusref02_Compare.calls2 k a0 a1 x y w hx hy z0 z1 hv hu
 | false =>
  rw [if_neg (by decide)] at h
  obtain rfl := Option.some.inj h
  exact caduceusref02_Compare.calls3 k a0 a1 x y w hx hy z0 z1 hv

end Go.Proofs.YtmcochnofkjhaaaDoor.PAll
