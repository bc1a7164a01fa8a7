-- Written by a program of this session over the kit's printer (with contracts of the session's own).
import Derived.Test.YtmcochnofkjhaaaDoorPAllx0
import Derived.Test.YtmcochnofkjhaaaDoorPAllx3
import Derived.Test.YtmcochnofkjhaaaDoorPAllx4
namespace Go.Proofs.YtmcochnofkjhaaaDoor.PAll
open Go.RowKit Go.Proofs.YtmcochnofkjhaaaDoorW.PrintWords Go.Proofs.YtmcochnofkjhaaaDoorW.PrintLast Go.Proofs.YtmcochnofkjhaaaDoorW.PrintMore
attribute [local go_sem] max2_int min2_int max_two min_two max_three min_three max_four min_four   -- for this text's walks alone
set_option linter.unusedVariables false
set_option linter.unusedSimpArgs false

/-! ### name_Compare: function 54 (a contract of this session's own) -/
def name_Compare.f (k : Nat) (a0 a1 : ByteArray) : Option Int := if a0.size ≤ 17592186044416 then (if a1.size ≤ 17592186044416 then (if Lib.validD (NC.foldB a0).data.toList = true then (if Lib.validD (NC.foldB a1).data.toList = true then slices_Compare_rune_rune.f k (NC.runes (NC.foldB a0)) (NC.runes (NC.foldB a1)) else cmp_Compare_string.f (NC.foldB a0) (NC.foldB a1)) else cmp_Compare_string.f (NC.foldB a0) (NC.foldB a1)) else none) else none
theorem name_Compare.mono : ∀ a0 a1 k, LeO (name_Compare.f k a0 a1) (name_Compare.f (k + 1) a0 a1) := by
 intro a0 a1 k
 unfold name_Compare.f
 exact LeO.ite (LeO.ite (LeO.ite (LeO.ite (slices_Compare_rune_rune.mono _ _ _) (LeO.refl _)) (LeO.refl _)) (LeO.refl _)) (LeO.refl _)
theorem name_Compare.size (s : ByteArray) : (NC.foldB s).size ≤ 4 * s.size := by
 unfold NC.foldB
 split
 ·have h1 := runesBytes_size_le ((NC.runes s).map NC.smallZ)
  have h2 := NC.runes_len s
  rw [List.length_map] at h1
  omega
 ·omega
set_option maxHeartbeats 4000000 in
set_option maxRecDepth 100000 in
theorem name_Compare.calls (k : Nat) (a0 a1 : ByteArray) (r : Int) (w : World) (h : name_Compare.f k a0 a1 = some r) (hT : NC.TabW w) :
  Calls Tryd.prog 54 #[.string a0, .string a1] w fun e w' => e = .returned (.int .i64 r) ∧ Below w.heap.size w w' := by
 unfold name_Compare.f at h
 by_cases hs0 : a0.size ≤ 17592186044416
 case neg => rw [if_neg hs0] at h; cases h
 rw [if_pos hs0] at h
 by_cases hs1 : a1.size ≤ 17592186044416
 case neg => rw [if_neg hs1] at h; cases h
 rw [if_pos hs1] at h
 have hz0 := name_Compare.size a0
 have hz1 := name_Compare.size a1
 have hf0 : name_Fold.f a0 = some (NC.foldB a0) := by unfold name_Fold.f; rw [if_pos hs0]
 have hf1 : name_Fold.f a1 = some (NC.foldB a1) := by unfold name_Fold.f; rw [if_pos hs1]
 generalize NC.foldB a0 = x at *
 generalize NC.foldB a1 = y at *
 have F0 := Aside0.mk hf0
 have F1 := Aside0.mk hf1
 have HT := Aside0.mk hT
 have V0 := Aside0.mk (show utf8_ValidString.f x = some (Lib.validD x.data.toList) by unfold utf8_ValidString.f; rw [if_pos (by omega)])
 have V1 := Aside0.mk (show utf8_ValidString.f y = some (Lib.validD y.data.toList) by unfold utf8_ValidString.f; rw [if_pos (by omega)])
 have S0 := Aside0.mk (show x.size ≤ 70368744177664 by omega)
 have S1 := Aside0.mk (show y.size ≤ 70368744177664 by omega)
 clear hf0 hf1 hz0 hz1 hs0 hs1 hT
 by_cases hv0 : Lib.validD x.data.toList = true
 ·rw [if_pos hv0] at h
  rw [hv0] at V0
  by_cases hv1 : Lib.validD y.data.toList = true
  ·rw [if_pos hv1] at h
   rw [hv1] at V1
   have H := Aside0.mk h
   clear hv0 hv1 h
   go_enter Tryd.func54, Tryd.ntmps54
   go_wp2_with fail
   refine (name_Fold.calls a0 x _ F0.out HT.out).mono ?_
   rintro e w1 ⟨rfl, hb1⟩
   have T1 := Aside0.mk (HT.out.below hb1)
   go_wp2_with fail
   refine (name_Fold.calls a1 y _ F1.out T1.out).mono ?_
   rintro e w2 ⟨rfl, hb2⟩
   have T2 := Aside0.mk (T1.out.below hb2)
   have B2 := Aside0.mk (below_step hb1 hb2)
   clear hb1 hb2
   go_wp2_with fail
   refine (utf8_ValidString.calls x true _ V0.out T2.out).mono ?_
   rintro e w3 ⟨rfl, hb3⟩
   have T3 := Aside0.mk (T2.out.below hb3)
   have B3 := Aside0.mk (below_step B2.out hb3)
   clear hb3
   go_wp2_with fail
   refine (utf8_ValidString.calls y true _ V1.out T3.out).mono ?_
   rintro e w4 ⟨rfl, hb4⟩
   have B4 := Aside0.mk (below_step B3.out hb4)
   clear hb4
   go_wp2_with (first
    | ((with_reducible refine gate_dst (N := 21) rfl ?_); refine NC.runes_event S0.out rfl _ rfl rfl ?_; intro v5 w5 A5 c5 hv5 hc5 hr5 hb5; subst hv5; have C5 := Aside0.mk hc5; have R5 := Aside0.mk hr5; have B5 := Aside0.mk (below_step B4.out hb5); clear hc5 hr5 hb5)
    | ((with_reducible refine gate_dst (N := 23) rfl ?_); refine NC.runes_event S1.out rfl _ rfl rfl ?_; intro v6 w6 A6 c6 hv6 hc6 hr6 hb6; subst hv6; have C6 := Aside0.mk hc6; have R6 := Aside0.mk hr6; have R5' := Aside0.mk (Kd.C_below R5.out hb6); have B6 := Aside0.mk (below_step B5.out hb6); clear hc6 hr6 hb6)
    | (go_at_call 67; refine (slices_Compare_rune_rune.calls k A5 c5 _ A6 c6 _ r _ R5'.out C5.out R6.out C6.out H.out).mono ?_; rintro e w7 ⟨rfl, hdr⟩; obtain ⟨nd, rfl⟩ := hdr.out))
   go_ret
   exact ⟨rfl, pw_below_drewN B6.out _⟩
  ·have hv1' : Lib.validD y.data.toList = false := by simpa using hv1
   rw [if_neg hv1] at h
   rw [hv1'] at V1
   have H := Aside0.mk h
   clear hv0 hv1 hv1' h
   go_enter Tryd.func54, Tryd.ntmps54
   go_wp2_with fail
   refine (name_Fold.calls a0 x _ F0.out HT.out).mono ?_
   rintro e w1 ⟨rfl, hb1⟩
   have T1 := Aside0.mk (HT.out.below hb1)
   go_wp2_with fail
   refine (name_Fold.calls a1 y _ F1.out T1.out).mono ?_
   rintro e w2 ⟨rfl, hb2⟩
   have T2 := Aside0.mk (T1.out.below hb2)
   have B2 := Aside0.mk (below_step hb1 hb2)
   clear hb1 hb2
   go_wp2_with fail
   refine (utf8_ValidString.calls x true _ V0.out T2.out).mono ?_
   rintro e w3 ⟨rfl, hb3⟩
   have T3 := Aside0.mk (T2.out.below hb3)
   have B3 := Aside0.mk (below_step B2.out hb3)
   clear hb3
   go_wp2_with fail
   refine (utf8_ValidString.calls y false _ V1.out T3.out).mono ?_
   rintro e w4 ⟨rfl, hb4⟩
   have B4 := Aside0.mk (below_step B3.out hb4)
   clear hb4
   go_wp2_with fail
   refine (cmp_Compare_string.calls x y r _ H.out).mono ?_
   rintro e w7 ⟨rfl, hdr⟩
   obtain ⟨nd, rfl⟩ := hdr.out
   go_wp2
   go_ret
   exact ⟨rfl, pw_below_drewN B4.out _⟩
 ·have hv0' : Lib.validD x.data.toList = false := by simpa using hv0
  rw [if_neg hv0] at h
  rw [hv0'] at V0
  have H := Aside0.mk h
  clear hv0 hv0' h
  go_enter Tryd.func54, Tryd.ntmps54
  go_wp2_with fail
  refine (name_Fold.calls a0 x _ F0.out HT.out).mono ?_
  rintro e w1 ⟨rfl, hb1⟩
  have T1 := Aside0.mk (HT.out.below hb1)
  go_wp2_with fail
  refine (name_Fold.calls a1 y _ F1.out T1.out).mono ?_
  rintro e w2 ⟨rfl, hb2⟩
  have T2 := Aside0.mk (T1.out.below hb2)
  have B2 := Aside0.mk (below_step hb1 hb2)
  clear hb1 hb2
  go_wp2_with fail
  refine (utf8_ValidString.calls x false _ V0.out T2.out).mono ?_
  rintro e w3 ⟨rfl, hb3⟩
  have B3 := Aside0.mk (below_step B2.out hb3)
  clear hb3
  go_wp2_with fail
  refine (cmp_Compare_string.calls x y r _ H.out).mono ?_
  rintro e w7 ⟨rfl, hdr⟩
  obtain ⟨nd, rfl⟩ := hdr.out
  go_wp2
  go_ret
  exact ⟨rfl, pw_below_drewN B3.out _⟩

end Go.Proofs.YtmcochnofkjhaaaDoor.PAll
