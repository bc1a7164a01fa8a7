-- Written by a program of this session over the kit's printer (with contracts of the session's own).
import Derived.Test.YtiaacpjibhnhiaaDoorPAllx0
import Derived.Test.YtiaacpjibhnhiaaDoorPAllx1
namespace Go.Proofs.YtiaacpjibhnhiaaDoor.PAll
open Go.RowKit Go.Proofs.YtiaacpjibhnhiaaDoorW.PrintWords Go.Proofs.YtiaacpjibhnhiaaDoorW.PrintLast Go.Proofs.YtiaacpjibhnhiaaDoorW.PrintMore
attribute [local go_sem] max2_int min2_int max_two min_two max_three min_three max_four min_four   -- for this text's walks alone
set_option linter.unusedVariables false
set_option linter.unusedSimpArgs false

/-! ### name_formed: function 40 (a contract of this session's own) -/
theorem name_between.is (c a b : Int) : name_between.f c a b = some (decide (a ≤ c ∧ c ≤ b)) := by
  unfold name_between.f
  by_cases h : a ≤ c
  · rw [if_pos (show c ≥ a from h)]; simp [h]
  · rw [if_neg (show ¬ c ≥ a from h)]; simp [h]
theorem name_Letter.is (k : Nat) (c : Int) (hk : 1 ≤ k) : name_Letter.f k c = some (NC.letterZ c) := by
  obtain ⟨k, rfl⟩ : ∃ m, k = m + 1 := ⟨k - 1, by omega⟩
  unfold name_Letter.f
  simp only [name_between.is, Option.bind_some, decide_eq_true_eq, name_Letter.j0]
  unfold NC.letterZ
  by_cases h1 : 65 ≤ c ∧ c ≤ 90
  · simp [h1]
  · by_cases h2 : 97 ≤ c ∧ c ≤ 122
    · simp [h1, h2]
    · by_cases h3 : 192 ≤ c ∧ c ≤ 591
      · have h4 : ¬ (913 ≤ c ∧ c ≤ 937) := by omega
        have h5 : ¬ (945 ≤ c ∧ c ≤ 969) := by omega
        have h6 : ¬ (1040 ≤ c ∧ c ≤ 1103) := by omega
        have h7 : ¬ (19968 ≤ c ∧ c ≤ 40959) := by omega
        by_cases h8 : c = 215 <;> by_cases h9 : c = 247 <;> simp [h1, h2, h3, h4, h5, h6, h7, h8, h9] <;> omega
      · by_cases h4 : 913 ≤ c ∧ c ≤ 937
        · have h5 : ¬ (945 ≤ c ∧ c ≤ 969) := by omega
          have h6 : ¬ (1040 ≤ c ∧ c ≤ 1103) := by omega
          have h7 : ¬ (19968 ≤ c ∧ c ≤ 40959) := by omega
          by_cases h8 : c = 930 <;> simp [h1, h2, h3, h4, h5, h6, h7, h8] <;> omega
        · by_cases h5 : 945 ≤ c ∧ c ≤ 969
          · simp [h1, h2, h3, h4, h5] <;> omega
          · by_cases h6 : 1040 ≤ c ∧ c ≤ 1103
            · simp [h1, h2, h3, h4, h5, h6] <;> omega
            · by_cases h7 : 19968 ≤ c ∧ c ≤ 40959 <;> simp [h1, h2, h3, h4, h5, h6, h7] <;> omega
theorem name_digit.is (c : Int) : name_digit.f c = some (NC.digitZ c) := by
  unfold name_digit.f NC.digitZ
  rw [name_between.is]
  rfl
def name_formed.f (a0 : ByteArray) : Option Bool := if a0.size ≤ 17592186044416 then some (NC.formB a0) else none
set_option maxHeartbeats 4000000 in
set_option maxRecDepth 100000 in
theorem name_formed.calls (a0 : ByteArray) (r : Bool) (w : World) (h : name_formed.f a0 = some r) (hT : NC.TabW w) :
    Calls Tryd.prog 40 #[.string a0] w fun e w' => e = .returned (.bool r) ∧ Below w.heap.size w w' := by
  unfold name_formed.f at h
  by_cases hs : a0.size ≤ 17592186044416
  case neg => rw [if_neg hs] at h; cases h
  rw [if_pos hs] at h
  obtain rfl := Option.some.inj h
  clear h
  by_cases he : a0.toList = []
  · have HF := Aside0.mk (show NC.formB a0 = false by unfold NC.formB; simp [he])
    have he1 : a0.toList.isEmpty = true := by simp [he]
    have he2 : (a0.toList == ([] : List UInt8)) = true := by simp [he]
    go_enter Tryd.func40, Tryd.ntmps40
    go_wp2
    go_ret
    exact ⟨NC.ret_bool HF.out, Below.refl _ _⟩
  have he1 : a0.toList.isEmpty = false := by simp [he]
  have he2 : (a0.toList == ([] : List UInt8)) = false := by simp [he]
  by_cases hv : Lib.validD a0.data.toList = true
  · have HF := Aside0.mk (show NC.formB a0 = NC.formL true (NC.runes a0) by unfold NC.formB; rw [he1, hv]; simp)
    have hc1 := utf8_ValidString.calls a0 true w (by unfold utf8_ValidString.f; rw [if_pos (by omega), hv]) hT
    clear hv hs
    go_enter Tryd.func40, Tryd.ntmps40
    go_wp2_with (go_at_call 34; refine hc1.mono ?_; rintro e w1 ⟨rfl, hb1⟩)
    clear he he1 he2
    go_loopw [3, 5] (fun v3 _ wr => ∃ (pos fuel : Nat) (b : Bool), v3 = .bool b ∧ Aside0 (wr.heap[w1.heap.size]? = some (.stringIter a0 pos)) ∧ Aside0 (Below w.heap.size w wr) ∧ Aside0 (NC.formL b (NC.runesL a0 fuel pos) = NC.formL true (NC.runes a0)) ∧ Aside0 (a0.size ≤ pos + fuel)) (fun _ _ wr => a0.size - wr.iterPos w1.heap.size)
    case atStart =>
      refine ⟨0, a0.size, true, rfl, ⟨?_⟩, ⟨hb1.trans ((Below.refl _ _).alloc hb1.size _)⟩, ⟨rfl⟩, ⟨by omega⟩⟩
      have := World.iter_heap w1 a0 0
      simpa using this
    case round =>
      obtain ⟨pos, fuel, b, rfl, HI, HB, HA, HFu⟩ := hrel
      have hsz : w1.heap.size < wr.heap.size := (Array.getElem?_eq_some_iff.1 HI.out).1
      have hszw : w.heap.size ≤ w1.heap.size := hb1.size
      by_cases hp : pos < a0.size
      · have hnx : ∀ ty, (Instr.next (.pointer (some ⟨w1.heap.size, 0, none⟩)) true ty).run Tryd.prog wr = _ := fun ty => Lib.run_next_any_at wr w1.heap.size a0 pos ty HI.out hp
        have hwd := Lib.decode_width_pos a0 pos hp
        have hd1 := decode_le a0 pos
        have hfu := HFu.out
        obtain ⟨f, rfl⟩ : ∃ f, fuel = f + 1 := ⟨fuel - 1, by omega⟩
        have HA2 := Aside0.mk (show NC.formL b (((Utf8.decode a0 pos).1 : Int) :: NC.runesL a0 f (pos + (Utf8.decode a0 pos).2)) = NC.formL true (NC.runes a0) by rw [← HA.out]; simp [NC.runesL, hp])
        have HF2 := Aside0.mk (show a0.size ≤ (pos + (Utf8.decode a0 pos).2) + f by omega)
        generalize hcw : pos + (Utf8.decode a0 pos).2 = pos2 at hnx HA2 HF2
        have HP2 := Aside0.mk (show pos < pos2 by omega)
        generalize hcd : ((Utf8.decode a0 pos).1 : Int) = c at hnx HA2
        have HLet := Aside0.mk (name_Letter.is 1 c (Nat.le_refl _))
        have HDig := Aside0.mk (name_digit.is c)
        obtain ⟨W, hW⟩ : ∃ W, wr.iterAt w1.heap.size a0 pos2 = W := ⟨_, rfl⟩
        have HIW := Aside0.mk (show W.heap[w1.heap.size]? = some (.stringIter a0 pos2) by rw [← hW]; exact Lib.iterAt_heap wr w1.heap.size a0 pos pos2 HI.out)
        have HBW := Aside0.mk (show Below w.heap.size w W by rw [← hW]; exact Lib.below_iterAt HB.out hszw a0 pos2)
        rw [hW] at hnx
        clear hW hcw hcd hfu hd1 hwd HA HFu HB
        have HSZW := Aside0.mk hszw
        clear hszw hsz
        by_cases h46 : c = 46
        · subst h46
          cases b with
          | true =>
            have HA3 := Aside0.mk (show (false : Bool) = NC.formL true (NC.runes a0) by rw [← HA2.out]; simp [NC.formL])
            clear HA2
            go_wp2_with (first | (go_at_call 18; refine (name_Letter.calls 1 c _ _ HLet.out).mono ?_; rintro e w2 ⟨rfl, hdr⟩; obtain ⟨nd, rfl⟩ := hdr.out) | (go_at_call 50; refine (name_digit.calls c _ _ HDig.out).mono ?_; rintro e w2 ⟨rfl, hdr⟩; obtain ⟨nd2, rfl⟩ := hdr.out))
            go_ret
            exact ⟨NC.ret_bool (HF.out.trans HA3.out.symm), by repeat (first | exact HBW.out | apply pw_below_drewN)⟩
          | false =>
            have HA3 := Aside0.mk (show NC.formL true (NC.runesL a0 f pos2) = NC.formL true (NC.runes a0) by rw [← HA2.out]; simp [NC.formL])
            clear HA2
            go_wp2_with (first | (go_at_call 18; refine (name_Letter.calls 1 c _ _ HLet.out).mono ?_; rintro e w2 ⟨rfl, hdr⟩; obtain ⟨nd, rfl⟩ := hdr.out) | (go_at_call 50; refine (name_digit.calls c _ _ HDig.out).mono ?_; rintro e w2 ⟨rfl, hdr⟩; obtain ⟨nd2, rfl⟩ := hdr.out))
            go_roundw
            case rel => exact ⟨pos2, f, true, rfl, ⟨HIW.out⟩, ⟨by repeat (first | exact HBW.out | apply pw_below_drewN)⟩, HA3, HF2⟩
            case measure =>
              have h1 := HIW.out
              have h2 := HI.out
              have h3 := HP2.out
              show a0.size - W.iterPos w1.heap.size < _
              simp only [World.iterPos, h1, h2]
              omega
        have q46 : (c == 46) = false := beq_eq_false_iff_ne.2 h46
        by_cases hl : NC.letterZ c = true
        · rw [hl] at HLet
          have HA3 := Aside0.mk (show NC.formL false (NC.runesL a0 f pos2) = NC.formL true (NC.runes a0) by rw [← HA2.out]; simp [NC.formL, h46, hl])
          clear HA2
          clear hl h46
          go_wp2_with (first | (go_at_call 18; refine (name_Letter.calls 1 c _ _ HLet.out).mono ?_; rintro e w2 ⟨rfl, hdr⟩; obtain ⟨nd, rfl⟩ := hdr.out) | (go_at_call 50; refine (name_digit.calls c _ _ HDig.out).mono ?_; rintro e w2 ⟨rfl, hdr⟩; obtain ⟨nd2, rfl⟩ := hdr.out))
          go_roundw
          case rel => exact ⟨pos2, f, false, rfl, ⟨HIW.out⟩, ⟨by repeat (first | exact HBW.out | apply pw_below_drewN)⟩, HA3, HF2⟩
          case measure =>
            have h1 := HIW.out
            have h2 := HI.out
            have h3 := HP2.out
            show a0.size - W.iterPos w1.heap.size < _
            simp only [World.iterPos, h1, h2]
            omega
        have hl2 : NC.letterZ c = false := by simpa using hl
        rw [hl2] at HLet
        by_cases h95 : c = 95
        · have q95 : (c == 95) = true := beq_iff_eq.2 h95
          have HA3 := Aside0.mk (show NC.formL false (NC.runesL a0 f pos2) = NC.formL true (NC.runes a0) by rw [← HA2.out]; simp [NC.formL, h46, hl2, q95])
          clear HA2
          clear hl hl2 h46 h95
          go_wp2_with (first | (go_at_call 18; refine (name_Letter.calls 1 c _ _ HLet.out).mono ?_; rintro e w2 ⟨rfl, hdr⟩; obtain ⟨nd, rfl⟩ := hdr.out) | (go_at_call 50; refine (name_digit.calls c _ _ HDig.out).mono ?_; rintro e w2 ⟨rfl, hdr⟩; obtain ⟨nd2, rfl⟩ := hdr.out))
          go_roundw
          case rel => exact ⟨pos2, f, false, rfl, ⟨HIW.out⟩, ⟨by repeat (first | exact HBW.out | apply pw_below_drewN)⟩, HA3, HF2⟩
          case measure =>
            have h1 := HIW.out
            have h2 := HI.out
            have h3 := HP2.out
            show a0.size - W.iterPos w1.heap.size < _
            simp only [World.iterPos, h1, h2]
            omega
        have q95 : (c == 95) = false := beq_eq_false_iff_ne.2 h95
        cases b with
        | true =>
          have HA3 := Aside0.mk (show (false : Bool) = NC.formL true (NC.runes a0) by rw [← HA2.out]; simp [NC.formL, h46, hl2, q95])
          clear HA2
          clear hl hl2 h46 h95
          go_wp2_with (first | (go_at_call 18; refine (name_Letter.calls 1 c _ _ HLet.out).mono ?_; rintro e w2 ⟨rfl, hdr⟩; obtain ⟨nd, rfl⟩ := hdr.out) | (go_at_call 50; refine (name_digit.calls c _ _ HDig.out).mono ?_; rintro e w2 ⟨rfl, hdr⟩; obtain ⟨nd2, rfl⟩ := hdr.out))
          go_ret
          exact ⟨NC.ret_bool (HF.out.trans HA3.out.symm), by repeat (first | exact HBW.out | apply pw_below_drewN)⟩
        | false =>
          by_cases hd : NC.digitZ c = true
          · rw [hd] at HDig
            have HA3 := Aside0.mk (show NC.formL false (NC.runesL a0 f pos2) = NC.formL true (NC.runes a0) by rw [← HA2.out]; simp [NC.formL, h46, hl2, q95, hd])
            clear HA2
            clear hl hl2 h46 h95 hd
            go_wp2_with (first | (go_at_call 18; refine (name_Letter.calls 1 c _ _ HLet.out).mono ?_; rintro e w2 ⟨rfl, hdr⟩; obtain ⟨nd, rfl⟩ := hdr.out) | (go_at_call 50; refine (name_digit.calls c _ _ HDig.out).mono ?_; rintro e w2 ⟨rfl, hdr⟩; obtain ⟨nd2, rfl⟩ := hdr.out))
            go_roundw
            case rel => exact ⟨pos2, f, false, rfl, ⟨HIW.out⟩, ⟨by repeat (first | exact HBW.out | apply pw_below_drewN)⟩, HA3, HF2⟩
            case measure =>
              have h1 := HIW.out
              have h2 := HI.out
              have h3 := HP2.out
              show a0.size - W.iterPos w1.heap.size < _
              simp only [World.iterPos, h1, h2]
              omega
          have hd2 : NC.digitZ c = false := by simpa using hd
          rw [hd2] at HDig
          by_cases h45 : c = 45
          · have q45 : (c == 45) = true := beq_iff_eq.2 h45
            have HA3 := Aside0.mk (show NC.formL false (NC.runesL a0 f pos2) = NC.formL true (NC.runes a0) by rw [← HA2.out]; simp [NC.formL, h46, hl2, q95, hd2, q45])
            clear HA2
            clear hl hl2 h46 h95 hd hd2 h45
            go_wp2_with (first | (go_at_call 18; refine (name_Letter.calls 1 c _ _ HLet.out).mono ?_; rintro e w2 ⟨rfl, hdr⟩; obtain ⟨nd, rfl⟩ := hdr.out) | (go_at_call 50; refine (name_digit.calls c _ _ HDig.out).mono ?_; rintro e w2 ⟨rfl, hdr⟩; obtain ⟨nd2, rfl⟩ := hdr.out))
            go_roundw
            case rel => exact ⟨pos2, f, false, rfl, ⟨HIW.out⟩, ⟨by repeat (first | exact HBW.out | apply pw_below_drewN)⟩, HA3, HF2⟩
            case measure =>
              have h1 := HIW.out
              have h2 := HI.out
              have h3 := HP2.out
              show a0.size - W.iterPos w1.heap.size < _
              simp only [World.iterPos, h1, h2]
              omega
          have q45 : (c == 45) = false := beq_eq_false_iff_ne.2 h45
          have HA3 := Aside0.mk (show (false : Bool) = NC.formL true (NC.runes a0) by rw [← HA2.out]; simp [NC.formL, h46, hl2, q95, hd2, q45])
          clear HA2
          clear hl hl2 h46 h95 hd hd2 h45
          go_wp2_with (first | (go_at_call 18; refine (name_Letter.calls 1 c _ _ HLet.out).mono ?_; rintro e w2 ⟨rfl, hdr⟩; obtain ⟨nd, rfl⟩ := hdr.out) | (go_at_call 50; refine (name_digit.calls c _ _ HDig.out).mono ?_; rintro e w2 ⟨rfl, hdr⟩; obtain ⟨nd2, rfl⟩ := hdr.out))
          go_ret
          exact ⟨NC.ret_bool (HF.out.trans HA3.out.symm), by repeat (first | exact HBW.out | apply pw_below_drewN)⟩
      · have hnx : ∀ ty, (Instr.next (.pointer (some ⟨w1.heap.size, 0, none⟩)) true ty).run Tryd.prog wr = _ := fun ty => Lib.run_next_end_at wr w1.heap.size a0 pos ty HI.out hp
        have HE := Aside0.mk (show NC.formB a0 = !b by rw [HF.out, ← HA.out, NC.runesL_end a0 fuel pos hp]; rfl)
        clear hp HA HFu HI HF
        cases b
        all_goals
          go_wp2
          go_ret
          exact ⟨NC.ret_bool HE.out, HB.out⟩
  · have hv2 : Lib.validD a0.data.toList = false := by simpa using hv
    have HF := Aside0.mk (show NC.formB a0 = false by unfold NC.formB; simp [hv2])
    have hc1 := utf8_ValidString.calls a0 false w (by unfold utf8_ValidString.f; rw [if_pos (by omega), hv2]) hT
    clear hv hv2 hs he
    go_enter Tryd.func40, Tryd.ntmps40
    go_wp2_with (go_at_call 34; refine hc1.mono ?_; rintro e w1 ⟨rfl, hb1⟩)
    go_ret
    exact ⟨NC.ret_bool HF.out, hb1⟩

/-! ### strings_Count: function 41 (a contract of this session's own) -/
def strings_Count.f (a0 a1 : ByteArray) : Option Int := if a1 = ⟨#[46]⟩ then some (Lib.countByte a0.data.toList 46) else none
theorem strings_Count.calls (a0 a1 : ByteArray) (r : Int) (w : World) (h : strings_Count.f a0 a1 = some r) :
    Calls Tryd.prog 41 #[.string a0, .string a1] w fun e w' => e = .returned (.int .i64 r) ∧ Drawn0 w w' := by
  unfold strings_Count.f at h
  by_cases hs : a1 = ⟨#[46]⟩
  · rw [if_pos hs] at h
    obtain rfl := Option.some.inj h
    subst hs
    refine (Tryd.strings_Count_one a0 46 w).mono ?_
    rintro e w' ⟨he, rfl⟩
    exact ⟨he, ⟨0, rfl⟩⟩
  · rw [if_neg hs] at h
    cases h

/-! ### name_Check: function 25 -/
def name_Check.f (a0 : ByteArray) : Option (Int) := (name_formed.f a0).bind fun t119 => (if t119 = true then ((utf8_RuneCountInString.f a0).bind fun t120 => (if t120 > 40 then (some 2) else ((strings_Count.f a0 (⟨#[46]⟩ : ByteArray)).bind fun t121 => (if t121 ≥ 5 then (some 2) else (some 0))))) else (some 3))
set_option maxHeartbeats 8000000 in
set_option maxRecDepth 100000 in
theorem name_Check.calls (a0 : ByteArray) (r : Int) (w : World) (h : name_Check.f a0 = some r) (hT : NC.TabW w) :
    Calls Tryd.prog 25 #[.string a0] w fun e w' => e = .returned (.int .i64 r) ∧ Below w.heap.size w w' := by
  have HT := Aside0.mk hT
  clear hT
  have HB := Aside0.mk (Below.refl w.heap.size w)
  have H : ((name_formed.f a0).bind fun t119 => (if t119 = true then ((utf8_RuneCountInString.f a0).bind fun t120 => (if t120 > 40 then (some 2) else ((strings_Count.f a0 (⟨#[46]⟩ : ByteArray)).bind fun t121 => (if t121 ≥ 5 then (some 2) else (some 0))))) else (some 3))) = some r := h
  clear h
  replace H := Option.bind_eq_some_iff.mp H
  obtain ⟨t119, A20, H⟩ := H
  replace H : (if t119 = true then ((utf8_RuneCountInString.f a0).bind fun t120 => (if t120 > 40 then (some 2) else ((strings_Count.f a0 (⟨#[46]⟩ : ByteArray)).bind fun t121 => (if t121 ≥ 5 then (some 2) else (some 0))))) else (some 3)) = some r := H
  have A2 := Aside0.mk A20
  clear A20
  by_cases c3 : t119 = true
  · subst c3
    have H1 : ((utf8_RuneCountInString.f a0).bind fun t120 => (if t120 > 40 then (some 2) else ((strings_Count.f a0 (⟨#[46]⟩ : ByteArray)).bind fun t121 => (if t121 ≥ 5 then (some 2) else (some 0))))) = some r := by rw [if_pos rfl] at H; exact H
    clear H
    have H := H1
    clear H1
    replace H := Option.bind_eq_some_iff.mp H
    obtain ⟨t120, A40, H⟩ := H
    replace H : (if t120 > 40 then (some 2) else ((strings_Count.f a0 (⟨#[46]⟩ : ByteArray)).bind fun t121 => (if t121 ≥ 5 then (some 2) else (some 0)))) = some r := H
    have A4 := Aside0.mk A40
    clear A40
    by_cases c5 : t120 > 40
    · rw [if_pos c5] at H
      have c5b0 : decide (40 < t120) = true := decide_eq_true c5
      clear c5
      obtain rfl := Option.some.inj H
      go_enter Tryd.func25, Tryd.ntmps25
      go_wp2_with (first | ((with_reducible refine gate_callee (f := 40) rfl ?_); refine goesL_ (some 5) rfl rfl Tryd.func40 (by kernel_rfl) rfl #[.string a0] rfl (by (try simp only [List.map_toArray, List.map_cons, List.map_nil]); first | done | rfl | (simp only [List.length_drop, List.length_take]; rfl)) ?_; (with_reducible refine (name_formed.calls a0 true _ A2.out (NC.TabW.below HT.out (by repeat (first | (with_reducible first | exact HB.out | apply below_alloc | apply pw_below_drewN | apply below_drew1) | exact HB.out)))).mono ?_); rintro e w6 ⟨rfl, hb⟩; refine ⟨_, rfl, ?_⟩; have n0_ := Aside0.mk (below_step (by repeat (first | (with_reducible first | exact HB.out | apply below_alloc | apply pw_below_drewN | apply below_drew1) | exact HB.out)) hb); clear HB; have HB := n0_; clear n0_; (try clear hb); (try clear hb2); (try clear hk); (try clear hi)) | ((with_reducible refine gate_callee (f := 37) rfl ?_); refine goesL_ (some 9) rfl rfl Tryd.func37 (by kernel_rfl) rfl #[.string a0] rfl (by (try simp only [List.map_toArray, List.map_cons, List.map_nil]); first | done | rfl | (simp only [List.length_drop, List.length_take]; rfl)) ?_; (with_reducible refine (utf8_RuneCountInString.calls a0 t120 _ A4.out).mono ?_); rintro e w7 ⟨rfl, hb⟩; refine ⟨_, rfl, ?_⟩; have n0_ := Aside0.mk (below_step (by repeat (first | (with_reducible first | exact HB.out | apply below_alloc | apply pw_below_drewN | apply below_drew1) | exact HB.out)) hb); clear HB; have HB := n0_; clear n0_; (try clear hb); (try clear hb2); (try clear hk); (try clear hi)))
      go_ret
      exact ⟨by first | rfl | (simp [errW_none, errW_some] <;> rfl) | (simp [*, errW_none, errW_some] <;> rfl), by repeat (first | (with_reducible first | exact HB.out | apply below_alloc | apply pw_below_drewN | apply below_drew1) | exact HB.out)⟩
    · rw [if_neg c5] at H
      have c5b0 : decide (40 < t120) = false := decide_eq_false c5
      clear c5
      replace H := Option.bind_eq_some_iff.mp H
      obtain ⟨t121, A80, H⟩ := H
      replace H : (if t121 ≥ 5 then (some 2) else (some 0)) = some r := H
      have A8 := Aside0.mk A80
      clear A80
      by_cases c9 : t121 ≥ 5
      · rw [if_pos c9] at H
        have c9b0 : decide (5 ≤ t121) = true := decide_eq_true c9
        clear c9
        obtain rfl := Option.some.inj H
        go_enter Tryd.func25, Tryd.ntmps25
        go_wp2_with (first | ((with_reducible refine gate_callee (f := 40) rfl ?_); refine goesL_ (some 5) rfl rfl Tryd.func40 (by kernel_rfl) rfl #[.string a0] rfl (by (try simp only [List.map_toArray, List.map_cons, List.map_nil]); first | done | rfl | (simp only [List.length_drop, List.length_take]; rfl)) ?_; (with_reducible refine (name_formed.calls a0 true _ A2.out (NC.TabW.below HT.out (by repeat (first | (with_reducible first | exact HB.out | apply below_alloc | apply pw_below_drewN | apply below_drew1) | exact HB.out)))).mono ?_); rintro e w10 ⟨rfl, hb⟩; refine ⟨_, rfl, ?_⟩; have n0_ := Aside0.mk (below_step (by repeat (first | (with_reducible first | exact HB.out | apply below_alloc | apply pw_below_drewN | apply below_drew1) | exact HB.out)) hb); clear HB; have HB := n0_; clear n0_; (try clear hb); (try clear hb2); (try clear hk); (try clear hi)) | ((with_reducible refine gate_callee (f := 37) rfl ?_); refine goesL_ (some 9) rfl rfl Tryd.func37 (by kernel_rfl) rfl #[.string a0] rfl (by (try simp only [List.map_toArray, List.map_cons, List.map_nil]); first | done | rfl | (simp only [List.length_drop, List.length_take]; rfl)) ?_; (with_reducible refine (utf8_RuneCountInString.calls a0 t120 _ A4.out).mono ?_); rintro e w11 ⟨rfl, hb⟩; refine ⟨_, rfl, ?_⟩; have n0_ := Aside0.mk (below_step (by repeat (first | (with_reducible first | exact HB.out | apply below_alloc | apply pw_below_drewN | apply below_drew1) | exact HB.out)) hb); clear HB; have HB := n0_; clear n0_; (try clear hb); (try clear hb2); (try clear hk); (try clear hi)) | (go_at_call 41; (with_reducible refine (strings_Count.calls a0 (⟨#[46]⟩ : ByteArray) t121 _ A8.out).mono ?_); rintro e w' ⟨rfl, ⟨nd, rfl⟩⟩))
        go_ret
        exact ⟨by first | rfl | (simp [errW_none, errW_some] <;> rfl) | (simp [*, errW_none, errW_some] <;> rfl), by repeat (first | (with_reducible first | exact HB.out | apply below_alloc | apply pw_below_drewN | apply below_drew1) | exact HB.out)⟩
      · rw [if_neg c9] at H
        have c9b0 : decide (5 ≤ t121) = false := decide_eq_false c9
        clear c9
        obtain rfl := Option.some.inj H
        go_enter Tryd.func25, Tryd.ntmps25
        go_wp2_with (first | ((with_reducible refine gate_callee (f := 40) rfl ?_); refine goesL_ (some 5) rfl rfl Tryd.func40 (by kernel_rfl) rfl #[.string a0] rfl (by (try simp only [List.map_toArray, List.map_cons, List.map_nil]); first | done | rfl | (simp only [List.length_drop, List.length_take]; rfl)) ?_; (with_reducible refine (name_formed.calls a0 true _ A2.out (NC.TabW.below HT.out (by repeat (first | (with_reducible first | exact HB.out | apply below_alloc | apply pw_below_drewN | apply below_drew1) | exact HB.out)))).mono ?_); rintro e w12 ⟨rfl, hb⟩; refine ⟨_, rfl, ?_⟩; have n0_ := Aside0.mk (below_step (by repeat (first | (with_reducible first | exact HB.out | apply below_alloc | apply pw_below_drewN | apply below_drew1) | exact HB.out)) hb); clear HB; have HB := n0_; clear n0_; (try clear hb); (try clear hb2); (try clear hk); (try clear hi)) | ((with_reducible refine gate_callee (f := 37) rfl ?_); refine goesL_ (some 9) rfl rfl Tryd.func37 (by kernel_rfl) rfl #[.string a0] rfl (by (try simp only [List.map_toArray, List.map_cons, List.map_nil]); first | done | rfl | (simp only [List.length_drop, List.length_take]; rfl)) ?_; (with_reducible refine (utf8_RuneCountInString.calls a0 t120 _ A4.out).mono ?_); rintro e w13 ⟨rfl, hb⟩; refine ⟨_, rfl, ?_⟩; have n0_ := Aside0.mk (below_step (by repeat (first | (with_reducible first | exact HB.out | apply below_alloc | apply pw_below_drewN | apply below_drew1) | exact HB.out)) hb); clear HB; have HB := n0_; clear n0_; (try clear hb); (try clear hb2); (try clear hk); (try clear hi)) | (go_at_call 41; (with_reducible refine (strings_Count.calls a0 (⟨#[46]⟩ : ByteArray) t121 _ A8.out).mono ?_); rintro e w' ⟨rfl, ⟨nd, rfl⟩⟩))
        go_ret
        exact ⟨by first | rfl | (simp [errW_none, errW_some] <;> rfl) | (simp [*, errW_none, errW_some] <;> rfl), by repeat (first | (with_reducible first | exact HB.out | apply below_alloc | apply pw_below_drewN | apply below_drew1) | exact HB.out)⟩
  · replace c3 := Bool.eq_false_iff.mpr c3
    subst c3
    have H1 : (some 3) = some r := by rw [if_neg (show ¬ (false = true) by decide)] at H; exact H
    clear H
    have H := H1
    clear H1
    obtain rfl := Option.some.inj H
    go_enter Tryd.func25, Tryd.ntmps25
    go_wp2_with (first | ((with_reducible refine gate_callee (f := 40) rfl ?_); refine goesL_ (some 5) rfl rfl Tryd.func40 (by kernel_rfl) rfl #[.string a0] rfl (by (try simp only [List.map_toArray, List.map_cons, List.map_nil]); first | done | rfl | (simp only [List.length_drop, List.length_take]; rfl)) ?_; (with_reducible refine (name_formed.calls a0 false _ A2.out (NC.TabW.below HT.out (by repeat (first | (with_reducible first | exact HB.out | apply below_alloc | apply pw_below_drewN | apply below_drew1) | exact HB.out)))).mono ?_); rintro e w14 ⟨rfl, hb⟩; refine ⟨_, rfl, ?_⟩; have n0_ := Aside0.mk (below_step (by repeat (first | (with_reducible first | exact HB.out | apply below_alloc | apply pw_below_drewN | apply below_drew1) | exact HB.out)) hb); clear HB; have HB := n0_; clear n0_; (try clear hb); (try clear hb2); (try clear hk); (try clear hi)))
    go_ret
    exact ⟨by first | rfl | (simp [errW_none, errW_some] <;> rfl) | (simp [*, errW_none, errW_some] <;> rfl), by repeat (first | (with_reducible first | exact HB.out | apply below_alloc | apply pw_below_drewN | apply below_drew1) | exact HB.out)⟩

/-! ### caduceuslaw02_awake: function 10 -/
def caduceuslaw02_awake.f (k : Nat)  : Option (Bool) := (name_Check.f (⟨#[195, 137, 109, 105, 108, 101, 46, 120, 45, 49]⟩ : ByteArray)).bind fun t122 => (if t122 = 0 then ((name_Fold.f (⟨#[195, 137, 109, 105, 108, 101, 46, 120, 45, 49]⟩ : ByteArray)).bind fun t123 => (if t123.toList = ([195, 169, 109, 105, 108, 101, 46, 120, 45, 49] : List UInt8) then ((name_Check.f (⟨#[46, 97]⟩ : ByteArray)).bind fun t124 => (if t124 = 3 then ((name_Check.f (⟨#[97, 46, 46, 98]⟩ : ByteArray)).bind fun t125 => (if t125 = 3 then ((name_Check.f (⟨#[49, 97]⟩ : ByteArray)).bind fun t126 => (if t126 = 3 then ((name_Check.f (⟨#[255]⟩ : ByteArray)).bind fun t127 => (if t127 = 3 then ((name_Hash.f k (⟨#[]⟩ : ByteArray)).bind fun t128 => (if t128 = 14695981039346656037 then ((name_Key.f k (⟨#[65]⟩ : ByteArray)).bind fun t129 => (some (t129 == 12638187200555641996))) else none)) else none)) else none)) else none)) else none)) else none)) else none)
theorem caduceuslaw02_awake.mono : ∀ k, LeO (caduceuslaw02_awake.f k ) (caduceuslaw02_awake.f (k + 1) ) := by
  intro  k
  unfold caduceuslaw02_awake.f
  repeat' first
      | (with_reducible exact name_Hash.mono _ _)
      | (with_reducible exact name_Key.mono _ _)
      | (with_reducible exact LeO.refl _)
      | (with_reducible exact LeO.none _)
      | (with_reducible refine LeO.ite ?_ ?_)
      | (with_reducible refine LeO.bind ?_ (fun _ => ?_))
      | exact name_Hash.mono _ _
      | exact name_Key.mono _ _
      | exact LeO.none _
      | refine LeO.ite ?_ ?_
      | refine LeO.bind ?_ (fun _ => ?_)
set_option maxHeartbeats 8000000 in
set_option maxRecDepth 100000 in
theorem caduceuslaw02_awake.calls (k : Nat)  (r : Bool) (w : World) (h : caduceuslaw02_awake.f k  = some r) (hT : NC.TabW w) :
    Calls Tryd.prog 10 #[] w fun e w' => e = .returned (.bool r) ∧ Below w.heap.size w w' := by
  have HT := Aside0.mk hT
  clear hT
  have HB := Aside0.mk (Below.refl w.heap.size w)
  have H : ((name_Check.f (⟨#[195, 137, 109, 105, 108, 101, 46, 120, 45, 49]⟩ : ByteArray)).bind fun t122 => (if t122 = 0 then ((name_Fold.f (⟨#[195, 137, 109, 105, 108, 101, 46, 120, 45, 49]⟩ : ByteArray)).bind fun t123 => (if t123.toList = ([195, 169, 109, 105, 108, 101, 46, 120, 45, 49] : List UInt8) then ((name_Check.f (⟨#[46, 97]⟩ : ByteArray)).bind fun t124 => (if t124 = 3 then ((name_Check.f (⟨#[97, 46, 46, 98]⟩ : ByteArray)).bind fun t125 => (if t125 = 3 then ((name_Check.f (⟨#[49, 97]⟩ : ByteArray)).bind fun t126 => (if t126 = 3 then ((name_Check.f (⟨#[255]⟩ : ByteArray)).bind fun t127 => (if t127 = 3 then ((name_Hash.f k (⟨#[]⟩ : ByteArray)).bind fun t128 => (if t128 = 14695981039346656037 then ((name_Key.f k (⟨#[65]⟩ : ByteArray)).bind fun t129 => (some (t129 == 12638187200555641996))) else none)) else none)) else none)) else none)) else none)) else none)) else none)) = some r := h
  clear h
  replace H := Option.bind_eq_some_iff.mp H
  obtain ⟨t122, A10, H⟩ := H
  replace H : (if t122 = 0 then ((name_Fold.f (⟨#[195, 137, 109, 105, 108, 101, 46, 120, 45, 49]⟩ : ByteArray)).bind fun t123 => (if t123.toList = ([195, 169, 109, 105, 108, 101, 46, 120, 45, 49] : List UInt8) then ((name_Check.f (⟨#[46, 97]⟩ : ByteArray)).bind fun t124 => (if t124 = 3 then ((name_Check.f (⟨#[97, 46, 46, 98]⟩ : ByteArray)).bind fun t125 => (if t125 = 3 then ((name_Check.f (⟨#[49, 97]⟩ : ByteArray)).bind fun t126 => (if t126 = 3 then ((name_Check.f (⟨#[255]⟩ : ByteArray)).bind fun t127 => (if t127 = 3 then ((name_Hash.f k (⟨#[]⟩ : ByteArray)).bind fun t128 => (if t128 = 14695981039346656037 then ((name_Key.f k (⟨#[65]⟩ : ByteArray)).bind fun t129 => (some (t129 == 12638187200555641996))) else none)) else none)) else none)) else none)) else none)) else none)) else none) = some r := H
  have A1 := Aside0.mk A10
  clear A10
  by_cases c2 : t122 = 0
  · rw [if_pos c2] at H
    have c2b0 : (t122 == 0) = true := beq_iff_eq.mpr c2
    have c2b1 : (t122 != 0) = false := bne_eq_false_iff_eq.mpr c2
    clear c2
    replace H := Option.bind_eq_some_iff.mp H
    obtain ⟨t123, A30, H⟩ := H
    replace H : (if t123.toList = ([195, 169, 109, 105, 108, 101, 46, 120, 45, 49] : List UInt8) then ((name_Check.f (⟨#[46, 97]⟩ : ByteArray)).bind fun t124 => (if t124 = 3 then ((name_Check.f (⟨#[97, 46, 46, 98]⟩ : ByteArray)).bind fun t125 => (if t125 = 3 then ((name_Check.f (⟨#[49, 97]⟩ : ByteArray)).bind fun t126 => (if t126 = 3 then ((name_Check.f (⟨#[255]⟩ : ByteArray)).bind fun t127 => (if t127 = 3 then ((name_Hash.f k (⟨#[]⟩ : ByteArray)).bind fun t128 => (if t128 = 14695981039346656037 then ((name_Key.f k (⟨#[65]⟩ : ByteArray)).bind fun t129 => (some (t129 == 12638187200555641996))) else none)) else none)) else none)) else none)) else none)) else none) = some r := H
    have A3 := Aside0.mk A30
    clear A30
    by_cases c4 : t123.toList = ([195, 169, 109, 105, 108, 101, 46, 120, 45, 49] : List UInt8)
    · rw [if_pos c4] at H
      have c4b0 : (t123.toList == ([195, 169, 109, 105, 108, 101, 46, 120, 45, 49] : List UInt8)) = true := beq_iff_eq.mpr c4
      have c4b1 : (t123.toList != ([195, 169, 109, 105, 108, 101, 46, 120, 45, 49] : List UInt8)) = false := bne_eq_false_iff_eq.mpr c4
      clear c4
      replace H := Option.bind_eq_some_iff.mp H
      obtain ⟨t124, A50, H⟩ := H
      replace H : (if t124 = 3 then ((name_Check.f (⟨#[97, 46, 46, 98]⟩ : ByteArray)).bind fun t125 => (if t125 = 3 then ((name_Check.f (⟨#[49, 97]⟩ : ByteArray)).bind fun t126 => (if t126 = 3 then ((name_Check.f (⟨#[255]⟩ : ByteArray)).bind fun t127 => (if t127 = 3 then ((name_Hash.f k (⟨#[]⟩ : ByteArray)).bind fun t128 => (if t128 = 14695981039346656037 then ((name_Key.f k (⟨#[65]⟩ : ByteArray)).bind fun t129 => (some (t129 == 12638187200555641996))) else none)) else none)) else none)) else none)) else none) = some r := H
      have A5 := Aside0.mk A50
      clear A50
      by_cases c6 : t124 = 3
      · rw [if_pos c6] at H
        have c6b0 : (t124 == 3) = true := beq_iff_eq.mpr c6
        have c6b1 : (t124 != 3) = false := bne_eq_false_iff_eq.mpr c6
        clear c6
        replace H := Option.bind_eq_some_iff.mp H
        obtain ⟨t125, A70, H⟩ := H
        replace H : (if t125 = 3 then ((name_Check.f (⟨#[49, 97]⟩ : ByteArray)).bind fun t126 => (if t126 = 3 then ((name_Check.f (⟨#[255]⟩ : ByteArray)).bind fun t127 => (if t127 = 3 then ((name_Hash.f k (⟨#[]⟩ : ByteArray)).bind fun t128 => (if t128 = 14695981039346656037 then ((name_Key.f k (⟨#[65]⟩ : ByteArray)).bind fun t129 => (some (t129 == 12638187200555641996))) else none)) else none)) else none)) else none) = some r := H
        have A7 := Aside0.mk A70
        clear A70
        by_cases c8 : t125 = 3
        · rw [if_pos c8] at H
          have c8b0 : (t125 == 3) = true := beq_iff_eq.mpr c8
          have c8b1 : (t125 != 3) = false := bne_eq_false_iff_eq.mpr c8
          clear c8
          replace H := Option.bind_eq_some_iff.mp H
          obtain ⟨t126, A90, H⟩ := H
          replace H : (if t126 = 3 then ((name_Check.f (⟨#[255]⟩ : ByteArray)).bind fun t127 => (if t127 = 3 then ((name_Hash.f k (⟨#[]⟩ : ByteArray)).bind fun t128 => (if t128 = 14695981039346656037 then ((name_Key.f k (⟨#[65]⟩ : ByteArray)).bind fun t129 => (some (t129 == 12638187200555641996))) else none)) else none)) else none) = some r := H
          have A9 := Aside0.mk A90
          clear A90
          by_cases c10 : t126 = 3
          · rw [if_pos c10] at H
            have c10b0 : (t126 == 3) = true := beq_iff_eq.mpr c10
            have c10b1 : (t126 != 3) = false := bne_eq_false_iff_eq.mpr c10
            clear c10
            replace H := Option.bind_eq_some_iff.mp H
            obtain ⟨t127, A110, H⟩ := H
            replace H : (if t127 = 3 then ((name_Hash.f k (⟨#[]⟩ : ByteArray)).bind fun t128 => (if t128 = 14695981039346656037 then ((name_Key.f k (⟨#[65]⟩ : ByteArray)).bind fun t129 => (some (t129 == 12638187200555641996))) else none)) else none) = some r := H
            have A11 := Aside0.mk A110
            clear A110
            by_cases c12 : t127 = 3
            · rw [if_pos c12] at H
              have c12b0 : (t127 == 3) = true := beq_iff_eq.mpr c12
              have c12b1 : (t127 != 3) = false := bne_eq_false_iff_eq.mpr c12
              clear c12
              replace H := Option.bind_eq_some_iff.mp H
              obtain ⟨t128, A130, H⟩ := H
              replace H : (if t128 = 14695981039346656037 then ((name_Key.f k (⟨#[65]⟩ : ByteArray)).bind fun t129 => (some (t129 == 12638187200555641996))) else none) = some r := H
              have A13 := Aside0.mk A130
              clear A130
              by_cases c14 : t128 = 14695981039346656037
              · rw [if_pos c14] at H
                have c14b0 : (t128 == 14695981039346656037) = true := beq_iff_eq.mpr c14
                have c14b1 : (t128 != 14695981039346656037) = false := bne_eq_false_iff_eq.mpr c14
                clear c14
                replace H := Option.bind_eq_some_iff.mp H
                obtain ⟨t129, A150, H⟩ := H
                replace H : (some (t129 == 12638187200555641996)) = some r := H
                have A15 := Aside0.mk A150
                clear A150
                obtain rfl := Option.some.inj H
                go_enter Tryd.func10, Tryd.ntmps10
                go_wp2_with (first | ((with_reducible refine gate_callee (f := 25) rfl ?_); refine goesL_ (some 1) rfl rfl Tryd.func25 (by kernel_rfl) rfl #[.string (⟨#[195, 137, 109, 105, 108, 101, 46, 120, 45, 49]⟩ : ByteArray)] rfl (by (try simp only [List.map_toArray, List.map_cons, List.map_nil]); first | done | rfl | (simp only [List.length_drop, List.length_take]; rfl)) ?_; (with_reducible refine (name_Check.calls (⟨#[195, 137, 109, 105, 108, 101, 46, 120, 45, 49]⟩ : ByteArray) t122 _ A1.out (NC.TabW.below HT.out (by repeat (first | (with_reducible first | exact HB.out | apply below_alloc | apply pw_below_drewN | apply below_drew1) | exact HB.out)))).mono ?_); rintro e w16 ⟨rfl, hb⟩; refine ⟨_, rfl, ?_⟩; have n0_ := Aside0.mk (below_step (by repeat (first | (with_reducible first | exact HB.out | apply below_alloc | apply pw_below_drewN | apply below_drew1) | exact HB.out)) hb); clear HB; have HB := n0_; clear n0_; (try clear hb); (try clear hb2); (try clear hk); (try clear hi)) | (go_at_call 12; (with_reducible refine (name_Fold.calls (⟨#[195, 137, 109, 105, 108, 101, 46, 120, 45, 49]⟩ : ByteArray) t123 _ A3.out (NC.TabW.below HT.out (by repeat (first | (with_reducible first | exact HB.out | apply below_alloc | apply pw_below_drewN | apply below_drew1) | exact HB.out)))).mono ?_); rintro e w17 ⟨rfl, hb⟩; have n0_ := Aside0.mk (below_step (by repeat (first | (with_reducible first | exact HB.out | apply below_alloc | apply pw_below_drewN | apply below_drew1) | exact HB.out)) hb); clear HB; have HB := n0_; clear n0_; (try clear hb); (try clear hb2); (try clear hk); (try clear hi)) | (go_at_call 25; (with_reducible refine (name_Check.calls (⟨#[46, 97]⟩ : ByteArray) t124 _ A5.out (NC.TabW.below HT.out (by repeat (first | (with_reducible first | exact HB.out | apply below_alloc | apply pw_below_drewN | apply below_drew1) | exact HB.out)))).mono ?_); rintro e w18 ⟨rfl, hb⟩; have n0_ := Aside0.mk (below_step (by repeat (first | (with_reducible first | exact HB.out | apply below_alloc | apply pw_below_drewN | apply below_drew1) | exact HB.out)) hb); clear HB; have HB := n0_; clear n0_; (try clear hb); (try clear hb2); (try clear hk); (try clear hi)) | (go_at_call 25; (with_reducible refine (name_Check.calls (⟨#[97, 46, 46, 98]⟩ : ByteArray) t125 _ A7.out (NC.TabW.below HT.out (by repeat (first | (with_reducible first | exact HB.out | apply below_alloc | apply pw_below_drewN | apply below_drew1) | exact HB.out)))).mono ?_); rintro e w19 ⟨rfl, hb⟩; have n0_ := Aside0.mk (below_step (by repeat (first | (with_reducible first | exact HB.out | apply below_alloc | apply pw_below_drewN | apply below_drew1) | exact HB.out)) hb); clear HB; have HB := n0_; clear n0_; (try clear hb); (try clear hb2); (try clear hk); (try clear hi)) | (go_at_call 25; (with_reducible refine (name_Check.calls (⟨#[49, 97]⟩ : ByteArray) t126 _ A9.out (NC.TabW.below HT.out (by repeat (first | (with_reducible first | exact HB.out | apply below_alloc | apply pw_below_drewN | apply below_drew1) | exact HB.out)))).mono ?_); rintro e w20 ⟨rfl, hb⟩; have n0_ := Aside0.mk (below_step (by repeat (first | (with_reducible first | exact HB.out | apply below_alloc | apply pw_below_drewN | apply below_drew1) | exact HB.out)) hb); clear HB; have HB := n0_; clear n0_; (try clear hb); (try clear hb2); (try clear hk); (try clear hi)) | (go_at_call 25; (with_reducible refine (name_Check.calls (⟨#[255]⟩ : ByteArray) t127 _ A11.out (NC.TabW.below HT.out (by repeat (first | (with_reducible first | exact HB.out | apply below_alloc | apply pw_below_drewN | apply below_drew1) | exact HB.out)))).mono ?_); rintro e w21 ⟨rfl, hb⟩; have n0_ := Aside0.mk (below_step (by repeat (first | (with_reducible first | exact HB.out | apply below_alloc | apply pw_below_drewN | apply below_drew1) | exact HB.out)) hb); clear HB; have HB := n0_; clear n0_; (try clear hb); (try clear hb2); (try clear hk); (try clear hi)) | (go_at_call 13; (with_reducible refine (name_Hash.calls k (⟨#[]⟩ : ByteArray) t128 _ A13.out).mono ?_); rintro e w' ⟨rfl, ⟨nd, rfl⟩⟩) | (go_at_call 15; (with_reducible refine (name_Key.calls k (⟨#[65]⟩ : ByteArray) t129 _ A15.out (NC.TabW.below HT.out (by repeat (first | (with_reducible first | exact HB.out | apply below_alloc | apply pw_below_drewN | apply below_drew1) | exact HB.out)))).mono ?_); rintro e w22 ⟨rfl, hb⟩; have n0_ := Aside0.mk (below_step (by repeat (first | (with_reducible first | exact HB.out | apply below_alloc | apply pw_below_drewN | apply below_drew1) | exact HB.out)) hb); clear HB; have HB := n0_; clear n0_; (try clear hb); (try clear hb2); (try clear hk); (try clear hi)))
                go_ret
                exact ⟨by first | rfl | (simp [errW_none, errW_some] <;> rfl) | (simp [*, errW_none, errW_some] <;> rfl), by repeat (first | (with_reducible first | exact HB.out | apply below_alloc | apply pw_below_drewN | apply below_drew1) | exact HB.out)⟩
              · rw [if_neg c14] at H
                cases H
            · rw [if_neg c12] at H
              cases H
          · rw [if_neg c10] at H
            cases H
        · rw [if_neg c8] at H
          cases H
      · rw [if_neg c6] at H
        cases H
    · rw [if_neg c4] at H
      cases H
  · rw [if_neg c2] at H
    cases H
/-! ### caduceusref02_tail: function 47 -/
def caduceusref02_tail.f (a0 : ByteArray) (a1 : Int) : Option (Bool) := if a1 < (a0.size : Int) then (if 0 ≤ a1 then (if (bt a0 a1) ≥ 128 then (some (decide ((bt a0 a1) < 192))) else (some false)) else (none)) else (some false)
set_option maxHeartbeats 8000000 in
set_option maxRecDepth 100000 in
theorem caduceusref02_tail.calls (a0 : ByteArray) (a1 : Int) (r : Bool) (w : World) (h : caduceusref02_tail.f a0 a1 = some r) :
    Calls Tryd.prog 47 #[.string a0, .int .i64 a1] w fun e w' => e = .returned (.bool r) ∧ Drawn0 w w' := by
  have H : (if a1 < (a0.size : Int) then (if 0 ≤ a1 then (if (bt a0 a1) ≥ 128 then (some (decide ((bt a0 a1) < 192))) else (some false)) else (none)) else (some false)) = some r := h
  clear h
  by_cases c3 : a1 < (a0.size : Int)
  · rw [if_pos c3] at H
    have c3b0 : decide (a1 < (a0.size : Int)) = true := decide_eq_true c3
    clear c3
    by_cases c4 : 0 ≤ a1
    · rw [if_pos c4] at H
      have c4b0 : decide (0 ≤ a1) = true := decide_eq_true c4
      clear c4
      by_cases c6 : (bt a0 a1) ≥ 128
      · rw [if_pos c6] at H
        have c6b0 : decide (128 ≤ (bt a0 a1)) = true := decide_eq_true c6
        clear c6
        obtain rfl := Option.some.inj H
        have p5 : 0 ≤ (a1 : Int) := of_decide_eq_true (by first | (with_reducible assumption) | assumption)
        have q5 : a1 < (a0.size : Int) := of_decide_eq_true (by first | (with_reducible assumption) | assumption)
        have hx5 := bt_at a0 a1
        replace p5 := eq_true p5
        replace q5 := eq_true q5
        have p7 : 0 ≤ (a1 : Int) := of_decide_eq_true (by first | (with_reducible assumption) | assumption)
        have q7 : a1 < (a0.size : Int) := of_decide_eq_true (by first | (with_reducible assumption) | assumption)
        have hx7 := bt_at a0 a1
        replace p7 := eq_true p7
        replace q7 := eq_true q7
        go_enter Tryd.func47, Tryd.ntmps47
        go_wp2
        go_ret
        exact ⟨by first | rfl | (simp; done) | (simp [*]; done), by repeat (first | exact Drawn0.refl _ | apply Drawn0.step)⟩
      · rw [if_neg c6] at H
        have c6b0 : decide (128 ≤ (bt a0 a1)) = false := decide_eq_false c6
        clear c6
        obtain rfl := Option.some.inj H
        have p5 : 0 ≤ (a1 : Int) := of_decide_eq_true (by first | (with_reducible assumption) | assumption)
        have q5 : a1 < (a0.size : Int) := of_decide_eq_true (by first | (with_reducible assumption) | assumption)
        have hx5 := bt_at a0 a1
        replace p5 := eq_true p5
        replace q5 := eq_true q5
        go_enter Tryd.func47, Tryd.ntmps47
        go_wp2
        go_ret
        exact ⟨by first | rfl | (simp; done) | (simp [*]; done), by repeat (first | exact Drawn0.refl _ | apply Drawn0.step)⟩
    · rw [if_neg c4] at H
      exact absurd H (by simp)
  · rw [if_neg c3] at H
    have c3b0 : decide (a1 < (a0.size : Int)) = false := decide_eq_false c3
    clear c3
    obtain rfl := Option.some.inj H
    go_enter Tryd.func47, Tryd.ntmps47
    go_wp2
    go_ret
    exact ⟨by first | rfl | (simp; done) | (simp [*]; done), by repeat (first | exact Drawn0.refl _ | apply Drawn0.step)⟩

end Go.Proofs.YtiaacpjibhnhiaaDoor.PAll
