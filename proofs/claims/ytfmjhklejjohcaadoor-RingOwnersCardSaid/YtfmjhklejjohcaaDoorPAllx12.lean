-- Written by a program of this session over the kit's printer (with contracts of the session's own).
import Derived.Test.YtfmjhklejjohcaaDoorPAllx0
import Derived.Test.YtfmjhklejjohcaaDoorPAllx1
import Derived.Test.YtfmjhklejjohcaaDoorPAllx3
import Derived.Test.YtfmjhklejjohcaaDoorPAllx11
namespace Go.Proofs.YtfmjhklejjohcaaDoor.PAll
open Go.RowKit Go.Proofs.YtfmjhklejjohcaaDoorW.PrintWords Go.Proofs.YtfmjhklejjohcaaDoorW.PrintLast Go.Proofs.YtfmjhklejjohcaaDoorW.PrintMore
attribute [local go_sem] max2_int min2_int max_two min_two max_three min_three max_four min_four   -- for this text's walks alone
set_option linter.unusedVariables false
set_option linter.unusedSimpArgs false

/-! ### name_Fold: function 55 (a contract of this session's own) -/
theorem name_Small.is (c : Int) (h0 : -2147483648 ≤ c) (h1 : c ≤ 2147483647) : name_Small.f c = some (NC.smallZ c) := by
  have hw : ∀ x : Int, 0 ≤ x → x ≤ 2000000 → wrap32 x = x := by intro x a b; unfold wrap32; omega
  have hb : ∀ a b : Int, name_between.f c a b = some (decide (a ≤ c ∧ c ≤ b)) := by
    intro a b
    unfold name_between.f
    by_cases h : a ≤ c
    · rw [if_pos (show c ≥ a from h)]; simp [h]
    · rw [if_neg (show ¬ c ≥ a from h)]; simp [h]
  unfold name_Small.f NC.smallZ
  simp only [hb, Option.bind_some, decide_eq_true_eq]
  repeat' split
  all_goals first | (exfalso; omega) | rfl | (rw [hw _ (by omega) (by omega)])
def name_Fold.f (a0 : ByteArray) : Option ByteArray := if a0.size ≤ 17592186044416 then some (NC.foldB a0) else none
theorem name_Fold.conv {W : World} {base : Nat} {ok : Nat → Prop} {v : Value} {xs : List Int} (h : (Kd.int .i32).R 21 W base ok v xs) : (convert 71 9 v).run Tryd.prog W = .ok (.string (runesBytes xs)) W := by
  obtain ⟨A, c, rfl, hc, hr⟩ := Kd.R_reads h
  cases A with
  | none =>
    have hx : xs = [] := by
      rcases Nat.eq_zero_or_pos xs.length with h0 | h0
      · exact List.eq_nil_of_length_eq_zero h0
      · obtain ⟨ad, h, _⟩ := hr.2.2 h0
        cases h
    subst hx
    exact run_convert_runes_nil W _ _ _ _ _ Tryd.underlying71 Tryd.underlying21 Tryd.underlying9
  | some a =>
    have := run_convert_runes W _ _ _ a xs.length c xs (Nat.le_refl _) Tryd.underlying71 Tryd.underlying21 Tryd.underlying9 (fun j hj => by
      obtain ⟨ad, e, hx⟩ := Kd.at_int hr (j : Int) (by omega) (by omega)
      cases e
      simpa [rd] using hx)
    rw [List.take_length] at this
    exact this
set_option maxHeartbeats 4000000 in
set_option maxRecDepth 100000 in
theorem name_Fold.calls (a0 : ByteArray) (r : ByteArray) (w : World) (h : name_Fold.f a0 = some r) (hT : NC.TabW w) :
    Calls Tryd.prog 55 #[.string a0] w fun e w' => e = .returned (.string r) ∧ Below w.heap.size w w' := by
  unfold name_Fold.f at h
  by_cases hs : a0.size ≤ 17592186044416
  case neg => rw [if_neg hs] at h; cases h
  rw [if_pos hs] at h
  obtain rfl := Option.some.inj h
  clear h
  have HS := Aside0.mk hs
  by_cases hv : Lib.validD a0.data.toList = true
  · have HF := Aside0.mk (show NC.foldB a0 = runesBytes ((NC.runes a0).map NC.smallZ) by unfold NC.foldB; rw [if_pos hv])
    have hc1 := utf8_ValidString.calls a0 true w (by unfold utf8_ValidString.f; rw [if_pos (by omega), hv]) hT
    clear hv hs
    go_enter Tryd.func55, Tryd.ntmps55
    go_wp2_with (go_at_call 62; refine hc1.mono ?_; rintro e w1 ⟨rfl, hb1⟩)
    go_loopw [3, 5] (fun v3 _ wr => ∃ (pos fuel : Nat) (acc : List Int), Aside0 ((Kd.int .i32).R 21 wr w.heap.size (fun k => k ≠ w1.heap.size) v3 acc) ∧ Aside0 (wr.heap[w1.heap.size]? = some (.stringIter a0 pos)) ∧ Aside0 (Below w.heap.size w wr) ∧ Aside0 (acc ++ (NC.runesL a0 fuel pos).map NC.smallZ = (NC.runes a0).map NC.smallZ) ∧ Aside0 (a0.size ≤ pos + fuel) ∧ Aside0 (acc.length ≤ pos)) (fun _ _ wr => a0.size - wr.iterPos w1.heap.size)
    case atStart =>
      refine ⟨0, a0.size, [], ⟨Kd.R_nil _ _ _ _ _⟩, ⟨?_⟩, ⟨hb1.trans ((Below.refl _ _).alloc hb1.size _)⟩, ⟨by simp [NC.runes]⟩, ⟨by omega⟩, ⟨by simp⟩⟩
      have := World.iter_heap w1 a0 0
      simpa using this
    case round =>
      obtain ⟨pos, fuel, acc, HR, HI, HB, HA, HFu, HL⟩ := hrel
      have hsz : w1.heap.size < wr.heap.size := (Array.getElem?_eq_some_iff.1 HI.out).1
      have hszw : w.heap.size ≤ w1.heap.size := hb1.size
      by_cases hp : pos < a0.size
      · have hnx : ∀ ty, (Instr.next (.pointer (some ⟨w1.heap.size, 0, none⟩)) true ty).run Tryd.prog wr = _ := fun ty => Lib.run_next_any_at wr w1.heap.size a0 pos ty HI.out hp
        have hwd := Lib.decode_width_pos a0 pos hp
        have hd1 := decode_le a0 pos
        have hfu := HFu.out
        obtain ⟨f, rfl⟩ : ∃ f, fuel = f + 1 := ⟨fuel - 1, by omega⟩
        have HA2 := Aside0.mk (show (acc ++ [NC.smallZ ((Utf8.decode a0 pos).1 : Int)]) ++ (NC.runesL a0 f (pos + (Utf8.decode a0 pos).2)).map NC.smallZ = (NC.runes a0).map NC.smallZ by
          rw [← HA.out]; simp [NC.runesL, hp])
        have HL2 := Aside0.mk (show (acc ++ [NC.smallZ ((Utf8.decode a0 pos).1 : Int)]).length ≤ pos + (Utf8.decode a0 pos).2 by have := HL.out; simp; omega)
        have HF2 := Aside0.mk (show a0.size ≤ (pos + (Utf8.decode a0 pos).2) + f by omega)
        have hlen : (acc.length + 1) * 4 ≤ 140737488355328 := by have := HL.out; have := HS.out; omega
        have HLN := Aside0.mk hlen
        have hnm := name_Small.is ((Utf8.decode a0 pos).1 : Int) (by omega) (by omega)
        have HNM := Aside0.mk hnm
        generalize hcz : NC.smallZ ((Utf8.decode a0 pos).1 : Int) = z at HA2 HL2 HNM
        generalize hcw : pos + (Utf8.decode a0 pos).2 = pos2 at hnx HA2 HL2 HF2
        have HP2 := Aside0.mk (show pos < pos2 by omega)
        generalize hcd : ((Utf8.decode a0 pos).1 : Int) = c at hnx HNM
        obtain ⟨W, hW⟩ : ∃ W, wr.iterAt w1.heap.size a0 pos2 = W := ⟨_, rfl⟩
        have HIW := Aside0.mk (show W.heap[w1.heap.size]? = some (.stringIter a0 pos2) by rw [← hW]; exact Lib.iterAt_heap wr w1.heap.size a0 pos pos2 HI.out)
        have HRW := Aside0.mk (show (Kd.int .i32).R 21 W w.heap.size (fun k => k ≠ w1.heap.size) u3 acc by rw [← hW]; exact Kd.R_step HR.out (fun k hk _ => Lib.iterAt_other wr w1.heap.size k a0 pos2 hk))
        have HBW := Aside0.mk (show Below w.heap.size w W by rw [← hW]; exact Lib.below_iterAt HB.out hszw a0 pos2)
        have HSW := Aside0.mk (show wr.heap.size = W.heap.size by rw [← hW]; exact (Lib.iterAt_size wr w1.heap.size a0 pos2).symm)
        rw [hW] at hnx
        clear hW hcz hcw hcd hnm hlen hfu hd1 hwd HA HL HFu HB HR
        have HSZ := Aside0.mk hsz
        have HSZW := Aside0.mk hszw
        clear hsz hszw
        go_wp2_with (first
          | (go_at_call 63; refine (name_Small.calls c z _ HNM.out).mono ?_; rintro e w2 ⟨rfl, hdr⟩; obtain ⟨nd, rfl⟩ := hdr.out)
          | ((with_reducible refine gate_builtin (b := .append) (xs := #[.tmp 15, .tmp 18]) rfl ?_); at_builtin; refine Kd.R_append (Kd.int .i32) (w0 := w) w.heap.size rfl (.tmp 15) (.tmp 18) 71 21 (.int .i32 0) 4 rfl Tryd.underlying71 NC.infoRune rfl (by decide) (by omega) u3 acc z [.int .i32 z] (fun k => k ≠ w1.heap.size) (fun _ => False) rfl (by first | (go_simp; done) | (go_simp; rfl)) ?aP (fun _ hk => hk.elim) ?aF ?aO ?aB ?aS ?aL ?_; (case aP => exact rfl); (case aB => exact (pw_below_drewN HBW.out _)); (case aF => exact (fun k hk => by have h1 := HSW.out; have h2 := HSZ.out; have h3 : W.heap.size ≤ k := hk; omega)); (case aO => exact Kd.R_drewN HRW.out _); (case aS => exact HBW.out.size); (case aL => exact HLN.out); intro v5 w5 ho hb hg hat; have HO5 := Aside0.mk ho; have HB5 := Aside0.mk hb; have HI5 := Aside0.mk ((hg.block w1.heap.size (show w1.heap.size < W.heap.size by have h1 := HSW.out; have h2 := HSZ.out; omega) (fun e => HRW.out.1 _ e.symm rfl)).trans HIW.out); clear ho hb hg hat))
        go_roundw
        case rel => exact ⟨pos2, f, acc ++ [z], HO5, HI5, HB5, HA2, HF2, HL2⟩
        case measure =>
          have h1 := HI5.out
          have h2 := HI.out
          have h3 := HP2.out
          simp only [World.iterPos, h1, h2]
          omega
      · have hnx : ∀ ty, (Instr.next (.pointer (some ⟨w1.heap.size, 0, none⟩)) true ty).run Tryd.prog wr = _ := fun ty => Lib.run_next_end_at wr w1.heap.size a0 pos ty HI.out hp
        have HE := Aside0.mk (show NC.foldB a0 = runesBytes acc by rw [HF.out, ← HA.out, NC.runesL_end a0 fuel pos hp]; simp)
        have hcv := name_Fold.conv HR.out
        clear hp HA HFu HL HR HI HF
        go_wp2
        go_ret
        exact ⟨NC.ret_str HE.out, HB.out⟩
  · have hv2 : Lib.validD a0.data.toList = false := by simpa using hv
    have HF := Aside0.mk (show NC.foldB a0 = a0 by unfold NC.foldB; rw [if_neg hv])
    have hc1 := utf8_ValidString.calls a0 false w (by unfold utf8_ValidString.f; rw [if_pos (by omega), hv2]) hT
    clear hv hv2 hs
    go_enter Tryd.func55, Tryd.ntmps55
    go_wp2_with (go_at_call 62; refine hc1.mono ?_; rintro e w1 ⟨rfl, hb1⟩)
    go_ret
    exact ⟨NC.ret_str HF.out, hb1⟩

/-! ### name_Key: function 35 -/
def name_Key.f (k : Nat) (a0 : ByteArray) : Option (Int) := (name_Fold.f a0).bind fun t327 => ((name_Hash.f k t327).bind fun t328 => (some t328))
theorem name_Key.mono : ∀ a0 k, LeO (name_Key.f k a0) (name_Key.f (k + 1) a0) := by
  intro a0 k
  unfold name_Key.f
  repeat' first
      | (with_reducible exact name_Hash.mono _ _)
      | (with_reducible exact LeO.refl _)
      | (with_reducible exact LeO.none _)
      | (with_reducible refine LeO.ite ?_ ?_)
      | (with_reducible refine LeO.bind ?_ (fun _ => ?_))
      | exact name_Hash.mono _ _
      | exact LeO.none _
      | refine LeO.ite ?_ ?_
      | refine LeO.bind ?_ (fun _ => ?_)
set_option maxHeartbeats 8000000 in
set_option maxRecDepth 100000 in
theorem name_Key.calls (k : Nat) (a0 : ByteArray) (r : Int) (w : World) (h : name_Key.f k a0 = some r) (hT : NC.TabW w) :
    Calls Tryd.prog 35 #[.string a0] w fun e w' => e = .returned (.int .u64 r) ∧ Below w.heap.size w w' := by
  have HT := Aside0.mk hT
  clear hT
  have HB := Aside0.mk (Below.refl w.heap.size w)
  have H : ((name_Fold.f a0).bind fun t327 => ((name_Hash.f k t327).bind fun t328 => (some t328))) = some r := h
  clear h
  replace H := Option.bind_eq_some_iff.mp H
  obtain ⟨t327, A20, H⟩ := H
  replace H : ((name_Hash.f k t327).bind fun t328 => (some t328)) = some r := H
  have A2 := Aside0.mk A20
  clear A20
  replace H := Option.bind_eq_some_iff.mp H
  obtain ⟨t328, A30, H⟩ := H
  replace H : (some t328) = some r := H
  have A3 := Aside0.mk A30
  clear A30
  obtain rfl := Option.some.inj H
  go_enter Tryd.func35, Tryd.ntmps35
  go_wp2_with (first | ((with_reducible refine gate_callee (f := 55) rfl ?_); refine goesL_ (some 4) rfl rfl Tryd.func55 (by kernel_rfl) rfl #[.string a0] rfl (by (try simp only [List.map_toArray, List.map_cons, List.map_nil]); first | done | rfl | (simp only [List.length_drop, List.length_take]; rfl)) ?_; (with_reducible refine (name_Fold.calls a0 t327 _ A2.out (NC.TabW.below HT.out (by repeat (first | (with_reducible first | exact HB.out | apply below_alloc | apply pw_below_drewN | apply below_drew1) | exact HB.out)))).mono ?_); rintro e w4 ⟨rfl, hb⟩; refine ⟨_, rfl, ?_⟩; have n0_ := Aside0.mk (below_step (by repeat (first | (with_reducible first | exact HB.out | apply below_alloc | apply pw_below_drewN | apply below_drew1) | exact HB.out)) hb); clear HB; have HB := n0_; clear n0_; (try clear hb); (try clear hb2); (try clear hk); (try clear hi)) | ((with_reducible refine gate_callee (f := 48) rfl ?_); refine goesL_ (some 5) rfl rfl Tryd.func48 (by kernel_rfl) rfl #[.string t327] rfl (by (try simp only [List.map_toArray, List.map_cons, List.map_nil]); first | done | rfl | (simp only [List.length_drop, List.length_take]; rfl)) ?_; (with_reducible refine (name_Hash.calls k t327 t328 _ A3.out).mono ?_); rintro e w' ⟨rfl, ⟨nd, rfl⟩⟩; refine ⟨_, rfl, ?_⟩))
  go_ret
  exact ⟨by first | rfl | (simp [errW_none, errW_some] <;> rfl) | (simp [*, errW_none, errW_some] <;> rfl), by repeat (first | (with_reducible first | exact HB.out | apply below_alloc | apply pw_below_drewN | apply below_drew1) | exact HB.out)⟩

/-! ### ring_Keeper: function 23 -/
def ring_Keeper.f (k : Nat) (a0 : ByteArray) (l1 : List Int) : Option (Int × Bool) := (name_Key.f k a0).bind fun t329 => ((ring_Owner.f k t329 l1).bind fun bt330 => (some (bt330.1, bt330.2)))
theorem ring_Keeper.mono : ∀ a0 a1 k, LeO (ring_Keeper.f k a0 a1) (ring_Keeper.f (k + 1) a0 a1) := by
  intro a0 a1 k
  unfold ring_Keeper.f
  repeat' first
      | (with_reducible exact name_Key.mono _ _)
      | (with_reducible exact ring_Owner.mono _ _ _)
      | (with_reducible exact LeO.refl _)
      | (with_reducible exact LeO.none _)
      | (with_reducible refine LeO.ite ?_ ?_)
      | (with_reducible refine LeO.bind ?_ (fun _ => ?_))
      | exact name_Key.mono _ _
      | exact ring_Owner.mono _ _ _
      | exact LeO.none _
      | refine LeO.ite ?_ ?_
      | refine LeO.bind ?_ (fun _ => ?_)
set_option maxHeartbeats 8000000 in
set_option maxRecDepth 100000 in
theorem ring_Keeper.calls (k : Nat) (a0 : ByteArray) (A1 : Option Addr) (c1 : Nat) (l1 : List Int) (r1 : Int) (r2 : Bool) (w : World) (hr1 : Kd.C (Kd.int .i64) w A1 l1.length l1) (hc1 : l1.length ≤ c1) (h : ring_Keeper.f k a0 l1 = some (r1, r2)) (hT : NC.TabW w) :
    Calls Tryd.prog 23 #[.string a0, .slice A1 l1.length c1] w fun e w' => e = .returned (.tuple #[.int .i64 r1, .bool r2]) ∧ Below w.heap.size w w' := by
  have HT := Aside0.mk hT
  clear hT
  have HR1 := Aside0.mk hr1
  have HC1 := Aside0.mk hc1
  clear hr1 hc1
  have HB := Aside0.mk (Below.refl w.heap.size w)
  have H : ((name_Key.f k a0).bind fun t329 => ((ring_Owner.f k t329 l1).bind fun bt330 => (some (bt330.1, bt330.2)))) = some (r1, r2) := h
  clear h
  replace H := Option.bind_eq_some_iff.mp H
  obtain ⟨t329, A30, H⟩ := H
  replace H : ((ring_Owner.f k t329 l1).bind fun bt330 => (some (bt330.1, bt330.2))) = some (r1, r2) := H
  have A3 := Aside0.mk A30
  clear A30
  replace H := Option.bind_eq_some_iff.mp H
  obtain ⟨⟨t330, t331⟩, A40, H⟩ := H
  replace H : (some (t330, t331)) = some (r1, r2) := H
  have A4 := Aside0.mk A40
  clear A40
  simp only [Option.some.injEq, Prod.mk.injEq] at H
  obtain ⟨rfl, rfl⟩ := H
  go_enter Tryd.func23, Tryd.ntmps23
  go_wp2_with (first | ((with_reducible refine gate_callee (f := 35) rfl ?_); refine goesL_ (some 7) rfl rfl Tryd.func35 (by kernel_rfl) rfl #[.string a0] rfl (by (try simp only [List.map_toArray, List.map_cons, List.map_nil]); first | done | rfl | (simp only [List.length_drop, List.length_take]; rfl)) ?_; (with_reducible refine (name_Key.calls k a0 t329 _ A3.out (NC.TabW.below HT.out (by repeat (first | (with_reducible first | exact HB.out | apply below_alloc | apply pw_below_drewN | apply below_drew1) | exact HB.out)))).mono ?_); rintro e w5 ⟨rfl, hb⟩; refine ⟨_, rfl, ?_⟩; have n0_ := Aside0.mk (below_step (by repeat (first | (with_reducible first | exact HB.out | apply below_alloc | apply pw_below_drewN | apply below_drew1) | exact HB.out)) hb); clear HB; have HB := n0_; clear n0_; (try clear hb); (try clear hb2); (try clear hk); (try clear hi)) | ((with_reducible refine gate_callee (f := 21) rfl ?_); refine goesL_ (some 9) rfl rfl Tryd.func21 (by kernel_rfl) rfl #[.int .u64 t329, .slice A1 l1.length c1] rfl (by (try simp only [List.map_toArray, List.map_cons, List.map_nil]); first | done | rfl | (simp only [List.length_drop, List.length_take]; rfl)) ?_; (with_reducible refine (ring_Owner.calls k t329 _ _ l1 t330 t331 _ ?side1 ?side2 A4.out).mono ?_); (case side1 => repeat (first | exact (Kd.C_below HR1.out HB.out) | (with_reducible refine Kd.C_alloc ?_ _) | (with_reducible refine Kd.C_drewN ?_ _) | (with_reducible refine Kd.C_drew ?_))); (case side2 => exact HC1.out); rintro e w6 ⟨rfl, hb⟩; refine ⟨_, rfl, ?_⟩; have n0_ := Aside0.mk (below_step (by repeat (first | (with_reducible first | exact HB.out | apply below_alloc | apply pw_below_drewN | apply below_drew1) | exact HB.out)) hb); clear HB; have HB := n0_; clear n0_; (try clear hb); (try clear hb2); (try clear hk); (try clear hi)))
  go_ret2
  exact ⟨by first | rfl | (simp [errW_none, errW_some] <;> rfl) | (simp [*, errW_none, errW_some] <;> rfl), by repeat (first | (with_reducible first | exact HB.out | apply below_alloc | apply pw_below_drewN | apply below_drew1) | exact HB.out)⟩

/-! ### caduceusref02_tail: function 74 -/
def caduceusref02_tail.f (a0 : ByteArray) (a1 : Int) : Option (Bool) := if a1 < (a0.size : Int) then (if 0 ≤ a1 then (if (bt a0 a1) ≥ 128 then (some (decide ((bt a0 a1) < 192))) else (some false)) else (none)) else (some false)
set_option maxHeartbeats 8000000 in
set_option maxRecDepth 100000 in
theorem caduceusref02_tail.calls (a0 : ByteArray) (a1 : Int) (r : Bool) (w : World) (h : caduceusref02_tail.f a0 a1 = some r) :
    Calls Tryd.prog 74 #[.string a0, .int .i64 a1] w fun e w' => e = .returned (.bool r) ∧ Drawn0 w w' := by
  have H : (if a1 < (a0.size : Int) then (if 0 ≤ a1 then (if (bt a0 a1) ≥ 128 then (some (decide ((bt a0 a1) < 192))) else (some false)) else (none)) else (some false)) = some r := h
  clear h
  by_cases c3 : a1 < (a0.size : Int)
  · rw [if_pos c3] at H
    have c3b0 : decide (a1 < (a0.size : Int)) = true := decide_eq_true c3
    clear c3
    by_cases c4 : 0 ≤ a1
    · rw [if_pos c4] at H
      have c4b0 : decide (0 ≤ a1) = true := decide_eq_true c4
      clear c4
      by_cases c6 : (bt a0 a1) ≥ 128
      · rw [if_pos c6] at H
        have c6b0 : decide (128 ≤ (bt a0 a1)) = true := decide_eq_true c6
        clear c6
        obtain rfl := Option.some.inj H
        have p5 : 0 ≤ (a1 : Int) := of_decide_eq_true (by first | (with_reducible assumption) | assumption)
        have q5 : a1 < (a0.size : Int) := of_decide_eq_true (by first | (with_reducible assumption) | assumption)
        have hx5 := bt_at a0 a1
        replace p5 := eq_true p5
        replace q5 := eq_true q5
        have p7 : 0 ≤ (a1 : Int) := of_decide_eq_true (by first | (with_reducible assumption) | assumption)
        have q7 : a1 < (a0.size : Int) := of_decide_eq_true (by first | (with_reducible assumption) | assumption)
        have hx7 := bt_at a0 a1
        replace p7 := eq_true p7
        replace q7 := eq_true q7
        go_enter Tryd.func74, Tryd.ntmps74
        go_wp2
        go_ret
        exact ⟨by first | rfl | (simp; done) | (simp [*]; done), by repeat (first | exact Drawn0.refl _ | apply Drawn0.step)⟩
      · rw [if_neg c6] at H
        have c6b0 : decide (128 ≤ (bt a0 a1)) = false := decide_eq_false c6
        clear c6
        obtain rfl := Option.some.inj H
        have p5 : 0 ≤ (a1 : Int) := of_decide_eq_true (by first | (with_reducible assumption) | assumption)
        have q5 : a1 < (a0.size : Int) := of_decide_eq_true (by first | (with_reducible assumption) | assumption)
        have hx5 := bt_at a0 a1
        replace p5 := eq_true p5
        replace q5 := eq_true q5
        go_enter Tryd.func74, Tryd.ntmps74
        go_wp2
        go_ret
        exact ⟨by first | rfl | (simp; done) | (simp [*]; done), by repeat (first | exact Drawn0.refl _ | apply Drawn0.step)⟩
    · rw [if_neg c4] at H
      exact absurd H (by simp)
  · rw [if_neg c3] at H
    have c3b0 : decide (a1 < (a0.size : Int)) = false := decide_eq_false c3
    clear c3
    obtain rfl := Option.some.inj H
    go_enter Tryd.func74, Tryd.ntmps74
    go_wp2
    go_ret
    exact ⟨by first | rfl | (simp; done) | (simp [*]; done), by repeat (first | exact Drawn0.refl _ | apply Drawn0.step)⟩

end Go.Proofs.YtfmjhklejjohcaaDoor.PAll
