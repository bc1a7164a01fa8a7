-- Written by a program of this session over the kit's printer (with contracts of the session's own).
import Derived.Test.YtfmjhklejjohcaaDoorPAllx0
import Derived.Test.YtfmjhklejjohcaaDoorPAllx1
import Derived.Test.YtfmjhklejjohcaaDoorPAllx2
import Derived.Test.YtfmjhklejjohcaaDoorPAllx3
import Derived.Test.YtfmjhklejjohcaaDoorPAllx7
namespace Go.Proofs.YtfmjhklejjohcaaDoor.PAll
open Go.RowKit Go.Proofs.YtfmjhklejjohcaaDoorW.PrintWords Go.Proofs.YtfmjhklejjohcaaDoorW.PrintLast Go.Proofs.YtfmjhklejjohcaaDoorW.PrintMore
attribute [local go_sem] max2_int min2_int max_two min_two max_three min_three max_four min_four   -- for this text's walks alone
set_option linter.unusedVariables false
set_option linter.unusedSimpArgs false

/-! ### ring_Heirs: function 19 (a contract of this session's own) -/
theorem info_int : (Tryd.prog.info? 3).map (fun i => (i.zero, i.size, i.bytes)) = some (some (.int .i64 0), 1, 8) := by kernel_rfl
theorem grow_nil (n : Nat) (hn : n * 8 ≤ 140737488355328) (w : World) :
    Calls Tryd.prog 54 #[.slice none 0 0, .int .i64 n] w fun e w' => ∃ v, e = .returned v ∧ (Kd.int .i64).R 3 w' w.heap.size (fun _ => True) v [] ∧ Below w.heap.size w w' := by
  rcases Nat.eq_zero_or_pos n with rfl | h0
  · refine (Any8.slices_Grow_room Tryd.grow54 none 0 0 0 w (Nat.le_refl _) (by decide) (by decide) (Nat.le_refl _)).mono ?_
    rintro e w' ⟨rfl, rfl⟩
    exact ⟨_, rfl, Kd.R_nil _ _ _ _ _, Below.refl _ _⟩
  · have hi := info_int
    cases hq : Tryd.prog.info? 3 with
    | none => rw [hq] at hi; cases hi
    | some i0 =>
      rw [hq] at hi
      simp only [Option.map_some, Option.some.injEq, Prod.mk.injEq] at hi
      obtain ⟨hz, hs, hb⟩ := hi
      refine (Any8.slices_Grow_grow Tryd.grow54 i0 (.int .i64 0) hq hz (by omega) none 0 0 n [] w (Nat.le_refl _) (by omega) (by rw [hb]; omega) (by omega) (by simp) (fun _ => rfl) (fun a h => by cases h)).mono ?_
      rintro e w' ⟨rfl, rfl⟩
      have hg := grownCap_ge w n 0 3
      have hm := grownCap_le_maxLen w (0 + n) 0 3 (by unfold maxLen; omega)
      refine ⟨_, rfl, R_of_own [] ⟨by simp, .inr ⟨w.heap.size, _, _, rfl, Nat.le_refl _, heap_alloc_new w.drew _, Nat.zero_le _, hm, ?_, by simp⟩⟩, below_alloc (below_drew (Below.refl _ w)) _⟩
      show (_ ++ _ ++ _ : Array Value).size = grownCap w (0 + n) 0 3 * 1
      rw [Array.size_append, Array.size_append, size_zeroCells, size_zeroCells]
      show ([] : List Value).toArray.size + (0 + n - 0) * 1 + (grownCap w (0 + n) 0 3 - (0 + n)) * 1 = _
      simp
      omega
set_option maxHeartbeats 4000000 in
set_option maxRecDepth 100000 in
theorem concat_two (p : Nat) (A1 A2 : Option Addr) (c1 c2 : Nat) (xs ys : List Int) (w : World) (h0 : w.cell? ⟨p, 0, none⟩ = some (.slice A1 xs.length c1)) (h1 : w.cell? ⟨p, 1, none⟩ = some (.slice A2 ys.length c2))
    (hx : Kd.C (Kd.int .i64) w A1 xs.length xs) (hy : Kd.C (Kd.int .i64) w A2 ys.length ys) (hl : (xs.length + ys.length) * 8 ≤ 140737488355328) :
    Calls Tryd.prog 34 #[.slice (some ⟨p, 0, none⟩) 2 2] w fun e w' => ∃ v, e = .returned v ∧ (Kd.int .i64).R 3 w' w.heap.size (fun _ => True) v (xs ++ ys) ∧ Below w.heap.size w w' := by
  have HX := Aside0.mk hx
  have HY := Aside0.mk hy
  have HL := Aside0.mk hl
  have HB0 := Aside0.mk (Below.refl w.heap.size w)
  have hp := World.block_lt_of_cell? w _ h0
  have H0 := Aside0.mk h0
  have H1 := Aside0.mk h1
  have HP := Aside0.mk hp
  have s1 : wrap64 (xs.length : Int) = (xs.length : Int) := by unfold wrap64; omega
  have s2 : wrap64 ((xs.length : Int) + (ys.length : Int)) = (xs.length : Int) + (ys.length : Int) := by unfold wrap64; omega
  have d1 : decide ((xs.length : Int) < 0) = false := decide_eq_false (by omega)
  have d2 : decide ((xs.length : Int) + (ys.length : Int) < 0) = false := decide_eq_false (by omega)
  have hg := grow_nil (xs.length + ys.length) hl w
  rw [Int.natCast_add] at hg
  have HG := Aside0.mk hg
  clear hx hy hl hp hg
  go_enter Tryd.func34, Tryd.ntmps34
  go_wp2
  go_loopg [3, 11] 2 (fun kq v3 v11 w' => w = w' ∧ ((kq = 2 ∧ v3 = .int .i64 0 ∧ v11 = .int .i64 0) ∨ (kq = 1 ∧ v3 = .int .i64 xs.length ∧ v11 = .int .i64 1) ∨ (kq = 0 ∧ v3 = .int .i64 ((xs.length : Int) + (ys.length : Int)) ∧ v11 = .int .i64 2)))
  case atStart => exact ⟨rfl, .inl ⟨rfl, rfl, rfl⟩⟩
  case round =>
    obtain ⟨rfl, h | h | h⟩ := hrel
    · obtain ⟨rfl, rfl, rfl⟩ := h
      go_wp2
      go_roundg 1
      case measure => omega
      case rel => exact ⟨rfl, .inr (.inl ⟨rfl, by rw [s1], rfl⟩)⟩
    · obtain ⟨rfl, rfl, rfl⟩ := h
      go_wp2
      go_roundg 0
      case measure => omega
      case rel => exact ⟨rfl, .inr (.inr ⟨rfl, by rw [s2], rfl⟩)⟩
    · obtain ⟨rfl, rfl, rfl⟩ := h
      clear s1 s2 d1 d2 h0 h1
      go_wp2_with (first | ((with_reducible refine gate_callee (f := 54) rfl ?_); refine goesL_ (some 24) rfl rfl Tryd.func54 (by kernel_rfl) rfl #[.slice none 0 0, .int .i64 ((xs.length : Int) + (ys.length : Int))] rfl (by (try simp only [List.map_toArray, List.map_cons, List.map_nil]); first | done | rfl) ?_; (with_reducible refine HG.out.mono ?_); rintro e w1 ⟨v1, rfl, hv1, hb1⟩; refine ⟨_, rfl, ?_⟩; have HV1 := Aside0.mk hv1; have HB1 := Aside0.mk hb1; clear hv1 hb1))
      go_loopg [6, 27] 2 (fun kq v6 v27 w' => Aside0 (Below w.heap.size w w') ∧ ((kq = 2 ∧ Aside0 ((Kd.int .i64).R 3 w' w.heap.size (fun _ => True) v6 []) ∧ v27 = .int .i64 0) ∨ (kq = 1 ∧ Aside0 ((Kd.int .i64).R 3 w' w.heap.size (fun _ => True) v6 xs) ∧ v27 = .int .i64 1) ∨ (kq = 0 ∧ Aside0 ((Kd.int .i64).R 3 w' w.heap.size (fun _ => True) v6 (xs ++ ys)) ∧ v27 = .int .i64 2)))
      case atStart => exact ⟨HB1, .inl ⟨rfl, HV1, rfl⟩⟩
      case round =>
        clear HB1 HV1
        obtain ⟨HB, h | h | h⟩ := hrel
        · obtain ⟨rfl, HV, rfl⟩ := h
          have l0 := (HB.out.cell (p := ⟨p, 0, none⟩) HP.out).trans H0.out
          go_wp2_with ((with_reducible refine gate_builtin (b := .append) (xs := #[.tmp 31, .tmp 32]) rfl ?_); at_builtin; refine Kd.R_append_rows (Kd.int .i64) (w0 := w) w.heap.size rfl (.tmp 31) (.tmp 32) 23 3 (.int .i64 0) 8 rfl Tryd.underlying23 info_int rfl (by decide) (by omega) _ [] xs A1 xs.length c1 (fun _ => True) (fun _ => False) rfl rfl HV.out (Kd.C_below HX.out HB.out) (fun x cs h => h) (fun _ h => h.elim) (fun _ _ => trivial) HB.out HB.out.size (by have := HL.out; simp; omega) ?_; intro v1 w1 h1 h2 h3 h4; have HV2 := Aside0.mk h1; have HB2 := Aside0.mk h2; clear h1 h2 h3 h4)
          go_roundg 1
          case measure => omega
          case rel => exact ⟨HB2, .inr (.inl ⟨rfl, ⟨by simpa using HV2.out⟩, rfl⟩)⟩
        · obtain ⟨rfl, HV, rfl⟩ := h
          have l0 := (HB.out.cell (p := ⟨p, 1, none⟩) HP.out).trans H1.out
          go_wp2_with ((with_reducible refine gate_builtin (b := .append) (xs := #[.tmp 31, .tmp 32]) rfl ?_); at_builtin; refine Kd.R_append_rows (Kd.int .i64) (w0 := w) w.heap.size rfl (.tmp 31) (.tmp 32) 23 3 (.int .i64 0) 8 rfl Tryd.underlying23 info_int rfl (by decide) (by omega) _ xs ys A2 ys.length c2 (fun _ => True) (fun _ => False) rfl rfl HV.out (Kd.C_below HY.out HB.out) (fun x cs h => h) (fun _ h => h.elim) (fun _ _ => trivial) HB.out HB.out.size HL.out ?_; intro v1 w1 h1 h2 h3 h4; have HV2 := Aside0.mk h1; have HB2 := Aside0.mk h2; clear h1 h2 h3 h4)
          go_roundg 0
          case measure => omega
          case rel => exact ⟨HB2, .inr (.inr ⟨rfl, HV2, rfl⟩)⟩
        · obtain ⟨rfl, HV, rfl⟩ := h
          go_wp2
          go_ret
          exact ⟨_, rfl, HV.out, HB.out⟩
def ring_Heirs.f (k : Nat) (a0 : Int) (l1 : List Int) (a2 : Int) : Option (List Int) := (ring_Ring.f k l1).bind fun r => if r.length = 0 then some [] else (ring_first.f a0 r).bind fun i => some (((r.drop i.toNat) ++ (r.take i.toNat)).take (min (max a2 0) r.length).toNat)
theorem ring_Heirs.mono : ∀ a0 a1 a2 k, LeO (ring_Heirs.f k a0 a1 a2) (ring_Heirs.f (k + 1) a0 a1 a2) := by
  intro a0 a1 a2 k
  unfold ring_Heirs.f
  exact LeO.bind (ring_Ring.mono _ _) fun _ => LeO.refl _
theorem idxF_le (p : Int → Bool) : ∀ (l : List Int) (i : Int), idxF p l i = -1 ∨ (i ≤ idxF p l i ∧ idxF p l i < i + l.length)
  | [], _ => .inl rfl
  | x :: l, i => by
    unfold idxF
    by_cases h : p x = true
    · rw [if_pos h]; right; simp; omega
    · rw [if_neg h]
      rcases idxF_le p l (i + 1) with h | h
      · exact .inl h
      · right; simp; omega
theorem R_take {w : World} {base n c m : Nat} {ok : Nat → Prop} {A : Option Addr} {xs : List Int} (h : (Kd.int .i64).R 3 w base ok (.slice A n c) xs) (hm : m ≤ xs.length) : (Kd.int .i64).R 3 w base (fun _ => True) (.slice A m c) (xs.take m) := by
  have ho := own_of_R h
  have hn : n = xs.length := by
    rcases own_le' ho with ⟨he, h0⟩ | ⟨g, cap, cur, he, _⟩
    · injection he with _ h2 _; omega
    · injection he
  subst hn
  have h2 := own_take ho hm
  rw [Nat.mul_one, ← List.map_take] at h2
  refine R_of_own _ ?_
  rw [List.length_take, Nat.min_eq_left hm]
  exact h2
theorem ring_Ring_small {k : Nat} {l q : List Int} (h : ring_Ring.f k l = some q) : q.length * 8 ≤ 140737488355328 := by
  obtain ⟨t, _, h⟩ := Option.bind_eq_some_iff.1 h
  split at h
  · split at h
    · obtain rfl := Option.some.inj h
      rw [sortZ_len]
      assumption
    · cases h
  · obtain rfl := Option.some.inj h
    simp
set_option maxHeartbeats 4000000 in
set_option maxRecDepth 100000 in
theorem ring_Heirs.calls (k : Nat) (a0 : Int) (A1 : Option Addr) (c1 : Nat) (l1 : List Int) (a2 : Int) (r : List Int) (w : World) (hr1 : Kd.C (Kd.int .i64) w A1 l1.length l1) (hc1 : l1.length ≤ c1) (h : ring_Heirs.f k a0 l1 a2 = some r) :
    Calls Tryd.prog 19 #[.int .u64 a0, .slice A1 l1.length c1, .int .i64 a2] w fun e w' => ∃ v0_ : Value, e = .returned (v0_) ∧ Kd.R (Kd.int .i64) 3 w' w.heap.size (fun _ => True) v0_ r ∧ Below w.heap.size w w' := by
  obtain ⟨q, hQ, h⟩ := Option.bind_eq_some_iff.1 h
  have HRG := Aside0.mk (ring_Ring.calls k A1 c1 l1 q w hr1 hc1 hQ)
  have hqs := ring_Ring_small hQ
  by_cases hq : q.length = 0
  · rw [if_pos hq] at h
    obtain rfl := Option.some.inj h
    obtain rfl := List.eq_nil_of_length_eq_zero hq
    clear h hr1 hc1 hQ hq hqs
    go_enter Tryd.func19, Tryd.ntmps19
    go_wp2_with (first
      | ((with_reducible refine gate_callee (f := 25) rfl ?_); refine goesL_ (some 11) rfl rfl Tryd.func25 (by kernel_rfl) rfl #[.slice A1 l1.length c1] rfl (by (try simp only [List.map_toArray, List.map_cons, List.map_nil]); first | done | rfl) ?_; (with_reducible refine HRG.out.mono ?_); rintro e w1 ⟨v1, rfl, hv1, hb1⟩; refine ⟨_, rfl, ?_⟩; obtain ⟨A, c, rfl, hAc, hA⟩ := Kd.R_reads hv1; have HB1 := Aside0.mk hb1; clear hv1 hb1 hA hAc))
    go_ret
    exact ⟨_, rfl, Kd.R_nil _ _ _ _ _, HB1.out⟩
  · rw [if_neg hq] at h
    have h : some (((q.drop (max (idxF (fun x => decide (a0 ≤ pointZ x)) q 0) 0).toNat) ++ (q.take (max (idxF (fun x => decide (a0 ≤ pointZ x)) q 0) 0).toNat)).take (min (max a2 0) q.length).toNat) = some r := h
    have hid := idxF_le (fun x => decide (a0 ≤ pointZ x)) q 0
    have hfi := fun (A : Option Addr) (c : Nat) (W : World) => ring_first.calls' a0 A c q W
    obtain ⟨i, hi⟩ : ∃ i : Nat, max (idxF (fun x => decide (a0 ≤ pointZ x)) q 0) 0 = (i : Int) := ⟨(max (idxF (fun x => decide (a0 ≤ pointZ x)) q 0) 0).toNat, by omega⟩
    have hil : i < q.length := by omega
    rw [hi] at h
    simp only [hi] at hfi
    rw [Int.toNat_natCast] at h
    have HFI := Aside0.mk hfi
    clear hfi hid hi
    have hq0 : decide ((q.length : Int) = 0) = false := decide_eq_false (by omega)
    have hq1 : ((q.length : Int) == 0) = false := by rw [beq_eq_false_iff_ne]; omega
    have HH := Aside0.mk h
    clear h hr1 hc1 hQ
    have hi1 : decide ((i : Int) ≤ (q.length : Int)) = true := decide_eq_true (by omega)
    go_enter Tryd.func19, Tryd.ntmps19
    go_wp2_with (first
      | ((with_reducible refine gate_callee (f := 25) rfl ?_); refine goesL_ (some 11) rfl rfl Tryd.func25 (by kernel_rfl) rfl #[.slice A1 l1.length c1] rfl (by (try simp only [List.map_toArray, List.map_cons, List.map_nil]); first | done | rfl) ?_; (with_reducible refine HRG.out.mono ?_); rintro e w1 ⟨v1, rfl, hv1, hb1⟩; refine ⟨_, rfl, ?_⟩; obtain ⟨A, c, rfl, hAc, hA⟩ := Kd.R_reads hv1; have HA := Aside0.mk hA; have HAC := Aside0.mk hAc; have HB1 := Aside0.mk hb1; clear hv1 hb1 hA hAc)
      | ((with_reducible refine gate_callee (f := 33) rfl ?_); refine goesL_ (some 17) rfl rfl Tryd.func33 (by kernel_rfl) rfl #[.int .u64 a0, .slice A q.length c] rfl (by (try simp only [List.map_toArray, List.map_cons, List.map_nil]); first | done | rfl) ?_; (with_reducible refine (HFI.out A c w1 HA.out HAC.out).mono ?_); rintro e w2 ⟨rfl, hb2⟩; refine ⟨_, rfl, ?_⟩; have HB2 := Aside0.mk hb2; clear hb2))
    obtain ⟨i0, hi0, hsz0⟩ : ∃ i0, Tryd.prog.info? 3 = some i0 ∧ i0.size = 1 := by
      have hi := info_int
      cases hq : Tryd.prog.info? 3 with
      | none => rw [hq] at hi; cases hi
      | some i0 =>
        rw [hq] at hi
        simp only [Option.map_some, Option.some.injEq, Prod.mk.injEq] at hi
        exact ⟨i0, rfl, hi.2.1⟩
    obtain ⟨A', hd1, hd2, hd3⟩ := print_drop_of (P := Tryd.prog) (Value.int .i64) (0 : Int) 23 3 .i64 Tryd.underlying23 hi0 hsz0 A c q (i : Int) (by omega) (by omega) HAC.out
    obtain ⟨ht1, ht2, ht3⟩ := print_take_of (P := Tryd.prog) (Value.int .i64) (0 : Int) 23 3 .i64 Tryd.underlying23 hi0 hsz0 A c q (i : Int) (by omega) (by omega) HAC.out
    rw [Int.toNat_natCast] at hd1 hd2 hd3 ht1 ht2 ht3
    have HD2 := Aside0.mk hd2
    have HT2 := Aside0.mk ht2
    clear hd2 ht2 hi0 hsz0 hd3 ht3
    go_still_tail 6, (by kernel_rfl)
    change wpList _ _ _ _ _ w2.drew
    have hA2 := Kd.C_below HA.out HB2.out
    have hCd : Kd.C (Kd.int .i64) w2 A' (q.drop i).length (q.drop i) := Kd.C_of_reads (HD2.out w2 (Kd.reads_of_C hA2))
    have hCt : Kd.C (Kd.int .i64) w2 A (q.take i).length (q.take i) := Kd.C_of_reads (HT2.out w2 (Kd.reads_of_C hA2))
    have hbw : Below w2.heap.size w2 ((w2.alloc (.cells #[.slice A' (q.length - i) (c - i), .slice A (min i q.length) c] 23)).drew) := below_drew (below_alloc (Below.refl _ w2) _)
    have hcc := concat_two w2.heap.size A' A (c - i) c (q.drop i) (q.take i) ((w2.alloc (.cells #[.slice A' (q.length - i) (c - i), .slice A (min i q.length) c] 23)).drew)
      (by rw [List.length_drop]; refine (cell_of_row _ w2.heap.size 0 _ _ (0, 0) (heap_alloc_new w2 _)).trans ?_; simp)
      (by rw [List.length_take]; refine (cell_of_row _ w2.heap.size 1 _ _ (0, 0) (heap_alloc_new w2 _)).trans ?_; simp)
      (Kd.C_below hCd hbw) (Kd.C_below hCt hbw) (by rw [List.length_drop, List.length_take]; omega)
    have HCC := Aside0.mk hcc
    have HBW := Aside0.mk hbw
    clear hcc hbw hCd hCt hA2
    go_wp2_with (first
      | ((with_reducible refine gate_callee (f := 34) rfl ?_); refine goesL_ (some 25) rfl rfl Tryd.func34 (by kernel_rfl) rfl #[.slice (some ⟨w2.heap.size, 0, none⟩) 2 2] rfl (by (try simp only [List.map_toArray, List.map_cons, List.map_nil]); first | done | rfl) ?_; (with_reducible refine HCC.out.mono ?_); rintro e w3 ⟨v3, rfl, hv3, hb3⟩; refine ⟨_, rfl, ?_⟩; have HV3 := Aside0.mk hv3; have HB3 := Aside0.mk hb3; clear hv3 hb3; obtain ⟨A3, c3, rfl, hc3, hr3⟩ := Kd.R_reads HV3.out; clear hr3))
    all_goals
      have hr := Option.some.inj HH.out
      have hql : (q.drop i ++ q.take i).length = q.length := by simp; omega
      have hc3' := hc3
      rw [List.length_append, List.length_drop, List.length_take] at hc3'
      first
        | (exfalso; omega)
        | (have z1 := HB1.out.size
           have z2 := HB2.out.size
           have z3 := HBW.out.size
           have hB := Below.trans HB1.out (Below.trans (HB2.out.mono z1) (Below.trans (HBW.out.mono (Nat.le_trans z1 z2)) (HB3.out.mono (Nat.le_trans (Nat.le_trans z1 z2) z3))))
           have h3 := R_take HV3.out (m := (min (max a2 0) q.length).toNat) (by rw [hql]; omega)
           rw [hr] at h3
           have h4 := Kd.R_lower h3 (Nat.le_trans (Nat.le_trans z1 z2) z3)
           have h5 : ∀ m, m = (min (max a2 0) q.length).toNat → (Kd.int .i64).R 3 w3 w.heap.size (fun _ => True) (.slice A3 m c3) r := by rintro m rfl; exact h4
           go_ret
           exact ⟨_, rfl, h5 _ (by omega), hB⟩)

/-! ### caduceuslaw10_without: function 20 -/
def caduceuslaw10_without.l0 : Nat → List Int → Int → List Int → Int → Option (List Int)
  | 0, _, _, _, _ => none
  | k + 1, x0, x1, x5, x6 => if x6 < (x0.length : Int) then (if 0 ≤ x6 then (if (rd x0 x6) = x1 then (caduceuslaw10_without.l0 k x0 x1 x5 (wrap64 (x6 + 1))) else (if x5.length < 17592186044416 then (caduceuslaw10_without.l0 k x0 x1 (x5 ++ [rd x0 x6]) (wrap64 (x6 + 1))) else (none))) else (none)) else (some x5)
def caduceuslaw10_without.f (k : Nat) (l0 : List Int) (a1 : Int) : Option (List Int) := caduceuslaw10_without.l0 k l0 a1 ([] : List Int) 0
theorem caduceuslaw10_without.mono_l : ∀ k, (∀ y0 y1 y2 y3, LeO (caduceuslaw10_without.l0 k y0 y1 y2 y3) (caduceuslaw10_without.l0 (k + 1) y0 y1 y2 y3))
  | 0 => fun _ _ _ _ r h => by simp [caduceuslaw10_without.l0] at h
  | k + 1 => by
    have ih0 := caduceuslaw10_without.mono_l k
    · intro y0 y1 y2 y3
      unfold caduceuslaw10_without.l0
      repeat' first
      | (with_reducible exact ih0 _ _ _ _)
      | (with_reducible exact LeO.refl _)
      | (with_reducible exact LeO.none _)
      | (with_reducible refine LeO.ite ?_ ?_)
      | (with_reducible refine LeO.bind ?_ (fun _ => ?_))
      | exact ih0 _ _ _ _
      | exact LeO.none _
      | refine LeO.ite ?_ ?_
      | refine LeO.bind ?_ (fun _ => ?_)
theorem caduceuslaw10_without.mono : ∀ a0 a1 k, LeO (caduceuslaw10_without.f k a0 a1) (caduceuslaw10_without.f (k + 1) a0 a1) := by
  intro a0 a1 k
  have ih0 := caduceuslaw10_without.mono_l k
  unfold caduceuslaw10_without.f
  repeat' first
      | (with_reducible exact ih0 _ _ _ _)
      | (with_reducible exact LeO.refl _)
      | (with_reducible exact LeO.none _)
      | (with_reducible refine LeO.ite ?_ ?_)
      | (with_reducible refine LeO.bind ?_ (fun _ => ?_))
      | exact ih0 _ _ _ _
      | exact LeO.none _
      | refine LeO.ite ?_ ?_
      | refine LeO.bind ?_ (fun _ => ?_)
set_option maxHeartbeats 8000000 in
set_option maxRecDepth 100000 in
theorem caduceuslaw10_without.calls (k : Nat) (A0 : Option Addr) (c0 : Nat) (l0 : List Int) (a1 : Int) (r : List Int) (w : World) (hr0 : Kd.C (Kd.int .i64) w A0 l0.length l0) (hc0 : l0.length ≤ c0) (h : caduceuslaw10_without.f k l0 a1 = some r) :
    Calls Tryd.prog 20 #[.slice A0 l0.length c0, .int .i64 a1] w fun e w' => ∃ v0_ : Value, e = .returned (v0_) ∧ Kd.R (Kd.int .i64) 3 w' w.heap.size (fun _ => True) v0_ r ∧ Below w.heap.size w w' := by
  have HR0 := Aside0.mk hr0
  have HC0 := Aside0.mk hc0
  clear hr0 hc0
  have HB := Aside0.mk (Below.refl w.heap.size w)
  have H : (caduceuslaw10_without.l0 k l0 a1 ([] : List Int) 0) = some r := h
  clear h
  have H' := Aside0.mk H
  clear H
  go_enter Tryd.func20, Tryd.ntmps20
  go_wp2
  go_loopg [5, 6] k (fun kq v5 v6 w' => ∃ (x5_1 : List Int) (x6_1 : Int), v6 = .int .i64 x6_1 ∧ Aside0 (caduceuslaw10_without.l0 kq l0 a1 x5_1 x6_1 = some r) ∧ Aside0 (kq ≤ k) ∧ Aside0 (Kd.R (Kd.int .i64) 3 w' w.heap.size (fun _ => True) v5 x5_1) ∧ Aside0 (Below w.heap.size w w'))
  case atStart => exact ⟨(([] : List Int)), (0), (by first | rfl | (simp; done) | (simp [*]; done)), H', ⟨Nat.le_refl _⟩, ⟨by first | exact Kd.R_nil _ _ _ _ _ | exact Kd.N_nil _ _ _ _ _ | exact Kd.V_nil _ _ _ _ _ | exact Kd.Q_nil _ _ _ _ _ | exact Kd.S_nil _ _ _ _ _⟩, ⟨by repeat (first | (with_reducible first | exact HB.out | apply below_alloc | apply pw_below_drewN | apply below_drew1) | exact HB.out)⟩⟩
  case round =>
    clear H'
    try clear c2
    try clear p2
    obtain ⟨x5_1, x6_1, rfl, HA, HK1, HO_5, HB⟩ := hrel
    cases gk with
    | zero => exact absurd HA.out (by simp [caduceuslaw10_without.l0])
    | succ k1 =>
      have H := HA.out
      clear HA
      simp only [caduceuslaw10_without.l0] at H
      by_cases c3 : x6_1 < (l0.length : Int)
      · rw [if_pos c3] at H
        have c3b0 : decide (x6_1 < (l0.length : Int)) = true := decide_eq_true c3
        clear c3
        by_cases c4 : 0 ≤ x6_1
        · rw [if_pos c4] at H
          have c4b0 : decide (0 ≤ x6_1) = true := decide_eq_true c4
          clear c4
          by_cases c5 : (rd l0 x6_1) = a1
          · rw [if_pos c5] at H
            have c5b0 : ((rd l0 x6_1) == a1) = true := beq_iff_eq.mpr c5
            have c5b1 : ((rd l0 x6_1) != a1) = false := bne_eq_false_iff_eq.mpr c5
            clear c5
            have H' := Aside0.mk H
            clear H
            have p272 : 0 ≤ (x6_1 : Int) := of_decide_eq_true (by first | (with_reducible assumption) | assumption)
            have q272 : x6_1 < (l0.length : Int) := of_decide_eq_true (by first | (with_reducible assumption) | assumption)
            obtain ⟨ad272, e272, hx272_0⟩ := Kd.at_int HR0.out x6_1 p272 q272
            cases e272
            replace hx272_0 := (HB.out.cell (World.block_lt_of_cell? w _ hx272_0)).trans hx272_0
            replace p272 := eq_true p272
            replace q272 := eq_true q272
            go_wp2
            go_roundg k1
            case measure => have := HK1.out; omega
            case rel => exact ⟨(x5_1), (wrap64 (x6_1 + 1)), (by first | rfl | (simp; done) | (simp [*]; done)), H', ⟨by have := HK1.out; omega⟩, ⟨by (with_reducible repeat (first | apply Kd.R_alloc | apply Kd.R_drewN | apply Kd.R_drew)); exact HO_5.out⟩, ⟨by repeat (first | (with_reducible first | exact HB.out | apply below_alloc | apply pw_below_drewN | apply below_drew1) | exact HB.out)⟩⟩
          · rw [if_neg c5] at H
            have c5b0 : ((rd l0 x6_1) == a1) = false := beq_eq_false_iff_ne.mpr c5
            have c5b1 : ((rd l0 x6_1) != a1) = true := bne_iff_ne.mpr c5
            by_cases c6 : x5_1.length < 17592186044416
            · rw [if_pos c6] at H
              have LMc6 := Aside0.mk c6
              clear c6
              obtain ⟨y274, hy274⟩ : ∃ y_ : List Int, y_ = (x5_1 ++ [rd l0 x6_1]) := ⟨_, rfl⟩
              replace H : (caduceuslaw10_without.l0 k1 l0 a1 y274 (wrap64 (x6_1 + 1))) = some r := by first | (rw [hy274]; with_reducible exact H) | (have H2_ := (Option.bind_some _ _).symm.trans H; rw [hy274]; with_reducible exact H2_) | (have H2_ := (Option.bind_some _ _).symm.trans H; with_reducible exact H2_) | with_reducible exact H | (rw [hy274]; exact H) | exact H
              have Ny274 := Aside0.mk hy274
              clear hy274
              have H' := Aside0.mk H
              clear H
              have p272 : 0 ≤ (x6_1 : Int) := of_decide_eq_true (by first | (with_reducible assumption) | assumption)
              have q272 : x6_1 < (l0.length : Int) := of_decide_eq_true (by first | (with_reducible assumption) | assumption)
              obtain ⟨ad272, e272, hx272_0⟩ := Kd.at_int HR0.out x6_1 p272 q272
              cases e272
              replace hx272_0 := (HB.out.cell (World.block_lt_of_cell? w _ hx272_0)).trans hx272_0
              replace p272 := eq_true p272
              replace q272 := eq_true q272
              have p273 : 0 ≤ (x6_1 : Int) := of_decide_eq_true (by first | (with_reducible assumption) | assumption)
              have q273 : x6_1 < (l0.length : Int) := of_decide_eq_true (by first | (with_reducible assumption) | assumption)
              obtain ⟨ad273, e273, hx273_0⟩ := Kd.at_int HR0.out x6_1 p273 q273
              obtain rfl : ad272 = ad273 := (by injection e273)
              replace hx273_0 := (HB.out.cell (World.block_lt_of_cell? w _ hx273_0)).trans hx273_0
              replace p273 := eq_true p273
              replace q273 := eq_true q273
              go_wp2_with (first | ((with_reducible refine gate_builtin (b := .append) (xs := #[.tmp 19, .tmp 24]) rfl ?_); at_builtin; refine Kd.R_append (Kd.int .i64) (w0 := w) w.heap.size rfl (.tmp 19) (.tmp 24) 23 3 (.int .i64 0) 8 rfl Tryd.underlying23 info3 rfl (by decide) (by omega) u5 x5_1 (rd l0 x6_1) [.int .i64 (rd l0 x6_1)] (fun _ => True) (fun _ => False) rfl rfl ?aP (fun _ hk => hk.elim) ?aF ?aO ?aB ?aS ?aL ?_; (case aP => exact rfl); (case aB => exact (by repeat (first | (with_reducible first | exact HB.out | apply below_alloc | apply pw_below_drewN | apply below_drew1) | exact HB.out))); (case aF => exact (fun _ _ => trivial)); (case aO => exact (by (with_reducible repeat (first | apply Kd.R_alloc | apply Kd.R_drewN | apply Kd.R_drew)); exact HO_5.out)); (case aS => exact (below_size (by repeat (first | (with_reducible first | exact HB.out | apply below_alloc | apply pw_below_drewN | apply below_drew1) | exact HB.out)))); (case aL => have := LMc6.out; omega); intro v275 w7 ho hb hg hat; rw [← Ny274.out] at ho; have n0_ := Aside0.mk (hb); have n1_ := Aside0.mk (ho); clear HB; clear HO_5; have HB := n0_; have HO276 := n1_; clear n0_ n1_; clear ho hb hg hat))
              go_roundg k1
              case measure => have := HK1.out; omega
              case rel => exact ⟨(y274), (wrap64 (x6_1 + 1)), (by first | rfl | (simp; done) | (simp [*]; done)), H', ⟨by have := HK1.out; omega⟩, ⟨by (with_reducible repeat (first | apply Kd.R_alloc | apply Kd.R_drewN | apply Kd.R_drew)); exact HO276.out⟩, ⟨by repeat (first | (with_reducible first | exact HB.out | apply below_alloc | apply pw_below_drewN | apply below_drew1) | exact HB.out)⟩⟩
            · rw [if_neg c6] at H
              exact absurd H (by simp)
        · rw [if_neg c4] at H
          exact absurd H (by simp)
      · rw [if_neg c3] at H
        have c3b0 : decide (x6_1 < (l0.length : Int)) = false := decide_eq_false c3
        clear c3
        obtain rfl := Option.some.inj H
        go_wp2
        go_ret
        exact ⟨_, by first | rfl | (simp [errW_none, errW_some] <;> rfl) | (simp [*, errW_none, errW_some] <;> rfl), by (with_reducible repeat (first | apply Kd.R_alloc | apply Kd.R_drewN | apply Kd.R_drew)); exact HO_5.out, by repeat (first | (with_reducible first | exact HB.out | apply below_alloc | apply pw_below_drewN | apply below_drew1) | exact HB.out)⟩

/-! ### caduceuslaw10_RingLess: function 5 -/
mutual
def caduceuslaw10_RingLess.j0 : Nat → Int → List Int → Int → Bool → Option (Bool)
  | 0, _, _, _, _ => none
  | k + 1, x0, x1, x2, x25 => if x25 = true then ((caduceuslaw10_awake.f k).bind fun t279 => (some t279)) else (if (x1.length : Int) = 0 then (none) else (if 0 ≤ (Int.tmod (wrap64 ((Int.tmod x2 (x1.length : Int)) + (x1.length : Int))) (x1.length : Int)) then (if (Int.tmod (wrap64 ((Int.tmod x2 (x1.length : Int)) + (x1.length : Int))) (x1.length : Int)) < (x1.length : Int) then ((ring_Heirs.f k x0 x1 (x1.length : Int)).bind fun t281 => ((caduceuslaw10_without.f k x1 (rd x1 (Int.tmod (wrap64 ((Int.tmod x2 (x1.length : Int)) + (x1.length : Int))) (x1.length : Int)))).bind fun t284 => ((ring_Owner.f k x0 t284).bind fun bt287 => (if bt287.2 = true then (caduceuslaw10_RingLess.j1 k x0 (rd x1 (Int.tmod (wrap64 ((Int.tmod x2 (x1.length : Int)) + (x1.length : Int))) (x1.length : Int))) t281 t284 bt287.1 ((t281.length : Int) != (x1.length : Int))) else none)))) else (none)) else (none)))
def caduceuslaw10_RingLess.j1 : Nat → Int → Int → List Int → List Int → Int → Bool → Option (Bool)
  | 0, _, _, _, _, _, _ => none
  | k + 1, x0, x7, x8, x9, x10, x62 => if x62 = true then none else (if 0 < (x8.length : Int) then (if (rd x8 0) = x7 then (if 1 < (x8.length : Int) then (caduceuslaw10_RingLess.j2 k x0 x7 x8 x9 x10 (rd x8 1)) else (none)) else (caduceuslaw10_RingLess.j2 k x0 x7 x8 x9 x10 (rd x8 0))) else (none))
def caduceuslaw10_RingLess.j2 : Nat → Int → Int → List Int → List Int → Int → Int → Option (Bool)
  | 0, _, _, _, _, _, _ => none
  | k + 1, x0, x7, x8, x9, x10, x12 => (caduceuslaw10_awake.f k).bind fun t291 => (if t291 = true then (if x10 = x12 then ((ring_Heirs.f k x0 x9 (x9.length : Int)).bind fun t292 => ((caduceuslaw10_without.f k x8 x7).bind fun t295 => ((caduceusref10_Same.f k t292 t295).bind fun t298 => (some t298)))) else none) else none)
end
def caduceuslaw10_RingLess.f (k : Nat) (a0 : Int) (l1 : List Int) (a2 : Int) : Option (Bool) := (caduceuslaw10_few.f l1).bind fun t277 => (if t277 = true then ((caduceusref10_Nodes.f k l1).bind fun t278 => (if t278 = true then (caduceuslaw10_RingLess.j0 k a0 l1 a2 (decide ((l1.length : Int) < 2))) else (caduceuslaw10_RingLess.j0 k a0 l1 a2 true))) else (caduceuslaw10_RingLess.j0 k a0 l1 a2 true))
theorem caduceuslaw10_RingLess.mono_l : ∀ k, (∀ y0 y1 y2 y3, LeO (caduceuslaw10_RingLess.j0 k y0 y1 y2 y3) (caduceuslaw10_RingLess.j0 (k + 1) y0 y1 y2 y3)) ∧ (∀ y0 y1 y2 y3 y4 y5, LeO (caduceuslaw10_RingLess.j1 k y0 y1 y2 y3 y4 y5) (caduceuslaw10_RingLess.j1 (k + 1) y0 y1 y2 y3 y4 y5)) ∧ (∀ y0 y1 y2 y3 y4 y5, LeO (caduceuslaw10_RingLess.j2 k y0 y1 y2 y3 y4 y5) (caduceuslaw10_RingLess.j2 (k + 1) y0 y1 y2 y3 y4 y5))
  | 0 => ⟨fun _ _ _ _ r h => by simp [caduceuslaw10_RingLess.j0] at h, fun _ _ _ _ _ _ r h => by simp [caduceuslaw10_RingLess.j1] at h, fun _ _ _ _ _ _ r h => by simp [caduceuslaw10_RingLess.j2] at h⟩
  | k + 1 => by
    obtain ⟨ih0, ih1, ih2⟩ := caduceuslaw10_RingLess.mono_l k
    refine ⟨?_, ?_, ?_⟩
    · intro y0 y1 y2 y3
      unfold caduceuslaw10_RingLess.j0
      repeat' first
      | (with_reducible exact ih0 _ _ _ _)
      | (with_reducible exact ih1 _ _ _ _ _ _)
      | (with_reducible exact ih2 _ _ _ _ _ _)
      | (with_reducible exact caduceuslaw10_awake.mono _)
      | (with_reducible exact caduceuslaw10_without.mono _ _ _)
      | (with_reducible exact caduceusref10_Nodes.mono _ _)
      | (with_reducible exact caduceusref10_Same.mono _ _ _)
      | (with_reducible exact ring_Heirs.mono _ _ _ _)
      | (with_reducible exact ring_Owner.mono _ _ _)
      | (with_reducible exact LeO.refl _)
      | (with_reducible exact LeO.none _)
      | (with_reducible refine LeO.ite ?_ ?_)
      | (with_reducible refine LeO.bind ?_ (fun _ => ?_))
      | exact ih0 _ _ _ _
      | exact ih1 _ _ _ _ _ _
      | exact ih2 _ _ _ _ _ _
      | exact caduceuslaw10_awake.mono _
      | exact caduceuslaw10_without.mono _ _ _
      | exact caduceusref10_Nodes.mono _ _
      | exact caduceusref10_Same.mono _ _ _
      | exact ring_Heirs.mono _ _ _ _
      | exact ring_Owner.mono _ _ _
      | exact LeO.none _
      | refine LeO.ite ?_ ?_
      | refine LeO.bind ?_ (fun _ => ?_)
    · intro y0 y1 y2 y3 y4 y5
      unfold caduceuslaw10_RingLess.j1
      repeat' first
      | (with_reducible exact ih0 _ _ _ _)
      | (with_reducible exact ih1 _ _ _ _ _ _)
      | (with_reducible exact ih2 _ _ _ _ _ _)
      | (with_reducible exact caduceuslaw10_awake.mono _)
      | (with_reducible exact caduceuslaw10_without.mono _ _ _)
      | (with_reducible exact caduceusref10_Nodes.mono _ _)
      | (with_reducible exact caduceusref10_Same.mono _ _ _)
      | (with_reducible exact ring_Heirs.mono _ _ _ _)
      | (with_reducible exact ring_Owner.mono _ _ _)
      | (with_reducible exact LeO.refl _)
      | (with_reducible exact LeO.none _)
      | (with_reducible refine LeO.ite ?_ ?_)
      | (with_reducible refine LeO.bind ?_ (fun _ => ?_))
      | exact ih0 _ _ _ _
      | exact ih1 _ _ _ _ _ _
      | exact ih2 _ _ _ _ _ _
      | exact caduceuslaw10_awake.mono _
      | exact caduceuslaw10_without.mono _ _ _
      | exact caduceusref10_Nodes.mono _ _
      | exact caduceusref10_Same.mono _ _ _
      | exact ring_Heirs.mono _ _ _ _
      | exact ring_Owner.mono _ _ _
      | exact LeO.none _
      | refine LeO.ite ?_ ?_
      | refine LeO.bind ?_ (fun _ => ?_)
    · intro y0 y1 y2 y3 y4 y5
      unfold caduceuslaw10_RingLess.j2
      repeat' first
      | (with_reducible exact ih0 _ _ _ _)
      | (with_reducible exact ih1 _ _ _ _ _ _)
      | (with_reducible exact ih2 _ _ _ _ _ _)
      | (with_reducible exact caduceuslaw10_awake.mono _)
      | (with_reducible exact caduceuslaw10_without.mono _ _ _)
      | (with_reducible exact caduceusref10_Nodes.mono _ _)
      | (with_reducible exact caduceusref10_Same.mono _ _ _)
      | (with_reducible exact ring_Heirs.mono _ _ _ _)
      | (with_reducible exact ring_Owner.mono _ _ _)
      | (with_reducible exact LeO.refl _)
      | (with_reducible exact LeO.none _)
      | (with_reducible refine LeO.ite ?_ ?_)
      | (with_reducible refine LeO.bind ?_ (fun _ => ?_))
      | exact ih0 _ _ _ _
      | exact ih1 _ _ _ _ _ _
      | exact ih2 _ _ _ _ _ _
      | exact caduceuslaw10_awake.mono _
      | exact caduceuslaw10_without.mono _ _ _
      | exact caduceusref10_Nodes.mono _ _
      | exact caduceusref10_Same.mono _ _ _
      | exact ring_Heirs.mono _ _ _ _
      | exact ring_Owner.mono _ _ _
      | exact LeO.none _
      | refine LeO.ite ?_ ?_
      | refine LeO.bind ?_ (fun _ => ?_)
theorem caduceuslaw10_RingLess.mono : ∀ a0 a1 a2 k, LeO (caduceuslaw10_RingLess.f k a0 a1 a2) (caduceuslaw10_RingLess.f (k + 1) a0 a1 a2) := by
  intro a0 a1 a2 k
  obtain ⟨ih0, ih1, ih2⟩ := caduceuslaw10_RingLess.mono_l k
  unfold caduceuslaw10_RingLess.f
  repeat' first
      | (with_reducible exact ih0 _ _ _ _)
      | (with_reducible exact ih1 _ _ _ _ _ _)
      | (with_reducible exact ih2 _ _ _ _ _ _)
      | (with_reducible exact caduceuslaw10_awake.mono _)
      | (with_reducible exact caduceuslaw10_without.mono _ _ _)
      | (with_reducible exact caduceusref10_Nodes.mono _ _)
      | (with_reducible exact caduceusref10_Same.mono _ _ _)
      | (with_reducible exact ring_Heirs.mono _ _ _ _)
      | (with_reducible exact ring_Owner.mono _ _ _)
      | (with_reducible exact LeO.refl _)
      | (with_reducible exact LeO.none _)
      | (with_reducible refine LeO.ite ?_ ?_)
      | (with_reducible refine LeO.bind ?_ (fun _ => ?_))
      | exact ih0 _ _ _ _
      | exact ih1 _ _ _ _ _ _
      | exact ih2 _ _ _ _ _ _
      | exact caduceuslaw10_awake.mono _
      | exact caduceuslaw10_without.mono _ _ _
      | exact caduceusref10_Nodes.mono _ _
      | exact caduceusref10_Same.mono _ _ _
      | exact ring_Heirs.mono _ _ _ _
      | exact ring_Owner.mono _ _ _
      | exact LeO.none _
      | refine LeO.ite ?_ ?_
      | refine LeO.bind ?_ (fun _ => ?_)
set_option maxHeartbeats 8000000 in
set_option maxRecDepth 100000 in
theorem caduceuslaw10_RingLess.calls (k : Nat) (a0 : Int) (A1 : Option Addr) (c1 : Nat) (l1 : List Int) (a2 : Int) (r : Bool) (w : World) (hr1 : Kd.C (Kd.int .i64) w A1 l1.length l1) (hc1 : l1.length ≤ c1) (h : caduceuslaw10_RingLess.f k a0 l1 a2 = some r) :
    Calls Tryd.prog 5 #[.int .u64 a0, .slice A1 l1.length c1, .int .i64 a2] w fun e w' => e = .returned (.bool r) ∧ Below w.heap.size w w' := by
  have HR1 := Aside0.mk hr1
  have HC1 := Aside0.mk hc1
  clear hr1 hc1
  have HB := Aside0.mk (Below.refl w.heap.size w)
  have H : ((caduceuslaw10_few.f l1).bind fun t277 => (if t277 = true then ((caduceusref10_Nodes.f k l1).bind fun t278 => (if t278 = true then (caduceuslaw10_RingLess.j0 k a0 l1 a2 (decide ((l1.length : Int) < 2))) else (caduceuslaw10_RingLess.j0 k a0 l1 a2 true))) else (caduceuslaw10_RingLess.j0 k a0 l1 a2 true))) = some r := h
  clear h
  have HC4 := Aside0.mk H
  clear H
  go_enter Tryd.func5, Tryd.ntmps5
  go_upto_region 1 with (fail)
  go_cut [25] (fun v25 wc => ∃ (kq : Nat) (x25_3 : Bool), v25 = .bool x25_3 ∧ Aside0 (caduceuslaw10_RingLess.j0 kq a0 l1 a2 x25_3 = some r) ∧ Aside0 (kq ≤ k) ∧ Aside0 (Below w.heap.size w wc))
  case first =>
    have H := HC4.out
    clear HC4
    replace H := Option.bind_eq_some_iff.mp H
    obtain ⟨t277, A50, H⟩ := H
    replace H : (if t277 = true then ((caduceusref10_Nodes.f k l1).bind fun t278 => (if t278 = true then (caduceuslaw10_RingLess.j0 k a0 l1 a2 (decide ((l1.length : Int) < 2))) else (caduceuslaw10_RingLess.j0 k a0 l1 a2 true))) else (caduceuslaw10_RingLess.j0 k a0 l1 a2 true)) = some r := H
    have A5 := Aside0.mk A50
    clear A50
    by_cases c6 : t277 = true
    · subst c6
      have H1 : ((caduceusref10_Nodes.f k l1).bind fun t278 => (if t278 = true then (caduceuslaw10_RingLess.j0 k a0 l1 a2 (decide ((l1.length : Int) < 2))) else (caduceuslaw10_RingLess.j0 k a0 l1 a2 true))) = some r := by rw [if_pos rfl] at H; exact H
      clear H
      have H := H1
      clear H1
      replace H := Option.bind_eq_some_iff.mp H
      obtain ⟨t278, A70, H⟩ := H
      replace H : (if t278 = true then (caduceuslaw10_RingLess.j0 k a0 l1 a2 (decide ((l1.length : Int) < 2))) else (caduceuslaw10_RingLess.j0 k a0 l1 a2 true)) = some r := H
      have A7 := Aside0.mk A70
      clear A70
      by_cases c8 : t278 = true
      · subst c8
        have H1 : (caduceuslaw10_RingLess.j0 k a0 l1 a2 (decide ((l1.length : Int) < 2))) = some r := by rw [if_pos rfl] at H; exact H
        clear H
        have H := H1
        clear H1
        have H' := Aside0.mk H
        clear H
        go_wp2_with (first | ((with_reducible refine gate_callee (f := 8) rfl ?_); refine goesL_ (some 14) rfl rfl Tryd.func8 (by kernel_rfl) rfl #[.slice A1 l1.length c1] rfl (by (try simp only [List.map_toArray, List.map_cons, List.map_nil]); first | done | rfl | (simp only [List.length_drop, List.length_take]; rfl)) ?_; (with_reducible refine (caduceuslaw10_few.calls _ _ l1 true _ ?side1 ?side2 A5.out).mono ?_); (case side1 => repeat (first | exact (Kd.C_below HR1.out HB.out) | (with_reducible refine Kd.C_alloc ?_ _) | (with_reducible refine Kd.C_drewN ?_ _) | (with_reducible refine Kd.C_drew ?_))); (case side2 => exact HC1.out); rintro e w' ⟨rfl, ⟨nd, rfl⟩⟩; refine ⟨_, rfl, ?_⟩) | (go_at_call 16; (with_reducible refine (caduceusref10_Nodes.calls k _ _ l1 true _ ?side1 ?side2 A7.out).mono ?_); (case side1 => repeat (first | exact (Kd.C_below HR1.out (by repeat (first | (with_reducible first | exact HB.out | apply below_alloc | apply pw_below_drewN | apply below_drew1) | exact HB.out))) | (with_reducible refine Kd.C_alloc ?_ _) | (with_reducible refine Kd.C_drewN ?_ _) | (with_reducible refine Kd.C_drew ?_))); (case side2 => exact HC1.out); rintro e w' ⟨rfl, ⟨nd, rfl⟩⟩))
        go_meet
        case rel => exact ⟨_, (decide ((l1.length : Int) < 2)), (by first | rfl | (simp; done) | (simp [*]; done)), H', ⟨by first | omega | exact Nat.le_refl _⟩, ⟨by repeat (first | (with_reducible first | exact HB.out | apply below_alloc | apply pw_below_drewN | apply below_drew1) | exact HB.out)⟩⟩
      · replace c8 := Bool.eq_false_iff.mpr c8
        subst c8
        have H1 : (caduceuslaw10_RingLess.j0 k a0 l1 a2 true) = some r := by rw [if_neg (show ¬ (false = true) by decide)] at H; exact H
        clear H
        have H := H1
        clear H1
        have H' := Aside0.mk H
        clear H
        go_wp2_with (first | ((with_reducible refine gate_callee (f := 8) rfl ?_); refine goesL_ (some 14) rfl rfl Tryd.func8 (by kernel_rfl) rfl #[.slice A1 l1.length c1] rfl (by (try simp only [List.map_toArray, List.map_cons, List.map_nil]); first | done | rfl | (simp only [List.length_drop, List.length_take]; rfl)) ?_; (with_reducible refine (caduceuslaw10_few.calls _ _ l1 true _ ?side1 ?side2 A5.out).mono ?_); (case side1 => repeat (first | exact (Kd.C_below HR1.out HB.out) | (with_reducible refine Kd.C_alloc ?_ _) | (with_reducible refine Kd.C_drewN ?_ _) | (with_reducible refine Kd.C_drew ?_))); (case side2 => exact HC1.out); rintro e w' ⟨rfl, ⟨nd, rfl⟩⟩; refine ⟨_, rfl, ?_⟩) | (go_at_call 16; (with_reducible refine (caduceusref10_Nodes.calls k _ _ l1 false _ ?side1 ?side2 A7.out).mono ?_); (case side1 => repeat (first | exact (Kd.C_below HR1.out (by repeat (first | (with_reducible first | exact HB.out | apply below_alloc | apply pw_below_drewN | apply below_drew1) | exact HB.out))) | (with_reducible refine Kd.C_alloc ?_ _) | (with_reducible refine Kd.C_drewN ?_ _) | (with_reducible refine Kd.C_drew ?_))); (case side2 => exact HC1.out); rintro e w' ⟨rfl, ⟨nd, rfl⟩⟩))
        go_meet
        case rel => exact ⟨_, (true), (by first | rfl | (simp; done) | (simp [*]; done)), H', ⟨by first | omega | exact Nat.le_refl _⟩, ⟨by repeat (first | (with_reducible first | exact HB.out | apply below_alloc | apply pw_below_drewN | apply below_drew1) | exact HB.out)⟩⟩
    · replace c6 := Bool.eq_false_iff.mpr c6
      subst c6
      have H1 : (caduceuslaw10_RingLess.j0 k a0 l1 a2 true) = some r := by rw [if_neg (show ¬ (false = true) by decide)] at H; exact H
      clear H
      have H := H1
      clear H1
      have H' := Aside0.mk H
      clear H
      go_wp2_with (first | ((with_reducible refine gate_callee (f := 8) rfl ?_); refine goesL_ (some 14) rfl rfl Tryd.func8 (by kernel_rfl) rfl #[.slice A1 l1.length c1] rfl (by (try simp only [List.map_toArray, List.map_cons, List.map_nil]); first | done | rfl | (simp only [List.length_drop, List.length_take]; rfl)) ?_; (with_reducible refine (caduceuslaw10_few.calls _ _ l1 false _ ?side1 ?side2 A5.out).mono ?_); (case side1 => repeat (first | exact (Kd.C_below HR1.out HB.out) | (with_reducible refine Kd.C_alloc ?_ _) | (with_reducible refine Kd.C_drewN ?_ _) | (with_reducible refine Kd.C_drew ?_))); (case side2 => exact HC1.out); rintro e w' ⟨rfl, ⟨nd, rfl⟩⟩; refine ⟨_, rfl, ?_⟩))
      go_meet
      case rel => exact ⟨_, (true), (by first | rfl | (simp; done) | (simp [*]; done)), H', ⟨by first | omega | exact Nat.le_refl _⟩, ⟨by repeat (first | (with_reducible first | exact HB.out | apply below_alloc | apply pw_below_drewN | apply below_drew1) | exact HB.out)⟩⟩
  case rest =>
    clear HC4
    try clear c1
    try clear p2
    try clear c5
    try clear c6
    try clear c8
    obtain ⟨kq, x25_3, rfl, HA, HJ3, HB⟩ := hcut
    cases kq with
    | zero => exact absurd HA.out (by simp [caduceuslaw10_RingLess.j0])
    | succ kj3 =>
      have H := HA.out
      clear HA
      simp only [caduceuslaw10_RingLess.j0] at H
      by_cases c9 : x25_3 = true
      · subst c9
        have H1 : ((caduceuslaw10_awake.f kj3).bind fun t279 => (some t279)) = some r := by rw [if_pos rfl] at H; exact H
        clear H
        have H := H1
        clear H1
        replace H := Option.bind_eq_some_iff.mp H
        obtain ⟨t279, A100, H⟩ := H
        replace H : (some t279) = some r := H
        have A10 := Aside0.mk A100
        clear A100
        obtain rfl := Option.some.inj H
        go_wp2_with (first | ((with_reducible refine gate_callee (f := 9) rfl ?_); refine goesL_ (some 26) rfl rfl Tryd.func9 (by kernel_rfl) rfl #[] rfl (by (try simp only [List.map_toArray, List.map_cons, List.map_nil]); first | done | rfl | (simp only [List.length_drop, List.length_take]; rfl)) ?_; (with_reducible refine (caduceuslaw10_awake.calls kj3  t279 _ A10.out).mono ?_); rintro e w11 ⟨rfl, hb⟩; refine ⟨_, rfl, ?_⟩; have n0_ := Aside0.mk (below_step (by repeat (first | (with_reducible first | exact HB.out | apply below_alloc | apply pw_below_drewN | apply below_drew1) | exact HB.out)) hb); clear HB; have HB := n0_; clear n0_; (try clear hb); (try clear hb2); (try clear hk); (try clear hi)))
        go_ret
        exact ⟨by first | rfl | (simp [errW_none, errW_some] <;> rfl) | (simp [*, errW_none, errW_some] <;> rfl), by repeat (first | (with_reducible first | exact HB.out | apply below_alloc | apply pw_below_drewN | apply below_drew1) | exact HB.out)⟩
      · replace c9 := Bool.eq_false_iff.mpr c9
        subst c9
        have H1 : (if (l1.length : Int) = 0 then (none) else (if 0 ≤ (Int.tmod (wrap64 ((Int.tmod a2 (l1.length : Int)) + (l1.length : Int))) (l1.length : Int)) then (if (Int.tmod (wrap64 ((Int.tmod a2 (l1.length : Int)) + (l1.length : Int))) (l1.length : Int)) < (l1.length : Int) then ((ring_Heirs.f kj3 a0 l1 (l1.length : Int)).bind fun t281 => ((caduceuslaw10_without.f kj3 l1 (rd l1 (Int.tmod (wrap64 ((Int.tmod a2 (l1.length : Int)) + (l1.length : Int))) (l1.length : Int)))).bind fun t284 => ((ring_Owner.f kj3 a0 t284).bind fun bt287 => (if bt287.2 = true then (caduceuslaw10_RingLess.j1 kj3 a0 (rd l1 (Int.tmod (wrap64 ((Int.tmod a2 (l1.length : Int)) + (l1.length : Int))) (l1.length : Int))) t281 t284 bt287.1 ((t281.length : Int) != (l1.length : Int))) else none)))) else (none)) else (none))) = some r := by rw [if_neg (show ¬ (false = true) by decide)] at H; exact H
        clear H
        have H := H1
        clear H1
        by_cases c12 : (l1.length : Int) = 0
        · rw [if_pos c12] at H
          exact absurd H (by simp)
        · rw [if_neg c12] at H
          have c12b0 : ((l1.length : Int) == 0) = false := beq_eq_false_iff_ne.mpr c12
          have c12b1 : ((l1.length : Int) != 0) = true := bne_iff_ne.mpr c12
          have c12b2 : ¬ (l1 = []) := fun h_ => c12 (by rw [h_]; rfl)
          obtain ⟨ji13, hji13⟩ : ∃ j_ : Int, (Int.tmod (wrap64 ((Int.tmod a2 (l1.length : Int)) + (l1.length : Int))) (l1.length : Int)) = j_ := ⟨_, rfl⟩
          replace H : (if 0 ≤ (ji13) then (if (ji13) < (l1.length : Int) then ((ring_Heirs.f kj3 a0 l1 (l1.length : Int)).bind fun t281 => ((caduceuslaw10_without.f kj3 l1 (rd l1 (ji13))).bind fun t284 => ((ring_Owner.f kj3 a0 t284).bind fun bt287 => (if bt287.2 = true then (caduceuslaw10_RingLess.j1 kj3 a0 (rd l1 (ji13)) t281 t284 bt287.1 ((t281.length : Int) != (l1.length : Int))) else none)))) else (none)) else (none)) = some r := by first | (rw [hji13] at H; exact H) | (simp only [hji13] at H ⊢; exact H)
          by_cases c14 : 0 ≤ (ji13)
          · rw [if_pos c14] at H
            have c14b0 : decide (0 ≤ (ji13)) = true := decide_eq_true c14
            clear c14
            by_cases c15 : (ji13) < (l1.length : Int)
            · rw [if_pos c15] at H
              have c15b0 : decide ((ji13) < (l1.length : Int)) = true := decide_eq_true c15
              clear c15
              replace H := Option.bind_eq_some_iff.mp H
              obtain ⟨t281, A160, H⟩ := H
              replace H : ((caduceuslaw10_without.f kj3 l1 (rd l1 (ji13))).bind fun t284 => ((ring_Owner.f kj3 a0 t284).bind fun bt287 => (if bt287.2 = true then (caduceuslaw10_RingLess.j1 kj3 a0 (rd l1 (ji13)) t281 t284 bt287.1 ((t281.length : Int) != (l1.length : Int))) else none))) = some r := H
              have A16 := Aside0.mk A160
              clear A160
              replace H := Option.bind_eq_some_iff.mp H
              obtain ⟨t284, A170, H⟩ := H
              replace H : ((ring_Owner.f kj3 a0 t284).bind fun bt287 => (if bt287.2 = true then (caduceuslaw10_RingLess.j1 kj3 a0 (rd l1 (ji13)) t281 t284 bt287.1 ((t281.length : Int) != (l1.length : Int))) else none)) = some r := H
              have A17 := Aside0.mk A170
              clear A170
              replace H := Option.bind_eq_some_iff.mp H
              obtain ⟨⟨t287, t288⟩, A180, H⟩ := H
              replace H : (if t288 = true then (caduceuslaw10_RingLess.j1 kj3 a0 (rd l1 (ji13)) t281 t284 t287 ((t281.length : Int) != (l1.length : Int))) else none) = some r := H
              have A18 := Aside0.mk A180
              clear A180
              have HC19 := Aside0.mk H
              clear H
              have p280 : 0 ≤ ((ji13) : Int) := of_decide_eq_true (by first | (with_reducible assumption) | assumption)
              have q280 : (ji13) < (l1.length : Int) := of_decide_eq_true (by first | (with_reducible assumption) | assumption)
              obtain ⟨ad280, e280, hx280_0⟩ := Kd.at_int HR1.out (ji13) p280 q280
              cases e280
              replace hx280_0 := (HB.out.cell (World.block_lt_of_cell? w _ hx280_0)).trans hx280_0
              replace p280 := eq_true p280
              replace q280 := eq_true q280
              go_upto_region 7 with (first | ((with_reducible refine gate_callee (f := 19) rfl ?_); refine goesL_ (some 44) rfl rfl Tryd.func19 (by kernel_rfl) rfl #[.int .u64 a0, .slice (some ad280) l1.length c1, .int .i64 (l1.length : Int)] rfl (by (try simp only [List.map_toArray, List.map_cons, List.map_nil]); first | done | rfl | (simp only [List.length_drop, List.length_take]; rfl)) ?_; (with_reducible refine (ring_Heirs.calls kj3 a0 _ _ l1 (l1.length : Int) t281 _ ?side1 ?side2 A16.out).mono ?_); (case side1 => repeat (first | exact (Kd.C_below HR1.out HB.out) | (with_reducible refine Kd.C_alloc ?_ _) | (with_reducible refine Kd.C_drewN ?_ _) | (with_reducible refine Kd.C_drew ?_))); (case side2 => exact HC1.out); rintro e w20 ⟨v282, rfl, ho0, hb⟩; refine ⟨_, rfl, ?_⟩; have n0_ := Aside0.mk (Kd.R_lower ho0 (below_size (by repeat (first | (with_reducible first | exact HB.out | apply below_alloc | apply pw_below_drewN | apply below_drew1) | exact HB.out)))); have n1_ := Aside0.mk (below_step (by repeat (first | (with_reducible first | exact HB.out | apply below_alloc | apply pw_below_drewN | apply below_drew1) | exact HB.out)) hb); clear HB; have HO283 := n0_; have HB := n1_; clear n0_ n1_; (try clear hb); (try clear hb2); (try clear hk); (try clear hi); (try clear ho0)) | ((with_reducible refine gate_callee (f := 20) rfl ?_); refine goesL_ (some 47) rfl rfl Tryd.func20 (by kernel_rfl) rfl #[.slice (some ad280) l1.length c1, .int .i64 (rd l1 (ji13))] rfl (by (try simp only [List.map_toArray, List.map_cons, List.map_nil]); first | done | (simp only [hji13]; rfl) | rfl | (simp only [List.length_drop, List.length_take]; rfl)) ?_; (with_reducible refine (caduceuslaw10_without.calls kj3 _ _ l1 (rd l1 (ji13)) t284 _ ?side1 ?side2 A17.out).mono ?_); (case side1 => repeat (first | exact (Kd.C_below HR1.out HB.out) | (with_reducible refine Kd.C_alloc ?_ _) | (with_reducible refine Kd.C_drewN ?_ _) | (with_reducible refine Kd.C_drew ?_))); (case side2 => exact HC1.out); rintro e w21 ⟨v285, rfl, ho0, hb⟩; refine ⟨_, rfl, ?_⟩; have n0_ := Aside0.mk (Kd.R_elder' (by (with_reducible repeat (first | apply Kd.R_alloc | apply Kd.R_drewN | apply Kd.R_drew)); exact HO283.out) (Kd.R_base ho0) hb); have n1_ := Aside0.mk (Kd.R_lower (Kd.R_new' ho0 (Kd.R_lt (by (with_reducible repeat (first | apply Kd.R_alloc | apply Kd.R_drewN | apply Kd.R_drew)); exact HO283.out))) (below_size (by repeat (first | (with_reducible first | exact HB.out | apply below_alloc | apply pw_below_drewN | apply below_drew1) | exact HB.out)))); have n2_ := Aside0.mk (below_step (by repeat (first | (with_reducible first | exact HB.out | apply below_alloc | apply pw_below_drewN | apply below_drew1) | exact HB.out)) hb); clear HO283; clear HB; have HO283 := n0_; have HO286 := n1_; have HB := n2_; clear n0_ n1_ n2_; (try clear hb); (try clear hb2); (try clear hk); (try clear hi); (try clear ho0); obtain ⟨Ao22, co22, eo22⟩ := Kd.R_slice HO286.out; subst eo22) | ((with_reducible refine gate_callee (f := 21) rfl ?_); refine goesL_ (some 51) rfl rfl Tryd.func21 (by kernel_rfl) rfl #[.int .u64 a0, .slice Ao22 t284.length co22] rfl (by (try simp only [List.map_toArray, List.map_cons, List.map_nil]); first | done | rfl | (simp only [List.length_drop, List.length_take]; rfl)) ?_; (with_reducible refine (ring_Owner.calls kj3 a0 _ _ t284 t287 t288 _ ?side1 ?side2 A18.out).mono ?_); (case side1 => repeat (first | exact (Kd.R_reads' HO286.out).2.2 | (with_reducible refine Kd.C_alloc ?_ _) | (with_reducible refine Kd.C_drewN ?_ _) | (with_reducible refine Kd.C_drew ?_))); (case side2 => exact (Kd.R_reads' HO286.out).2.1); rintro e w23 ⟨rfl, hb⟩; refine ⟨_, rfl, ?_⟩; have n0_ := Aside0.mk (Kd.R_below (by (with_reducible repeat (first | apply Kd.R_alloc | apply Kd.R_drewN | apply Kd.R_drew)); exact HO283.out) hb); have n1_ := Aside0.mk (Kd.R_below (by (with_reducible repeat (first | apply Kd.R_alloc | apply Kd.R_drewN | apply Kd.R_drew)); exact HO286.out) hb); have n2_ := Aside0.mk (below_step (by repeat (first | (with_reducible first | exact HB.out | apply below_alloc | apply pw_below_drewN | apply below_drew1) | exact HB.out)) hb); clear HO283; clear HO286; clear HB; have HO283 := n0_; have HO286 := n1_; have HB := n2_; clear n0_ n1_ n2_; (try clear hb); (try clear hb2); (try clear hk); (try clear hi)))
              (try simp only [Act.put, List.setIfInBounds_toArray, List.set_cons_zero, List.set_cons_succ])
              go_cut [62] (fun v62 wc => ∃ (kq : Nat) (x62_18 : Bool), v62 = .bool x62_18 ∧ Aside0 (caduceuslaw10_RingLess.j1 kq a0 (rd l1 (ji13)) t281 t284 t287 x62_18 = some r) ∧ Aside0 (kq ≤ kj3) ∧ Aside0 (Kd.R (Kd.int .i64) 3 wc w.heap.size (fun k_ => some k_ ≠ ((.slice Ao22 t284.length co22) : Value).ownBlock) v282 t281) ∧ Aside0 (Kd.R (Kd.int .i64) 3 wc w.heap.size (fun k_ => some k_ ≠ (v282 : Value).ownBlock) (.slice Ao22 t284.length co22) t284) ∧ Aside0 (Below w.heap.size w wc))
              case first =>
                have H := HC19.out
                clear HC19
                by_cases c24 : t288 = true
                · subst c24
                  have H1 : (caduceuslaw10_RingLess.j1 kj3 a0 (rd l1 (ji13)) t281 t284 t287 ((t281.length : Int) != (l1.length : Int))) = some r := by rw [if_pos rfl] at H; exact H
                  clear H
                  have H := H1
                  clear H1
                  have H' := Aside0.mk H
                  clear H
                  obtain ⟨Ao25, co25, eo25⟩ := Kd.R_slice HO283.out
                  subst eo25
                  go_wp2
                  go_meet
                  case rel => exact ⟨_, (((t281.length : Int) != (l1.length : Int))), (by first | rfl | (simp; done) | (simp [*]; done)), H', ⟨by have := HJ3.out; first | omega | exact Nat.le_refl _⟩, ⟨by (with_reducible repeat (first | apply Kd.R_alloc | apply Kd.R_drewN | apply Kd.R_drew)); exact Kd.R_mono HO283.out (fun _ hk => hk.2)⟩, ⟨by (with_reducible repeat (first | apply Kd.R_alloc | apply Kd.R_drewN | apply Kd.R_drew)); exact Kd.R_mono HO286.out (fun _ hk => hk.2)⟩, ⟨by repeat (first | (with_reducible first | exact HB.out | apply below_alloc | apply pw_below_drewN | apply below_drew1) | exact HB.out)⟩⟩
                · replace c24 := Bool.eq_false_iff.mpr c24
                  subst c24
                  have H1 : (none : Option _) = some r := by rw [if_neg (show ¬ (false = true) by decide)] at H; exact H
                  cases H1
              case rest =>
                clear HC19
                try clear c1
                try clear c2
                try clear p2
                try clear q2
                try clear hx2
                try clear c5
                try clear c6
                try clear p6
                try clear c8
                try clear c9
                try clear c12
                try clear c12b0
                try clear c12b1
                try clear c12b2
                try clear c14
                try clear c14b0
                try clear c15
                try clear c15b0
                try clear c19
                try clear c20
                try clear c21
                try clear c24
                try clear hx280_0
                try clear p2
                try clear p280
                try clear q280
                obtain ⟨kq, x62_18, rfl, HA, HJ18, HO_8, HO_9, HB⟩ := hcut
                cases kq with
                | zero => exact absurd HA.out (by simp [caduceuslaw10_RingLess.j1])
                | succ kj18 =>
                  have H := HA.out
                  clear HA
                  simp only [caduceuslaw10_RingLess.j1] at H
                  by_cases c26 : x62_18 = true
                  · subst c26
                    have H1 : (none : Option _) = some r := by rw [if_pos rfl] at H; exact H
                    cases H1
                  · replace c26 := Bool.eq_false_iff.mpr c26
                    subst c26
                    have H1 : (if 0 < (t281.length : Int) then (if (rd t281 0) = (rd l1 (ji13)) then (if 1 < (t281.length : Int) then (caduceuslaw10_RingLess.j2 kj18 a0 (rd l1 (ji13)) t281 t284 t287 (rd t281 1)) else (none)) else (caduceuslaw10_RingLess.j2 kj18 a0 (rd l1 (ji13)) t281 t284 t287 (rd t281 0))) else (none)) = some r := by rw [if_neg (show ¬ (false = true) by decide)] at H; exact H
                    clear H
                    have H := H1
                    clear H1
                    by_cases c27 : 0 < (t281.length : Int)
                    · rw [if_pos c27] at H
                      have c27b0 : decide (0 < (t281.length : Int)) = true := decide_eq_true c27
                      have c27b1 : decide (0 < t281.length) = true := decide_eq_true (by omega)
                      clear c27
                      have HC28 := Aside0.mk H
                      clear H
                      obtain ⟨Ao29, co29, eo29⟩ := Kd.R_slice HO_8.out
                      subst eo29
                      have p289 : 0 ≤ (0 : Int) := (by omega)
                      have q289 : 0 < (t281.length : Int) := of_decide_eq_true (by first | (with_reducible assumption) | assumption)
                      obtain ⟨ad289, e289, hx289_0⟩ := Kd.at_int (Kd.R_reads' HO_8.out).2.2 0 p289 q289
                      cases e289
                      have qi289 : (0 < t281.length) = True := eq_true (by omega)
                      (try rw [show ((0 : Int)).toNat = 0 from rfl] at hx289_0)
                      (try rw [Addr.add_zero'] at hx289_0)
                      replace p289 := eq_true p289
                      replace q289 := eq_true q289
                      go_upto_if 68 with (fail)
                      go_cut [12] (fun v12 wc => ∃ (kq : Nat) (x12_27 : Int), v12 = .int .i64 x12_27 ∧ Aside0 (caduceuslaw10_RingLess.j2 kq a0 (rd l1 (ji13)) t281 t284 t287 x12_27 = some r) ∧ Aside0 (kq ≤ kj18) ∧ Aside0 (Kd.R (Kd.int .i64) 3 wc w.heap.size (fun k_ => some k_ ≠ ((.slice Ao22 t284.length co22) : Value).ownBlock) (.slice (some ad289) t281.length co29) t281) ∧ Aside0 (Kd.R (Kd.int .i64) 3 wc w.heap.size (fun k_ => some k_ ≠ ((.slice (some ad289) t281.length co29) : Value).ownBlock) (.slice Ao22 t284.length co22) t284) ∧ Aside0 (Below w.heap.size w wc))
                      case first =>
                        have H := HC28.out
                        clear HC28
                        by_cases c30 : (rd t281 0) = (rd l1 (ji13))
                        · rw [if_pos c30] at H
                          have c30b0 : ((rd t281 0) == (rd l1 (ji13))) = true := beq_iff_eq.mpr c30
                          have c30b1 : ((rd t281 0) != (rd l1 (ji13))) = false := bne_eq_false_iff_eq.mpr c30
                          clear c30
                          (first | rw [c30b0] | (simp only [i64_w, i32_w]; rw [c30b0]) | skip)
                          by_cases c31 : 1 < (t281.length : Int)
                          · rw [if_pos c31] at H
                            have c31b0 : decide (1 < (t281.length : Int)) = true := decide_eq_true c31
                            have c31b1 : decide (1 < t281.length) = true := decide_eq_true (by omega)
                            clear c31
                            have H' := Aside0.mk H
                            clear H
                            have p290 : 0 ≤ (1 : Int) := (by omega)
                            have q290 : 1 < (t281.length : Int) := of_decide_eq_true (by first | (with_reducible assumption) | assumption)
                            obtain ⟨ad290, e290, hx290_0⟩ := Kd.at_int (Kd.R_reads' HO_8.out).2.2 1 p290 q290
                            obtain rfl : ad289 = ad290 := (by injection e290)
                            (try simp only [show (1 : Int).toNat = 1 from rfl, Nat.reduceMul, Nat.reduceEqDiff, Go.Addr.add, ↓reduceIte] at hx290_0)
                            have qi290 : (1 < t281.length) = True := eq_true (by omega)
                            (try rw [show ((1 : Int)).toNat = 1 from rfl] at hx290_0)
                            replace p290 := eq_true p290
                            replace q290 := eq_true q290
                            go_wp2
                            go_meet
                            case rel => exact ⟨_, (rd t281 1), (by first | rfl | (simp; done) | (simp [*]; done)), H', ⟨by have := HJ3.out; have := HJ18.out; first | omega | exact Nat.le_refl _⟩, ⟨by (with_reducible repeat (first | apply Kd.R_alloc | apply Kd.R_drewN | apply Kd.R_drew)); exact HO_8.out⟩, ⟨by (with_reducible repeat (first | apply Kd.R_alloc | apply Kd.R_drewN | apply Kd.R_drew)); exact HO_9.out⟩, ⟨by repeat (first | (with_reducible first | exact HB.out | apply below_alloc | apply pw_below_drewN | apply below_drew1) | exact HB.out)⟩⟩
                          · rw [if_neg c31] at H
                            exact absurd H (by simp)
                        · rw [if_neg c30] at H
                          have c30b0 : ((rd t281 0) == (rd l1 (ji13))) = false := beq_eq_false_iff_ne.mpr c30
                          have c30b1 : ((rd t281 0) != (rd l1 (ji13))) = true := bne_iff_ne.mpr c30
                          (first | rw [c30b0] | (simp only [i64_w, i32_w]; rw [c30b0]) | skip)
                          have H' := Aside0.mk H
                          clear H
                          go_wp2
                          go_meet
                          case rel => exact ⟨_, (rd t281 0), (by first | rfl | (simp; done) | (simp [*]; done)), H', ⟨by have := HJ3.out; have := HJ18.out; first | omega | exact Nat.le_refl _⟩, ⟨by (with_reducible repeat (first | apply Kd.R_alloc | apply Kd.R_drewN | apply Kd.R_drew)); exact HO_8.out⟩, ⟨by (with_reducible repeat (first | apply Kd.R_alloc | apply Kd.R_drewN | apply Kd.R_drew)); exact HO_9.out⟩, ⟨by repeat (first | (with_reducible first | exact HB.out | apply below_alloc | apply pw_below_drewN | apply below_drew1) | exact HB.out)⟩⟩
                      case rest =>
                        clear HC28
                        try clear c1
                        try clear c2
                        try clear p2
                        try clear q2
                        try clear hx2
                        try clear qi2
                        try clear c3
                        try clear c5
                        try clear c6
                        try clear p6
                        try clear c8
                        try clear c9
                        try clear c12
                        try clear c12b0
                        try clear c12b1
                        try clear c12b2
                        try clear c14
                        try clear c14b0
                        try clear c15
                        try clear c15b0
                        try clear c19
                        try clear c20
                        try clear c21
                        try clear c24
                        try clear c26
                        try clear c27
                        try clear c27b0
                        try clear c27b1
                        try clear p28
                        try clear q28
                        try clear hx28
                        try clear qi28
                        try clear p29
                        try clear q29
                        try clear hx29
                        try clear qi29
                        try clear c30
                        try clear c30b0
                        try clear c30b1
                        try clear c31
                        try clear c31b0
                        try clear c31b1
                        try clear hx280_0
                        try clear hx289_0
                        try clear hx290_0
                        try clear p2
                        try clear p280
                        try clear p289
                        try clear p290
                        try clear p6
                        try clear q2
                        try clear q280
                        try clear q289
                        try clear q290
                        obtain ⟨kq, x12_27, rfl, HA, HJ27, HO_8, HO_9, HB⟩ := hcut
                        cases kq with
                        | zero => exact absurd HA.out (by simp [caduceuslaw10_RingLess.j2])
                        | succ kj27 =>
                          have H := HA.out
                          clear HA
                          simp only [caduceuslaw10_RingLess.j2] at H
                          replace H := Option.bind_eq_some_iff.mp H
                          obtain ⟨t291, A320, H⟩ := H
                          replace H : (if t291 = true then (if t287 = x12_27 then ((ring_Heirs.f kj27 a0 t284 (t284.length : Int)).bind fun t292 => ((caduceuslaw10_without.f kj27 t281 (rd l1 (ji13))).bind fun t295 => ((caduceusref10_Same.f kj27 t292 t295).bind fun t298 => (some t298)))) else none) else none) = some r := H
                          have A32 := Aside0.mk A320
                          clear A320
                          by_cases c33 : t291 = true
                          · subst c33
                            have H1 : (if t287 = x12_27 then ((ring_Heirs.f kj27 a0 t284 (t284.length : Int)).bind fun t292 => ((caduceuslaw10_without.f kj27 t281 (rd l1 (ji13))).bind fun t295 => ((caduceusref10_Same.f kj27 t292 t295).bind fun t298 => (some t298)))) else none) = some r := by rw [if_pos rfl] at H; exact H
                            clear H
                            have H := H1
                            clear H1
                            by_cases c34 : t287 = x12_27
                            · rw [if_pos c34] at H
                              have c34b0 : (t287 == x12_27) = true := beq_iff_eq.mpr c34
                              have c34b1 : (t287 != x12_27) = false := bne_eq_false_iff_eq.mpr c34
                              clear c34
                              replace H := Option.bind_eq_some_iff.mp H
                              obtain ⟨t292, A350, H⟩ := H
                              replace H : ((caduceuslaw10_without.f kj27 t281 (rd l1 (ji13))).bind fun t295 => ((caduceusref10_Same.f kj27 t292 t295).bind fun t298 => (some t298))) = some r := H
                              have A35 := Aside0.mk A350
                              clear A350
                              replace H := Option.bind_eq_some_iff.mp H
                              obtain ⟨t295, A360, H⟩ := H
                              replace H : ((caduceusref10_Same.f kj27 t292 t295).bind fun t298 => (some t298)) = some r := H
                              have A36 := Aside0.mk A360
                              clear A360
                              replace H := Option.bind_eq_some_iff.mp H
                              obtain ⟨t298, A370, H⟩ := H
                              replace H : (some t298) = some r := H
                              have A37 := Aside0.mk A370
                              clear A370
                              obtain rfl := Option.some.inj H
                              go_wp2_with (first | ((with_reducible refine gate_callee (f := 9) rfl ?_); refine goesL_ (some 72) rfl rfl Tryd.func9 (by kernel_rfl) rfl #[] rfl (by (try simp only [List.map_toArray, List.map_cons, List.map_nil]); first | done | rfl | (simp only [List.length_drop, List.length_take]; rfl)) ?_; (with_reducible refine (caduceuslaw10_awake.calls kj27  true _ A32.out).mono ?_); rintro e w38 ⟨rfl, hb⟩; refine ⟨_, rfl, ?_⟩; have n0_ := Aside0.mk (Kd.R_below (by (with_reducible repeat (first | apply Kd.R_alloc | apply Kd.R_drewN | apply Kd.R_drew)); exact HO_8.out) hb); have n1_ := Aside0.mk (Kd.R_below (by (with_reducible repeat (first | apply Kd.R_alloc | apply Kd.R_drewN | apply Kd.R_drew)); exact HO_9.out) hb); have n2_ := Aside0.mk (below_step (by repeat (first | (with_reducible first | exact HB.out | apply below_alloc | apply pw_below_drewN | apply below_drew1) | exact HB.out)) hb); clear HO_8; clear HO_9; clear HB; have HO_8 := n0_; have HO_9 := n1_; have HB := n2_; clear n0_ n1_ n2_; (try clear hb); (try clear hb2); (try clear hk); (try clear hi)) | (go_at_call 19; (with_reducible refine (ring_Heirs.calls kj27 a0 _ _ t284 (t284.length : Int) t292 _ ?side1 ?side2 A35.out).mono ?_); (case side1 => repeat (first | exact (Kd.R_reads' HO_9.out).2.2 | (with_reducible refine Kd.C_alloc ?_ _) | (with_reducible refine Kd.C_drewN ?_ _) | (with_reducible refine Kd.C_drew ?_))); (case side2 => exact (Kd.R_reads' HO_9.out).2.1); rintro e w39 ⟨v293, rfl, ho0, hb⟩; have n0_ := Aside0.mk (Kd.R_elder' (by (with_reducible repeat (first | apply Kd.R_alloc | apply Kd.R_drewN | apply Kd.R_drew)); exact HO_8.out) (Kd.R_base ho0) hb); have n1_ := Aside0.mk (Kd.R_elder' (by (with_reducible repeat (first | apply Kd.R_alloc | apply Kd.R_drewN | apply Kd.R_drew)); exact HO_9.out) (Kd.R_base ho0) hb); have n2_ := Aside0.mk (Kd.R_lower (Kd.R_new' (Kd.R_new' ho0 (Kd.R_lt (by (with_reducible repeat (first | apply Kd.R_alloc | apply Kd.R_drewN | apply Kd.R_drew)); exact HO_8.out))) (Kd.R_lt (by (with_reducible repeat (first | apply Kd.R_alloc | apply Kd.R_drewN | apply Kd.R_drew)); exact HO_9.out))) (below_size (by repeat (first | (with_reducible first | exact HB.out | apply below_alloc | apply pw_below_drewN | apply below_drew1) | exact HB.out)))); have n3_ := Aside0.mk (below_step (by repeat (first | (with_reducible first | exact HB.out | apply below_alloc | apply pw_below_drewN | apply below_drew1) | exact HB.out)) hb); clear HO_8; clear HO_9; clear HB; have HO_8 := n0_; have HO_9 := n1_; have HO294 := n2_; have HB := n3_; clear n0_ n1_ n2_ n3_; (try clear hb); (try clear hb2); (try clear hk); (try clear hi); (try clear ho0)) | (go_at_call 20; (with_reducible refine (caduceuslaw10_without.calls kj27 _ _ t281 (rd l1 (ji13)) t295 _ ?side1 ?side2 A36.out).mono ?_); (case side1 => repeat (first | exact (Kd.R_reads' HO_8.out).2.2 | (with_reducible refine Kd.C_alloc ?_ _) | (with_reducible refine Kd.C_drewN ?_ _) | (with_reducible refine Kd.C_drew ?_))); (case side2 => exact (Kd.R_reads' HO_8.out).2.1); rintro e w40 ⟨v296, rfl, ho0, hb⟩; have n0_ := Aside0.mk (Kd.R_elder' (by (with_reducible repeat (first | apply Kd.R_alloc | apply Kd.R_drewN | apply Kd.R_drew)); exact HO_8.out) (Kd.R_base ho0) hb); have n1_ := Aside0.mk (Kd.R_elder' (by (with_reducible repeat (first | apply Kd.R_alloc | apply Kd.R_drewN | apply Kd.R_drew)); exact HO_9.out) (Kd.R_base ho0) hb); have n2_ := Aside0.mk (Kd.R_elder' (by (with_reducible repeat (first | apply Kd.R_alloc | apply Kd.R_drewN | apply Kd.R_drew)); exact HO294.out) (Kd.R_base ho0) hb); have n3_ := Aside0.mk (Kd.R_lower (Kd.R_new' (Kd.R_new' (Kd.R_new' ho0 (Kd.R_lt (by (with_reducible repeat (first | apply Kd.R_alloc | apply Kd.R_drewN | apply Kd.R_drew)); exact HO_8.out))) (Kd.R_lt (by (with_reducible repeat (first | apply Kd.R_alloc | apply Kd.R_drewN | apply Kd.R_drew)); exact HO_9.out))) (Kd.R_lt (by (with_reducible repeat (first | apply Kd.R_alloc | apply Kd.R_drewN | apply Kd.R_drew)); exact HO294.out))) (below_size (by repeat (first | (with_reducible first | exact HB.out | apply below_alloc | apply pw_below_drewN | apply below_drew1) | exact HB.out)))); have n4_ := Aside0.mk (below_step (by repeat (first | (with_reducible first | exact HB.out | apply below_alloc | apply pw_below_drewN | apply below_drew1) | exact HB.out)) hb); clear HO_8; clear HO_9; clear HO294; clear HB; have HO_8 := n0_; have HO_9 := n1_; have HO294 := n2_; have HO297 := n3_; have HB := n4_; clear n0_ n1_ n2_ n3_ n4_; (try clear hb); (try clear hb2); (try clear hk); (try clear hi); (try clear ho0); obtain ⟨Ao41, co41, eo41⟩ := Kd.R_slice HO294.out; subst eo41; obtain ⟨Ao42, co42, eo42⟩ := Kd.R_slice HO297.out; subst eo42) | (go_at_call 12; (with_reducible refine (caduceusref10_Same.calls kj27 _ _ t292 _ _ t295 t298 _ ?side1 ?side2 ?side3 ?side4 A37.out).mono ?_); (case side1 => repeat (first | exact (Kd.R_reads' HO294.out).2.2 | (with_reducible refine Kd.C_alloc ?_ _) | (with_reducible refine Kd.C_drewN ?_ _) | (with_reducible refine Kd.C_drew ?_))); (case side2 => exact (Kd.R_reads' HO294.out).2.1); (case side3 => repeat (first | exact (Kd.R_reads' HO297.out).2.2 | (with_reducible refine Kd.C_alloc ?_ _) | (with_reducible refine Kd.C_drewN ?_ _) | (with_reducible refine Kd.C_drew ?_))); (case side4 => exact (Kd.R_reads' HO297.out).2.1); rintro e w' ⟨rfl, ⟨nd, rfl⟩⟩))
                              go_ret
                              exact ⟨by first | rfl | (simp [errW_none, errW_some] <;> rfl) | (simp only [← hji13]; first | rfl | (simp [errW_none, errW_some] <;> rfl)) | (simp [*, errW_none, errW_some] <;> rfl), by repeat (first | (with_reducible first | exact HB.out | apply below_alloc | apply pw_below_drewN | apply below_drew1) | exact HB.out)⟩
                            · rw [if_neg c34] at H
                              cases H
                          · replace c33 := Bool.eq_false_iff.mpr c33
                            subst c33
                            have H1 : (none : Option _) = some r := by rw [if_neg (show ¬ (false = true) by decide)] at H; exact H
                            cases H1
                    · rw [if_neg c27] at H
                      exact absurd H (by simp)
            · rw [if_neg c15] at H
              exact absurd H (by simp)
          · rw [if_neg c14] at H
            exact absurd H (by simp)

/-- THE ONE PURE STATEMENT of caduceuslaw10_RingLess: yours. -/
def caduceuslaw10_RingLess.Pure : Prop := ∀ (a0 : Int) (l1 : List Int) (a2 : Int), (Lit.int .u64 a0).wf = true → l1.length ≤ maxLen → l1.length * 8 ≤ 140737488351232 → (∀ x ∈ l1, (Lit.int .i64 x).wf = true) → (Lit.int .i64 a2).wf = true → ∃ k, caduceuslaw10_RingLess.f k a0 l1 a2 = some true
theorem caduceuslaw10_RingLess.walk (P : caduceuslaw10_RingLess.Pure) (a0 : Int) (a1 : Option Addr) (len1 cap1 : Nat) (z1 : List Int) (a2 : Int) (w : World) (w0 : (Lit.int .u64 a0).wf = true) (w1 : (a1 = none ∧ len1 = 0 ∧ cap1 = 0 ∧ z1 = []) ∨ ∃ x, a1 = some x ∧ len1 ≤ cap1 ∧ cap1 ≤ maxLen ∧ z1.length = cap1 ∧ (∀ i, i < z1.length → w.cell? (x.add i) = some (.int .i64 (z1.getD i 0))) ∧ ∀ n ∈ z1, (Lit.int .i64 n).wf = true) (y1 : len1 * 8 ≤ 140737488351232) (w2 : (Lit.int .i64 a2).wf = true) :
    Calls Tryd.prog 5 #[.int .u64 a0, .slice a1 len1 cap1, .int .i64 a2] w fun e w' => e = .returned (.bool true) ∧ Below w.heap.size w w' := by
  obtain ⟨l1, rfl, hr1, hm1, hw1, hc1⟩ := ReadsInt.ofRowC w1
  obtain ⟨k, h⟩ := P a0 l1 a2 w0 hm1 y1 hw1 w2
  refine (caduceuslaw10_RingLess.calls k a0 _ _ l1 a2 true w (Kd.C_of_reads (d := (0 : Int)) (h1 := fun _ => rfl) hr1) hc1 h).mono ?_
  rintro e w' ⟨rfl, hd⟩
  exact ⟨rfl, hd⟩

end Go.Proofs.YtfmjhklejjohcaaDoor.PAll
