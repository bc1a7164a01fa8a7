import Derived.Test.YtdibaeomepallaaLr
namespace Go.Proofs.Ytdibaeomepallaa.LK
open Go.RowKit Go.Proofs.YtdibaeomepallaaW.PrintWords Go.Proofs.YtdibaeomepallaaW.PrintLast Go.Proofs.YtdibaeomepallaaW.PrintMore Go.Proofs.Ytdibaeomepallaa.PAll Go.Proofs.Ytdibaeomepallaa.NW
set_option linter.unusedVariables false
set_option linter.unusedSimpArgs false
set_option maxRecDepth 100000
def sX : ByteArray := ⟨#[120]⟩
def zPk : Pk := ⟨0, 0, 0, 0, 0, 0, e0⟩
/-- The end that sends, behind so many texts. -/
def fA : Nat → Lk
  | 0 => lA0
  | n + 1 => sdL (fA n) sX
def pkF (i : Nat) : Pk := (sdP (fA i) sX).headD zPk
def gB : Nat → Lk
  | 0 => lB0
  | i + 1 => tkL (gB i) (pkF i)
def ackF (i : Nat) : Pk := (tkP (gB i) (pkF i)).headD zPk
def gA (m : Nat) : Nat → Lk
  | 0 => fA m
  | i + 1 => tkL (gA m i) (ackF i)
theorem full_send : ∀ n, n < 64 → sdE (fA n) sX = 0 ∧ (sdP (fA n) sX).length = (if n < 8 then 1 else 0) := by
  have h : (List.range 64).all (fun n => decide (sdE (fA n) sX = 0 ∧ (sdP (fA n) sX).length = (if n < 8 then 1 else 0))) = true := by kernel_rfl
  intro n hn
  exact of_decide_eq_true (List.all_eq_true.1 h n (List.mem_range.2 hn))
theorem full_end : sdE (fA 64) sX ≠ 0 ∧ (sdP (fA 64) sX).length = 0 := by
  have h : decide (sdE (fA 64) sX ≠ 0 ∧ (sdP (fA 64) sX).length = 0) = true := by kernel_rfl
  exact of_decide_eq_true h
theorem full_take : ∀ m, m < 5 → ∀ i, i < 8 → tkE (gB i) (pkF i) = 0 ∧ (tkP (gB i) (pkF i)).length = 1 ∧ (gB i).er.length = 0 ∧ tkE (gA (60 + m) i) (ackF i) = 0 ∧ (tkP (gA (60 + m) i) (ackF i)).length = 1 ∧ (gA (60 + m) i).er.length = 0 := by
  have h : (List.range 5).all (fun m => (List.range 8).all (fun i => decide (tkE (gB i) (pkF i) = 0 ∧ (tkP (gB i) (pkF i)).length = 1 ∧ (gB i).er.length = 0 ∧ tkE (gA (60 + m) i) (ackF i) = 0 ∧ (tkP (gA (60 + m) i) (ackF i)).length = 1 ∧ (gA (60 + m) i).er.length = 0))) = true := by kernel_rfl
  intro m hm i hi
  exact of_decide_eq_true (List.all_eq_true.1 (List.all_eq_true.1 h m (List.mem_range.2 hm)) i (List.mem_range.2 hi))
theorem full_last : ∀ m, m < 5 → ∀ i, i < 9 → (gA (60 + m) i).q.length = 60 + m - i ∧ (gA (60 + m) i).base = 1 + (i : Int) := by
  have h : (List.range 5).all (fun m => (List.range 9).all (fun i => decide ((gA (60 + m) i).q.length = 60 + m - i ∧ (gA (60 + m) i).base = 1 + (i : Int)))) = true := by kernel_rfl
  intro m hm i hi
  exact of_decide_eq_true (List.all_eq_true.1 (List.all_eq_true.1 h m (List.mem_range.2 hm)) i (List.mem_range.2 hi))
def PF (k : Nat) : List Pk := (List.range k).map pkF
theorem PF_len (k : Nat) : (PF k).length = k := by unfold PF; rw [List.length_map, List.length_range]
theorem one_of {xs : List Pk} (h : xs.length = 1) : xs = [xs.headD zPk] := by
  match xs, h with
  | [x], _ => rfl
theorem PF_send {n : Nat} (hn : n < 64) : PF (min n 8) ++ sdP (fA n) sX = PF (min (n + 1) 8) := by
  have h := (full_send n hn).2
  by_cases h8 : n < 8
  · rw [if_pos h8] at h
    rw [one_of h, Nat.min_eq_left (by omega), Nat.min_eq_left (by omega)]
    unfold PF
    rw [List.range_succ, List.map_append]
    rfl
  · rw [if_neg h8] at h
    rw [List.eq_nil_of_length_eq_zero h, List.append_nil, Nat.min_eq_right (by omega), Nat.min_eq_right (by omega)]
theorem PF_end : sdP (fA 64) sX = [] := List.eq_nil_of_length_eq_zero full_end.2
theorem fA_end : sdL (fA 64) sX = fA 64 := by unfold sdL; rw [if_neg full_end.1]
theorem PF_at {i : Nat} (h : i < 8) : rd_T28 (PF 8) (i : Int) = pkF i := rd28_at (by unfold PF; rw [List.getElem?_map, List.getElem?_range h]; rfl)
theorem bd_fA (n : Nat) : Bd (fA n) := by
  induction n with
  | zero => exact bd_A0
  | succ n ih => exact ih.send sX
theorem bd_gB {i : Nat} (h : i ≤ 8) : Bd (gB i) := by
  induction i with
  | zero => exact bd_B0
  | succ i ih => exact (ih (by omega)).take (by rw [(full_take 0 (by decide) i (by omega)).2.2.1]; decide) _
theorem bd_gA {m i : Nat} (hm : m < 5) (h : i ≤ 8) : Bd (gA (60 + m) i) := by
  induction i with
  | zero => exact bd_fA _
  | succ i ih => exact (ih (by omega)).take (by rw [(full_take m hm i (by omega)).2.2.2.2.2]; decide) _
/-- Two ends and a row of packets of its own. -/
def okFF (ga ma gb mb : Nat) (va vb : Value) (k : Nat) : Prop := ¬ lf ga va ma k ∧ ¬ lf gb vb mb k
structure FF (w0 w : World) (ga ma gb mb : Nat) (la lb : Lk) (va vb v : Value) (xs : List Pk) : Prop where
  two : Two w0 w ga ma gb mb la lb va vb
  row : k28.R 28 w w0.heap.size (okFF ga ma gb mb va vb) v xs
section
variable {w0 w w' : World} {ga ma gb mb : Nat} {la lb la' lb' : Lk} {va vb va' vb' v v1 : Value} {xs ys : List Pk}
theorem FF.swap (h : FF w0 w ga ma gb mb la lb va vb v xs) : FF w0 w gb mb ga ma lb la vb va v xs := ⟨h.two.swap, Kd.R_mono h.row (fun _ hk => ⟨hk.2, hk.1⟩)⟩
theorem FF.bel (h : FF w0 w ga ma gb mb la lb va vb v xs) (hb : Below w.heap.size w w') : FF w0 w' ga ma gb mb la lb va vb v xs := ⟨h.two.bel hb, Kd.R_step h.row (fun k _ hk => hb.block k hk)⟩
theorem FF.act (h : FF w0 w ga ma gb mb la lb va vb v xs) (st : LkStep w ga va ma la' va' w') : FF w0 w' ga ma gb mb la' lb va' vb v xs := by
  refine ⟨h.two.act st, Kd.R_mono (Kd.R_step (Kd.R_bound h.row) (fun k hk hlt => st.mods.block k hlt hk.1.1)) (fun k hk => ⟨fun e => ?_, hk.1.2⟩)⟩
  rcases e with e | e | e
  · exact hk.1.1 (.inl e)
  · exact hk.1.1 (.inr (.inl e))
  · rcases st.own k e with e2 | e2
    · exact hk.1.1 (.inr (.inr e2))
    · have := hk.2.2.1; omega
theorem FF.fresh (h : FF w0 w ga ma gb mb la lb va vb v xs) : ∀ k, w.heap.size ≤ k → okFF ga ma gb mb va vb k := fun k hk => ⟨fun e => by have := h.two.a.foot_lt e; omega, fun e => by have := h.two.b.foot_lt e; omega⟩
theorem FF.app (h : FF w0 w ga ma gb mb la lb va vb v xs) (hr : k28.R 28 w' w0.heap.size (okFF ga ma gb mb va vb) v1 ys) (hg : w.grownBy w' v.ownBlock) (hb : Below w0.heap.size w0 w') : FF w0 w' ga ma gb mb la lb va vb v1 ys := by
  have hm : Mods (fun k => v.ownBlock = some k) w w' := (Mods.refl _ w).grown hg (fun k hk => .inl hk)
  refine ⟨⟨h.two.a.mods hm (fun k ha e => (h.row.1 k e).1 ha), h.two.b.mods hm (fun k hb e => (h.row.1 k e).2 hb), h.two.dis, h.two.lowa, h.two.lowb, hb⟩, hr⟩
theorem FF.start (h : Two w0 w ga ma gb mb la lb va vb) : FF w0 w ga ma gb mb la lb va vb (.slice none 0 0) [] := ⟨h, Kd.R_nil _ _ _ _ _⟩
end
set_option maxHeartbeats 16000000 in
theorem linkFull_is (many acks : Int) (w : World) :
    Calls Try.prog 8 #[.int .i64 many, .int .i64 acks] w fun e w' => e = .returned (.bool true) ∧ Below w.heap.size w w' := by
  have hu65 := Try.underlying65
  have hu28 := Try.underlying28
  have HMA := Aside0.mk (may_AB (f := 1) (by decide) (by decide)).1
  have HMB := Aside0.mk (may_AB (f := 1) (by decide) (by decide)).2
  have HE := Aside0.mk (show caduceuslaw13_ends.f 1 = some (1, 1, 2, 1, 1, 2, 1, 1, 1, 1) from rfl)
  obtain ⟨a, ha⟩ : ∃ a, a = atN many 20 := ⟨_, rfl⟩
  have ha2 : a < 20 := by rw [ha]; exact (atN_lt many (by decide)).1
  have HAT := Aside0.mk (show caduceuslaw13_at.f many 20 = some (a : Int) by rw [ha]; exact at_f many (m := 20) (by decide) (by decide))
  obtain ⟨b, hb⟩ : ∃ b, b = atN acks 9 := ⟨_, rfl⟩
  have hb2 : b < 9 := by rw [hb]; exact (atN_lt acks (by decide)).1
  have HBT := Aside0.mk (show caduceuslaw13_at.f acks 9 = some (b : Int) by rw [hb]; exact at_f acks (m := 9) (by decide) (by decide))
  have HA2 := Aside0.mk ha2
  have HB2 := Aside0.mk hb2
  have a0 : (0 : Int) ≤ (a : Int) := by omega
  have a1 : (a : Int) < 20 := by omega
  clear ha hb
  go_enter Try.func8, Try.ntmps8
  go_wp2_with (first
    | ((with_reducible refine gate_dst (N := 21) rfl ?_); refine goesL_ (some 21) rfl rfl Try.func34 (by kernel_rfl) rfl #[.int .i64 1] rfl (by first | (simp only [List.map_toArray, List.map_cons, List.map_nil]; rfl) | rfl) ?_; refine (caduceuslaw13_ends.calls 1 1 1 2 1 1 2 1 1 1 1 _ HE.out).mono ?_; rintro e w5 ⟨rfl, hb⟩; have HB5 := Aside0.mk hb; clear hb; refine ⟨_, rfl, ?_⟩))
  obtain ⟨wq, hwq, hBq, hA, hB⟩ : ∃ wq, wq = (w5.alloc (.cells #[.int .i64 1, .int .i64 1, .int .i64 2, .int .i64 1, .int .i64 1] 65 (0, 0))).alloc (.cells #[.int .i64 2, .int .i64 1, .int .i64 1, .int .i64 1, .int .i64 1] 65 (0, 0)) ∧ Below w5.heap.size w5 wq ∧ wq.heap[w5.heap.size]? = some (.cells #[.int .i64 1, .int .i64 1, .int .i64 2, .int .i64 1, .int .i64 1] 65 (0, 0)) ∧ wq.heap[w5.heap.size + 1]? = some (.cells #[.int .i64 2, .int .i64 1, .int .i64 1, .int .i64 1, .int .i64 1] 65 (0, 0)) := boxes2L w5 _ _
  rw [← hwq]
  obtain ⟨wd, hwd⟩ : ∃ wd, wd = wq.drew := ⟨_, rfl⟩
  have HWD := Aside0.mk hwd
  have HBd := Aside0.mk (show Below w.heap.size w wd by rw [hwd]; exact below_drew1 (HB5.out.trans (hBq.mono HB5.out.size)))
  have HEA := Aside0.mk (show wd.heap[w5.heap.size]? = some (.cells #[.int .i64 1, .int .i64 1, .int .i64 2, .int .i64 1, .int .i64 1] 65 (0, 0)) by rw [hwd]; exact hA)
  have HEB := Aside0.mk (show wd.heap[w5.heap.size + 1]? = some (.cells #[.int .i64 2, .int .i64 1, .int .i64 1, .int .i64 1, .int .i64 1] 65 (0, 0)) by rw [hwd]; exact hB)
  clear hwq hBq hA hB hwd
  refine start_ (n := 6) (S := fun w' => Below wd.heap.size wd w') (ds := []) #[false, false, false, false, false, false] (by kernel_rfl) rfl rfl (by rw [HWD.out]; exact Below.refl _ _) (fun hHeld => ?_)
  rw [← HWD.out] at hHeld ⊢
  refine take_ (i := 0) (N := some 24) (v := ?_) (a' := ?_) #[true, false, false, false, false, false] rfl rfl (by kernel_rfl) (fun _ _ _ h => h) (Or.inl ⟨by rfl, ?_⟩) hHeld ?_ ?_
  rotate_left
  · intro w' hS
    have y0 : w'.cell? ⟨w5.heap.size, 0, none⟩ = some (.int .i64 1) := (blk_cell (keepB HEA.out hS) 0).trans rfl
    have y1 : w'.cell? ⟨w5.heap.size, 1, none⟩ = some (.int .i64 1) := (blk_cell (keepB HEA.out hS) 1).trans rfl
    have y2 : w'.cell? ⟨w5.heap.size, 2, none⟩ = some (.int .i64 2) := (blk_cell (keepB HEA.out hS) 2).trans rfl
    have y3 : w'.cell? ⟨w5.heap.size, 3, none⟩ = some (.int .i64 1) := (blk_cell (keepB HEA.out hS) 3).trans rfl
    have y4 : w'.cell? ⟨w5.heap.size, 4, none⟩ = some (.int .i64 1) := (blk_cell (keepB HEA.out hS) 4).trans rfl
    go_simp; with_reducible rfl
  rotate_left
  · simp only [Act.put, List.setIfInBounds_toArray, List.set_cons_zero, List.set_cons_succ, i64_w, i32_w]; rfl
  refine take_ (i := 2) (N := some 26) (v := ?_) (a' := ?_) #[true, false, true, false, false, false] rfl rfl (by kernel_rfl) (fun _ _ _ h => h) (Or.inl ⟨by rfl, ?_⟩) hHeld ?_ ?_
  rotate_left
  · intro w' hS
    have y0 : w'.cell? ⟨w5.heap.size + 1, 0, none⟩ = some (.int .i64 2) := (blk_cell (keepB HEB.out hS) 0).trans rfl
    have y1 : w'.cell? ⟨w5.heap.size + 1, 1, none⟩ = some (.int .i64 1) := (blk_cell (keepB HEB.out hS) 1).trans rfl
    have y2 : w'.cell? ⟨w5.heap.size + 1, 2, none⟩ = some (.int .i64 1) := (blk_cell (keepB HEB.out hS) 2).trans rfl
    have y3 : w'.cell? ⟨w5.heap.size + 1, 3, none⟩ = some (.int .i64 1) := (blk_cell (keepB HEB.out hS) 3).trans rfl
    have y4 : w'.cell? ⟨w5.heap.size + 1, 4, none⟩ = some (.int .i64 1) := (blk_cell (keepB HEB.out hS) 4).trans rfl
    go_simp; with_reducible rfl
  rotate_left
  · simp only [Act.put, List.setIfInBounds_toArray, List.set_cons_zero, List.set_cons_succ, i64_w, i32_w]; rfl
  refine one_ (i := 1) (N := some 25) #[true, true, true, false, false, false] rfl rfl (by kernel_rfl) (by decide) (fun K hK => ?_)
  refine goes_ Try.func35 (by kernel_rfl) rfl #[.agg #[.int .i64 1, .int .i64 1, .int .i64 2, .int .i64 1, .int .i64 1]] (by rfl) rfl rfl (by first | rfl | (simp only [List.map_toArray, List.map_cons, List.map_nil]; rfl)) ?_
  refine (new_yes wd ⟨1, 1, 2, 1, 1⟩ HMA.out).mono ?_
  rintro e W1 ⟨gA, mA, rfl, kA1, lgA, lmA, hb1⟩
  have ugA := kA1.lt
  have umA := kA1.er.lt
  have hB1 : Below wd.heap.size wd W1 := hb1
  have z1 := hb1.size
  refine ⟨_, rfl, hK.out _ _ hB1 (fun hHeld => ?_)⟩
  clear hK K
  refine norm_ (a' := ?_) ?_ ?_
  rotate_left
  · show Act.put _ (some 25) _ = _
    simp only [Act.put, List.setIfInBounds_toArray, List.set_cons_zero, List.set_cons_succ, i64_w, i32_w]
    rfl
  refine one_ (i := 3) (N := some 27) #[true, true, true, true, false, false] rfl rfl (by kernel_rfl) (by decide) (fun K hK => ?_)
  refine goes_ Try.func35 (by kernel_rfl) rfl #[.agg #[.int .i64 2, .int .i64 1, .int .i64 1, .int .i64 1, .int .i64 1]] (by rfl) rfl rfl (by first | rfl | (simp only [List.map_toArray, List.map_cons, List.map_nil]; rfl)) ?_
  refine (new_yes W1 ⟨2, 1, 1, 1, 1⟩ HMB.out).mono ?_
  rintro e W2 ⟨gB, mB, rfl, kB2, lgB, lmB, hb2⟩
  have ugB := kB2.lt
  have umB := kB2.er.lt
  have kA2 := kA1.below hb2
  have hB2 : Below wd.heap.size wd W2 := hB1.trans (hb2.mono hB1.size)
  have z2 := hb2.size
  refine ⟨_, rfl, hK.out _ _ hB2 (fun hHeld => ?_)⟩
  clear hK K
  refine norm_ (a' := ?_) ?_ ?_
  rotate_left
  · show Act.put _ (some 27) _ = _
    simp only [Act.put, List.setIfInBounds_toArray, List.set_cons_zero, List.set_cons_succ, i64_w, i32_w]
    rfl
  refine pure_ (i := 4) (N := some 7) (v := ?_) (a' := ?_) #[true, true, true, true, true, false] rfl rfl (by kernel_rfl) (fun _ _ _ h => h) (Or.inl ⟨by rfl, ?_⟩) ?_ ?_
  rotate_left
  · intro w'; go_simp; with_reducible rfl
  rotate_left
  · simp only [Act.put, List.setIfInBounds_toArray, List.set_cons_zero, List.set_cons_succ, i64_w, i32_w]; rfl
  refine pure_ (i := 5) (N := some 8) (v := ?_) (a' := ?_) #[true, true, true, true, true, true] rfl rfl (by kernel_rfl) (fun _ _ _ h => h) (Or.inl ⟨by rfl, ?_⟩) ?_ ?_
  rotate_left
  · intro w'; go_simp; with_reducible rfl
  rotate_left
  · simp only [Act.put, List.setIfInBounds_toArray, List.set_cons_zero, List.set_cons_succ, i64_w, i32_w]; rfl
  have HT := Aside0.mk (show Two w W2 gA mA gB mB lA0 lB0 (.slice none 0 0) (.slice none 0 0) from two_mk HBd.out hB2 kA2 kB2 lgA lmA lgB lmB ugA umA)
  clear kA1 kA2 kB2 lgA lmA lgB lmB ugA umA ugB umB hB1 hB2 hb1 hb2 z1 z2
  refine done_ (by kernel_rfl) ?_

  go_wp2_with (first
    | ((with_reducible refine gate_dst (N := 29) rfl ?_); refine goesL_ (some 29) rfl rfl Try.func36 (by kernel_rfl) rfl #[.int .i64 many, .int .i64 20] rfl (by first | (simp only [List.map_toArray, List.map_cons, List.map_nil]; rfl) | rfl) ?_; refine (caduceuslaw13_at.calls many 20 a _ HAT.out).mono ?_; rintro e w3 ⟨rfl, hd⟩; have HT3 := Aside0.mk (HT.out.bel hd.below); clear hd; refine ⟨_, rfl, ?_⟩)
    | ((with_reducible refine gate_dst (N := 32) rfl ?_); refine goesL_ (some 32) rfl rfl Try.func36 (by kernel_rfl) rfl #[.int .i64 acks, .int .i64 9] rfl (by first | (simp only [List.map_toArray, List.map_cons, List.map_nil]; rfl) | rfl) ?_; refine (caduceuslaw13_at.calls acks 9 b _ HBT.out).mono ?_; rintro e w4 ⟨rfl, hd⟩; have HT4 := Aside0.mk (HT3.out.bel hd.below); clear hd; refine ⟨_, rfl, ?_⟩)
    | ((with_reducible refine gate_dst (N := 33) rfl ?_); refine goesL_ (some 33) rfl rfl Try.func37 (by kernel_rfl) rfl #[] rfl (by simp) ?_; refine (awakeL_is _).mono ?_; rintro e w6 ⟨rfl, hb⟩; have HT6 := Aside0.mk (HT4.out.bel hb); clear hb; refine ⟨_, rfl, ?_⟩))
  have HF := Aside0.mk (FF.start HT6.out)
  clear HT HT3 HT4 HT6
  go_loopg [9, 10] (60 + a) (fun kq v9 v10 w' => ∃ (n : Nat) (va v : Value), v9 = v ∧ v10 = .int .i64 n ∧ Aside0 (n + kq = 60 + a) ∧ Aside0 (FF w w' gA mA gB mB (fA (min n 64)) lB0 va (.slice none 0 0) v (PF (min n 8))))
  case atStart => exact ⟨0, _, _, rfl, rfl, ⟨by omega⟩, HF⟩
  case round =>
    clear HF
    obtain ⟨n, va, v, rfl, rfl, HN, HF⟩ := hrel
    cases gk with
    | zero =>
      have hn : n = 60 + a := by have := HN.out; omega
      have d1 : decide ((n : Int) < 60 + (a : Int)) = false := decide_eq_false (by omega)
      have i0 : (0 : Int) ≤ (n : Int) := by omega
      have i1 : (n : Int) < 80 := by omega
      obtain ⟨m, hm, hm5⟩ : ∃ m, min n 64 = 60 + m ∧ m < 5 := ⟨min n 64 - 60, by omega, by omega⟩
      obtain ⟨A9, c9, h9⟩ := Kd.R_slice HF.out.row
      rw [PF_len, Nat.min_eq_right (show 8 ≤ n by omega)] at h9
      subst h9
      have HF2 := Aside0.mk (show FF w wr gA mA gB mB (LK.gA (60 + m) 0) (LK.gB 0) va (.slice none 0 0) (.slice A9 8 c9) (PF 8) by have h := HF.out; rw [hm, Nat.min_eq_right (show 8 ≤ n by omega)] at h; exact h)
      have HM := Aside0.mk hm
      have HM5 := Aside0.mk hm5
      have HNA := Aside0.mk hn
      clear HF hm hn hm5
      go_wp2
      go_loopg [13] b (fun kq v13 w' => ∃ (i : Nat) (va vb : Value), v13 = .int .i64 i ∧ Aside0 (i + kq = b) ∧ Aside0 (FF w w' gA mA gB mB (LK.gA (60 + m) i) (LK.gB i) va vb (.slice A9 8 c9) (PF 8)))
      case atStart => exact ⟨0, _, _, rfl, ⟨by omega⟩, HF2⟩
      case round =>
        clear HF2
        obtain ⟨i, va, vb, rfl, HI, HF⟩ := hrel
        cases gk with
        | zero =>
          have hi : i = b := by have := HI.out; omega
          subst hi
          have d5 : decide ((i : Int) < (i : Int)) = false := decide_eq_false (by omega)
          have hl := full_last m HM5.out i HB2.out
          have HL1 := Aside0.mk hl.1
          have HL2 := Aside0.mk hl.2
          clear hl
          go_wp2_with (first
            | ((with_reducible refine gate_dst (N := 108) rfl ?_); refine goesL_ (some 108) rfl rfl Try.func40 (by kernel_rfl) rfl #[ptr gA] rfl (by first | (simp only [List.map_toArray, List.map_cons, List.map_nil]; rfl) | rfl) ?_; refine (left_is HF.out.two.a).mono ?_; rintro e w9 ⟨rfl, hb⟩; rw [HL1.out]; have HF9 := Aside0.mk (HF.out.bel hb); clear hb; refine ⟨_, rfl, ?_⟩)
            | ((with_reducible refine gate_dst (N := 116) rfl ?_); refine gate_guard (by rfl) ?_; dsimp only; refine goesL_ (some 116) rfl rfl Try.func41 (by kernel_rfl) rfl #[ptr gA] rfl (by first | (simp only [List.map_toArray, List.map_cons, List.map_nil]; rfl) | rfl) ?_; refine (base_is HF9.out.two.a).mono ?_; rintro e wa ⟨rfl, hb⟩; rw [HL2.out]; have HFa := Aside0.mk (HF9.out.bel hb); clear hb; refine ⟨_, rfl, ?_⟩))
          all_goals first
            | (exfalso; have q1 := HM.out; have q2 := HNA.out; have q3 := HB2.out; omega)
            | (go_ret; exact ⟨rfl, HFa.out.two.below⟩)
        | succ k2 =>
          have hi : i < b := by have := HI.out; omega
          have d5 : decide ((i : Int) < (b : Int)) = true := decide_eq_true (by omega)
          have hi8 : i < 8 := by have := HB2.out; omega
          have j0 : (0 : Int) ≤ (i : Int) := by omega
          have j1 : (i : Int) < 8 := by omega
          obtain ⟨f1, f2, f3, f4, f5, f6⟩ := full_take m HM5.out i hi8
          have HT1 := Aside0.mk f1
          have HT2 := Aside0.mk f2
          have HT3 := Aside0.mk (show (LK.gB i).er.length ≤ 999 by rw [f3]; decide)
          have HT4 := Aside0.mk f4
          have HT5 := Aside0.mk f5
          have HT6 := Aside0.mk (show (LK.gA (60 + m) i).er.length ≤ 999 by rw [f6]; decide)
          have HI8 := Aside0.mk hi8
          clear f1 f2 f3 f4 f5 f6
          obtain ⟨ad, hA, e0, e1, e2, e3, e4, e5, e6⟩ := at_T28 (Kd.R_reads' HF.out.row).2.2 (i : Int) j0 (by rw [PF_len]; exact j1)
          rw [PF_at hi8, Int.toNat_natCast] at e0 e1 e2 e3 e4 e5 e6
          subst hA
          obtain ⟨P, hP⟩ : ∃ P, pkF i = P := ⟨_, rfl⟩
          have HP := Aside0.mk hP
          rw [hP] at e0 e1 e2 e3 e4 e5 e6
          clear hP
          obtain ⟨P2, hP2⟩ : ∃ P2, ackF i = P2 := ⟨_, rfl⟩
          have HP2 := Aside0.mk hP2
          clear hP2
          go_wp2_with (first
            | ((with_reducible refine gate_dst (N := 84) rfl ?_); refine goesL_ (some 84) rfl rfl Try.func39 (by kernel_rfl) rfl #[ptr gB, .agg #[.int .i64 P.f0, .int .i64 P.f1, .int .i64 P.f2, .int .i64 P.f3, .int .i64 P.f4, .int .i64 P.f5, .string P.f6]] rfl (by first | (simp only [List.map_toArray, List.map_cons, List.map_nil]; rfl) | rfl) ?_; refine (LK.take_is (l := LK.gB i) HF.out.two.b (bd_gB (by have := HI8.out; omega)) HT3.out P).mono ?_; rintro e w7 ⟨t, o, v7, rfl, ht, ho, st⟩; rw [show tkE (LK.gB i) P = 0 by rw [← HP.out]; exact HT1.out]; obtain ⟨At, ct, rfl⟩ := Kd.R_slice ht; rw [show tkP (LK.gB i) P = [P2] by rw [← HP.out, one_of HT2.out]; exact congrArg (fun x => [x]) HP2.out] at ho; obtain ⟨b8, c8, rfl, p0, p1, p2, p3, p4, p5, p6⟩ := one_row ho; have HF7 := Aside0.mk (HF.out.swap.act st).swap; clear ht ho st e0 e1 e2 e3 e4 e5 e6; refine ⟨_, rfl, ?_⟩)
            | ((with_reducible refine gate_dst (N := 96) rfl ?_); refine goesL_ (some 96) rfl rfl Try.func39 (by kernel_rfl) rfl #[ptr gA, .agg #[.int .i64 P2.f0, .int .i64 P2.f1, .int .i64 P2.f2, .int .i64 P2.f3, .int .i64 P2.f4, .int .i64 P2.f5, .string P2.f6]] rfl (by first | (simp only [List.map_toArray, List.map_cons, List.map_nil]; rfl) | rfl) ?_; refine (LK.take_is (l := LK.gA (60 + m) i) HF7.out.two.a (bd_gA HM5.out (by have := HI8.out; omega)) HT6.out P2).mono ?_; rintro e w8 ⟨t, o, v8, rfl, ht, ho, st⟩; rw [show tkE (LK.gA (60 + m) i) P2 = 0 by rw [← HP2.out]; exact HT4.out]; obtain ⟨At2, ct2, rfl⟩ := Kd.R_slice ht; obtain ⟨Ao, co, rfl⟩ := Kd.R_slice ho; rw [show (tkP (LK.gA (60 + m) i) P2).length = 1 by rw [← HP2.out]; exact HT5.out]; have HF8 := Aside0.mk (show FF w w8 gA mA gB mB (LK.gA (60 + m) (i + 1)) (LK.gB (i + 1)) v8 v7 (.slice (some ad) 8 c9) (PF 8) by have h := HF7.out.act st; rw [← HP.out, ← HP2.out] at h; exact h); clear ht ho st p0 p1 p2 p3 p4 p5 p6; refine ⟨_, rfl, ?_⟩))
          go_roundg k2
          case measure => omega
          case rel => exact ⟨i + 1, _, _, by first | rfl | (simp; done) | (simp; unfold wrap64; omega), ⟨by have := HI.out; omega⟩, HF8⟩
    | succ k1 =>
      have hn : n < 60 + a := by have := HN.out; omega
      have d1 : decide ((n : Int) < 60 + (a : Int)) = true := decide_eq_true (by omega)
      have i0 : (0 : Int) ≤ (n : Int) := by omega
      have i1 : (n : Int) < 80 := by omega
      obtain ⟨A9, c9, h9⟩ := Kd.R_slice HF.out.row
      rw [PF_len] at h9
      subst h9
      by_cases hn64 : n < 64
      · have HN64 := Aside0.mk hn64
        have d2 : decide ((n : Int) < 64) = true := decide_eq_true (by omega)
        have HF_ := Aside0.mk (show FF w wr gA mA gB mB (fA n) lB0 va (.slice none 0 0) (.slice A9 (min n 8) c9) (PF (min n 8)) by have h := HF.out; rw [Nat.min_eq_left (show n ≤ 64 by omega)] at h; exact h)
        clear HF
        have HF := HF_
        clear HF_
        by_cases hn8 : n < 8
        · skip
          have d3 : decide ((8 : Int) ≤ (n : Int)) = false := decide_eq_false (by omega)
          have hlen : (sdP (fA n) sX).length = 1 := by rw [(full_send n hn64).2, if_pos hn8]
          have HLN := Aside0.mk hlen
          clear hlen
          go_wp2_with (first
            | ((with_reducible refine gate_dst (N := 50) rfl ?_); refine goesL_ (some 50) rfl rfl Try.func38 (by kernel_rfl) rfl #[ptr gA, .string ⟨#[120]⟩] rfl (by first | (simp only [List.map_toArray, List.map_cons, List.map_nil]; rfl) | rfl) ?_; refine (LK.send_is (l := fA n) HF.out.two.a (bd_fA _) sX (by decide)).mono ?_; rintro e w7 ⟨o, v7, rfl, ho, st⟩; rw [(full_send n HN64.out).1]; obtain ⟨Ao, co, rfl⟩ := Kd.R_slice ho; rw [HLN.out]; have HO := Aside0.mk (show k28.C w7 Ao 1 (sdP (fA n) sX) by have h := (Kd.R_reads' ho).2.2; rw [HLN.out] at h; exact h); have HF7 := Aside0.mk (HF.out.act st); clear ho st; refine ⟨_, rfl, ?_⟩)
            | ((with_reducible refine gate_dst (N := 69) rfl ?_); at_builtin; refine Kd.R_append_rows k28 (Rr := k28.K w7) (w0 := w) w.heap.size rfl (.tmp 67) (.tmp 68) 50 28 (.agg #[.int .i64 0, .int .i64 0, .int .i64 0, .int .i64 0, .int .i64 0, .int .i64 0, .string ⟨#[]⟩]) 64 rfl Try.underlying50 info28p rfl (by decide) (by decide) (.slice A9 (min n 8) c9) (PF (min n 8)) (sdP (fA n) sX) Ao 1 co (okFF gA mA gB mB v7 (.slice none 0 0)) (fun _ => False) rfl rfl HF7.out.row HO.out (fun _ _ hk => hk) (fun _ hk => hk.elim) HF7.out.fresh HF7.out.two.below HF7.out.two.below.size ?aL ?_; (case aL => rw [PF_len]; omega); intro v1 w8 hr hb8 hg hat; have HF8 := Aside0.mk (HF7.out.app hr hg hb8); clear hr hb8 hg hat))
          go_roundg k1
          case measure => omega
          case rel => exact ⟨n + 1, _, _, rfl, by first | rfl | (simp; done) | (simp; unfold wrap64; omega), ⟨by have := HN.out; omega⟩, ⟨by have h := HF8.out; rw [PF_send HN64.out] at h; rw [Nat.min_eq_left (show n + 1 ≤ 64 by have := HN64.out; omega)]; exact h⟩⟩
        · have d3 : decide ((8 : Int) ≤ (n : Int)) = true := decide_eq_true (by omega)
          have hlen : (sdP (fA n) sX).length = 0 := by rw [(full_send n hn64).2, if_neg hn8]
          have HLN := Aside0.mk hlen
          clear hlen
          go_wp2_with (first
            | ((with_reducible refine gate_dst (N := 50) rfl ?_); refine goesL_ (some 50) rfl rfl Try.func38 (by kernel_rfl) rfl #[ptr gA, .string ⟨#[120]⟩] rfl (by first | (simp only [List.map_toArray, List.map_cons, List.map_nil]; rfl) | rfl) ?_; refine (LK.send_is (l := fA n) HF.out.two.a (bd_fA _) sX (by decide)).mono ?_; rintro e w7 ⟨o, v7, rfl, ho, st⟩; rw [(full_send n HN64.out).1]; obtain ⟨Ao, co, rfl⟩ := Kd.R_slice ho; rw [HLN.out]; have HO := Aside0.mk (show k28.C w7 Ao 0 (sdP (fA n) sX) by have h := (Kd.R_reads' ho).2.2; rw [HLN.out] at h; exact h); have HF7 := Aside0.mk (HF.out.act st); clear ho st; refine ⟨_, rfl, ?_⟩)
            | ((with_reducible refine gate_dst (N := 69) rfl ?_); at_builtin; refine Kd.R_append_rows k28 (Rr := k28.K w7) (w0 := w) w.heap.size rfl (.tmp 67) (.tmp 68) 50 28 (.agg #[.int .i64 0, .int .i64 0, .int .i64 0, .int .i64 0, .int .i64 0, .int .i64 0, .string ⟨#[]⟩]) 64 rfl Try.underlying50 info28p rfl (by decide) (by decide) (.slice A9 (min n 8) c9) (PF (min n 8)) (sdP (fA n) sX) Ao 0 co (okFF gA mA gB mB v7 (.slice none 0 0)) (fun _ => False) rfl rfl HF7.out.row HO.out (fun _ _ hk => hk) (fun _ hk => hk.elim) HF7.out.fresh HF7.out.two.below HF7.out.two.below.size ?aL ?_; (case aL => rw [PF_len]; omega); intro v1 w8 hr hb8 hg hat; have HF8 := Aside0.mk (HF7.out.app hr hg hb8); clear hr hb8 hg hat))
          go_roundg k1
          case measure => omega
          case rel => exact ⟨n + 1, _, _, rfl, by first | rfl | (simp; done) | (simp; unfold wrap64; omega), ⟨by have := HN.out; omega⟩, ⟨by have h := HF8.out; rw [PF_send HN64.out] at h; rw [Nat.min_eq_left (show n + 1 ≤ 64 by have := HN64.out; omega)]; exact h⟩⟩
      · have HN64 := Aside0.mk (show 64 ≤ n by omega)
        have d2 : decide ((n : Int) < 64) = false := decide_eq_false (by omega)
        have d3 : decide ((8 : Int) ≤ (n : Int)) = true := decide_eq_true (by omega)
        have HF_ := Aside0.mk (show FF w wr gA mA gB mB (fA 64) lB0 va (.slice none 0 0) (.slice A9 (min n 8) c9) (PF (min n 8)) by have h := HF.out; rw [Nat.min_eq_right (show 64 ≤ n by omega)] at h; exact h)
        clear HF
        have HF := HF_
        clear HF_
        obtain ⟨E, hE⟩ : ∃ E, sdE (fA 64) sX = E := ⟨_, rfl⟩
        have d4 : (E == 0) = false := beq_eq_false_iff_ne.mpr (by rw [← hE]; exact full_end.1)
        have HE6 := Aside0.mk hE
        clear hE
        have hlen : (sdP (fA 64) sX).length = 0 := full_end.2
        have HLN := Aside0.mk hlen
        clear hlen
        go_wp2_with (first
          | ((with_reducible refine gate_dst (N := 50) rfl ?_); refine goesL_ (some 50) rfl rfl Try.func38 (by kernel_rfl) rfl #[ptr gA, .string ⟨#[120]⟩] rfl (by first | (simp only [List.map_toArray, List.map_cons, List.map_nil]; rfl) | rfl) ?_; refine (LK.send_is (l := fA 64) HF.out.two.a (bd_fA _) sX (by decide)).mono ?_; rintro e w7 ⟨o, v7, rfl, ho, st⟩; rw [HE6.out]; obtain ⟨Ao, co, rfl⟩ := Kd.R_slice ho; rw [HLN.out]; have HO := Aside0.mk (show k28.C w7 Ao 0 (sdP (fA 64) sX) by have h := (Kd.R_reads' ho).2.2; rw [HLN.out] at h; exact h); have HF7 := Aside0.mk (HF.out.act st); clear ho st; refine ⟨_, rfl, ?_⟩)
          | ((with_reducible refine gate_dst (N := 69) rfl ?_); at_builtin; refine Kd.R_append_rows k28 (Rr := k28.K w7) (w0 := w) w.heap.size rfl (.tmp 67) (.tmp 68) 50 28 (.agg #[.int .i64 0, .int .i64 0, .int .i64 0, .int .i64 0, .int .i64 0, .int .i64 0, .string ⟨#[]⟩]) 64 rfl Try.underlying50 info28p rfl (by decide) (by decide) (.slice A9 (min n 8) c9) (PF (min n 8)) (sdP (fA 64) sX) Ao 0 co (okFF gA mA gB mB v7 (.slice none 0 0)) (fun _ => False) rfl rfl HF7.out.row HO.out (fun _ _ hk => hk) (fun _ hk => hk.elim) HF7.out.fresh HF7.out.two.below HF7.out.two.below.size ?aL ?_; (case aL => rw [PF_len]; omega); intro v1 w8 hr hb8 hg hat; have HF8 := Aside0.mk (HF7.out.app hr hg hb8); clear hr hb8 hg hat))
        go_roundg k1
        case measure => omega
        case rel => exact ⟨n + 1, _, _, rfl, by first | rfl | (simp; done) | (simp; unfold wrap64; omega), ⟨by have := HN.out; omega⟩, ⟨by have h := HF8.out; rw [PF_end, List.append_nil, fA_end] at h; rw [Nat.min_eq_right (show 64 ≤ n + 1 by have := HN64.out; omega), Nat.min_eq_right (show 8 ≤ n + 1 by have := HN64.out; omega)]; rw [Nat.min_eq_right (show 8 ≤ n by have := HN64.out; omega)] at h; exact h⟩⟩
end Go.Proofs.Ytdibaeomepallaa.LK
