import Derived.Test.YtdibaeomepallaaLo
namespace Go.Proofs.Ytdibaeomepallaa.LK
open Go.RowKit Go.Proofs.YtdibaeomepallaaW.PrintWords Go.Proofs.YtdibaeomepallaaW.PrintLast Go.Proofs.YtdibaeomepallaaW.PrintMore Go.Proofs.Ytdibaeomepallaa.PAll Go.Proofs.Ytdibaeomepallaa.NW
set_option linter.unusedVariables false
set_option linter.unusedSimpArgs false
set_option maxRecDepth 100000
/-- Two ends of a link, each in blocks of its own. -/
structure Two (w0 w : World) (ga ma gb mb : Nat) (la lb : Lk) (va vb : Value) : Prop where
  a : LkAt w ga la va ma
  b : LkAt w gb lb vb mb
  dis : ∀ k, lf ga va ma k → ¬ lf gb vb mb k
  lowa : ∀ k, lf ga va ma k → w0.heap.size ≤ k
  lowb : ∀ k, lf gb vb mb k → w0.heap.size ≤ k
  below : Below w0.heap.size w0 w
section
variable {w0 w w' : World} {ga ma gb mb : Nat} {la lb la' lb' : Lk} {va vb va' vb' : Value}
theorem Two.swap (h : Two w0 w ga ma gb mb la lb va vb) : Two w0 w gb mb ga ma lb la vb va := ⟨h.b, h.a, fun k hb ha => h.dis k ha hb, h.lowb, h.lowa, h.below⟩
theorem Two.bel (h : Two w0 w ga ma gb mb la lb va vb) (hb : Below w.heap.size w w') : Two w0 w' ga ma gb mb la lb va vb := ⟨h.a.below hb, h.b.below hb, h.dis, h.lowa, h.lowb, h.below.trans (hb.mono h.below.size)⟩
theorem Two.act (h : Two w0 w ga ma gb mb la lb va vb) (st : LkStep w ga va ma la' va' w') : Two w0 w' ga ma gb mb la' lb va' vb := by
  have hs := h.below.size
  have hold : ∀ k, lf ga va' ma k → lf ga va ma k ∨ w.heap.size ≤ k := fun k hk => by
    rcases hk with hk | hk | hk
    · exact .inl (.inl hk)
    · exact .inl (.inr (.inl hk))
    · exact (st.own k hk).imp (fun e => .inr (.inr e)) id
  refine ⟨st.lk, h.b.mods st.mods (fun k hb ha => h.dis k ha hb), fun k ha hb => ?_, fun k hk => ?_, h.lowb, h.below.trans (st.mods.below h.below.size h.lowa)⟩
  · rcases hold k ha with h1 | h1
    · exact h.dis k h1 hb
    · have := h.b.foot_lt hb; omega
  · rcases hold k hk with h1 | h1
    · exact h.lowa k h1
    · omega
end
/-- A row of one packet, of one text. -/
theorem one_row {w : World} {base : Nat} {ok : Nat → Prop} {v : Value} {p : Pk} (h : k28.R 28 w base ok v [p]) : ∃ b c, v = .slice (some ⟨b, 0, none⟩) 1 c ∧ w.cell? ⟨b, 0, none⟩ = some (.int .i64 p.f0) ∧ w.cell? ⟨b, 1, none⟩ = some (.int .i64 p.f1) ∧ w.cell? ⟨b, 2, none⟩ = some (.int .i64 p.f2) ∧ w.cell? ⟨b, 3, none⟩ = some (.int .i64 p.f3) ∧ w.cell? ⟨b, 4, none⟩ = some (.int .i64 p.f4) ∧ w.cell? ⟨b, 5, none⟩ = some (.int .i64 p.f5) ∧ w.cell? ⟨b, 6, none⟩ = some (.string p.f6) := by
  obtain ⟨inner, hown⟩ := Kd.R_own h
  obtain ⟨b, c, he, _⟩ := hown.form (by simp)
  obtain ⟨A, c2, rfl, hc, hC⟩ := Kd.R_reads h
  obtain ⟨ad, hA, e0, e1, e2, e3, e4, e5, e6⟩ := at_T28 hC (0 : Int) (by decide) (by simp)
  injection he with ha _ _
  rw [hA] at ha
  injection ha with ha
  subst ha
  refine ⟨b, c2, by rw [hA]; rfl, ?_, ?_, ?_, ?_, ?_, ?_, ?_⟩
  · exact e0
  · exact e1
  · exact e2
  · exact e3
  · exact e4
  · exact e5
  · exact e6
theorem one_text {w : World} {base : Nat} {ok : Nat → Prop} {v : Value} {s : ByteArray} (h : Kd.string.R 9 w base ok v [s]) : ∃ b c, v = .slice (some ⟨b, 0, none⟩) 1 c ∧ w.cell? ⟨b, 0, none⟩ = some (.string s) := by
  obtain ⟨inner, hown⟩ := Kd.R_own h
  obtain ⟨b, c, he, _⟩ := hown.form (by simp)
  obtain ⟨A, c2, rfl, hc, hC⟩ := Kd.R_reads h
  obtain ⟨ad, hA, e⟩ := text_of h (i := 0) (by simp)
  injection he with ha _ _
  rw [hA] at ha
  injection ha with ha
  subst ha
  exact ⟨b, c2, by rw [hA]; rfl, e⟩
theorem two_mk {w wd W1 W2 : World} {gA mA gB mB : Nat} {xA xB : S65} (hd : Below w.heap.size w wd) (hB : Below wd.heap.size wd W2) (kA : LkAt W2 gA (newL xA) (.slice none 0 0) mA) (kB : LkAt W2 gB (newL xB) (.slice none 0 0) mB) (lgA : wd.heap.size ≤ gA) (lmA : wd.heap.size ≤ mA) (lgB : W1.heap.size ≤ gB) (lmB : W1.heap.size ≤ mB) (ugA : gA < W1.heap.size) (umA : mA < W1.heap.size) : Two w W2 gA mA gB mB (newL xA) (newL xB) (.slice none 0 0) (.slice none 0 0) := by
  have hs := hd.size
  refine ⟨kA, kB, fun k ha hb => ?_, fun k ha => ?_, fun k hb => ?_, hd.trans (hB.mono hd.size)⟩
  · have h1 : k < W1.heap.size := by
      rcases ha with ha | ha | ha
      · have e : k = gA := ha; omega
      · have e : k = mA := ha; omega
      · cases ha
    have h2 : W1.heap.size ≤ k := by
      rcases hb with hb | hb | hb
      · have e : k = gB := hb; omega
      · have e : k = mB := hb; omega
      · cases hb
    omega
  · rcases ha with ha | ha | ha
    · have e : k = gA := ha; omega
    · have e : k = mA := ha; omega
    · cases ha
  · rcases hb with hb | hb | hb
    · have e : k = gB := hb; omega
    · have e : k = mB := hb; omega
    · cases hb
def sA : ByteArray := ⟨#[97]⟩
def lA0 : Lk := newL ⟨1, 1, 2, 1, 1⟩
def lB0 : Lk := newL ⟨2, 1, 1, 1, 1⟩
def pA1 : Pk := ⟨1, 2, 1, 1, 1, 0, sA⟩
def pB1 : Pk := ⟨2, 1, 1, 1, 0, 1, e0⟩
def lA1 : Lk := sdL lA0 sA
def lA2 : Lk := tkL lA1 pB1
theorem a_S : sA.toList = [97] := by kernel_rfl
theorem a_E1 : sdE lA0 sA = 0 := by kernel_rfl
theorem a_P1 : sdP lA0 sA = [pA1] := by kernel_rfl
theorem a_E2 : tkE lB0 pA1 = 0 := by kernel_rfl
theorem a_T2 : tkT lB0 pA1 = [sA] := by kernel_rfl
theorem a_P2 : tkP lB0 pA1 = [pB1] := by kernel_rfl
theorem a_E3 : tkE lA1 pB1 = 0 := by kernel_rfl
theorem a_Q3 : lA2.q.length = 0 := by kernel_rfl
theorem bd_new (x : S65) (h : mayL x = true) : Bd (newL x) := by
  unfold mayL at h
  simp only [Bool.and_eq_true, decide_eq_true_eq] at h
  obtain ⟨_, h5⟩ := h
  exact ⟨h5.1, by show x.f4 + ((0 : Nat) : Int) ≤ _; omega, by show 0 ≤ 8; omega, Nat.le_refl _, by show 0 ≤ 64; omega, h5.1, h5.2, by show 0 ≤ 1000; omega⟩
theorem Bd.send {l : Lk} (h : Bd l) (s : ByteArray) : Bd (sdL l s) := by
  unfold sdL
  split
  · rename_i hE
    obtain ⟨_, h1, h2⟩ := sdE_ok hE
    exact (h.add h1 h2).goL
  · exact h
theorem Bd.take {l : Lk} (h : Bd l) (h9 : l.er.length ≤ 999) (p : Pk) : Bd (tkL l p) := by
  unfold tkL
  split
  · exact (h.tk2 h9 p).goL
  · exact h
theorem bd_A0 : Bd lA0 := bd_new _ (by decide)
theorem bd_B0 : Bd lB0 := bd_new _ (by decide)
set_option maxHeartbeats 16000000 in
theorem awakeL_is (w : World) : Calls Try.prog 37 #[] w fun e w' => e = .returned (.bool true) ∧ Below w.heap.size w w' := by
  have hu65 := Try.underlying65
  have hu28 := Try.underlying28
  have HMA := Aside0.mk (may_AB (f := 1) (by decide) (by decide)).1
  have HMB := Aside0.mk (may_AB (f := 1) (by decide) (by decide)).2
  have HE := Aside0.mk (show caduceuslaw13_ends.f 1 = some (1, 1, 2, 1, 1, 2, 1, 1, 1, 1) from rfl)
  go_enter Try.func37, Try.ntmps37
  go_wp2_with (first
    | ((with_reducible refine gate_dst (N := 14) rfl ?_); refine goesL_ (some 14) rfl rfl Try.func34 (by kernel_rfl) rfl #[.int .i64 1] rfl (by first | (simp only [List.map_toArray, List.map_cons, List.map_nil]; rfl) | rfl) ?_; refine (caduceuslaw13_ends.calls 1 1 1 2 1 1 2 1 1 1 1 _ HE.out).mono ?_; rintro e w5 ⟨rfl, hb⟩; have HB5 := Aside0.mk hb; clear hb; refine ⟨_, rfl, ?_⟩))
  obtain ⟨wq, hwq, hBq, hA, hB⟩ : ∃ wq, wq = (w5.alloc (.cells #[.int .i64 1, .int .i64 1, .int .i64 2, .int .i64 1, .int .i64 1] 65 (0, 0))).alloc (.cells #[.int .i64 2, .int .i64 1, .int .i64 1, .int .i64 1, .int .i64 1] 65 (0, 0)) ∧ Below w5.heap.size w5 wq ∧ wq.heap[w5.heap.size]? = some (.cells #[.int .i64 1, .int .i64 1, .int .i64 2, .int .i64 1, .int .i64 1] 65 (0, 0)) ∧ wq.heap[w5.heap.size + 1]? = some (.cells #[.int .i64 2, .int .i64 1, .int .i64 1, .int .i64 1, .int .i64 1] 65 (0, 0)) := boxes2L w5 _ _
  rw [← hwq]
  obtain ⟨wd, hwd⟩ : ∃ wd, wd = wq.drew := ⟨_, rfl⟩
  have HWD := Aside0.mk hwd
  have HBd := Aside0.mk (show Below w.heap.size w wd by rw [hwd]; exact below_drew1 (HB5.out.trans (hBq.mono HB5.out.size)))
  have HEA := Aside0.mk (show wd.heap[w5.heap.size]? = some (.cells #[.int .i64 1, .int .i64 1, .int .i64 2, .int .i64 1, .int .i64 1] 65 (0, 0)) by rw [hwd]; exact hA)
  have HEB := Aside0.mk (show wd.heap[w5.heap.size + 1]? = some (.cells #[.int .i64 2, .int .i64 1, .int .i64 1, .int .i64 1, .int .i64 1] 65 (0, 0)) by rw [hwd]; exact hB)
  clear hwq hBq hA hB hwd
  refine start_ (n := 6) (S := fun w' => Below wd.heap.size wd w') (ds := []) #[false, false, false, false, false, false] (by kernel_rfl) rfl rfl (by rw [HWD.out]; exact Below.refl _ _) (fun hHeld => ?_)
  rw [← HWD.out] at hHeld ⊢
  refine take_ (i := 0) (N := some 17) (v := ?_) (a' := ?_) #[true, false, false, false, false, false] rfl rfl (by kernel_rfl) (fun _ _ _ h => h) (Or.inl ⟨by rfl, ?_⟩) hHeld ?_ ?_
  rotate_left
  · intro w' hS
    have y0 : w'.cell? ⟨w5.heap.size, 0, none⟩ = some (.int .i64 1) := (blk_cell (keepB HEA.out hS) 0).trans rfl
    have y1 : w'.cell? ⟨w5.heap.size, 1, none⟩ = some (.int .i64 1) := (blk_cell (keepB HEA.out hS) 1).trans rfl
    have y2 : w'.cell? ⟨w5.heap.size, 2, none⟩ = some (.int .i64 2) := (blk_cell (keepB HEA.out hS) 2).trans rfl
    have y3 : w'.cell? ⟨w5.heap.size, 3, none⟩ = some (.int .i64 1) := (blk_cell (keepB HEA.out hS) 3).trans rfl
    have y4 : w'.cell? ⟨w5.heap.size, 4, none⟩ = some (.int .i64 1) := (blk_cell (keepB HEA.out hS) 4).trans rfl
    go_simp; with_reducible rfl
  rotate_left
  · simp only [Act.put, List.setIfInBounds_toArray, List.set_cons_zero, List.set_cons_succ, i64_w, i32_w]; rfl
  refine take_ (i := 2) (N := some 19) (v := ?_) (a' := ?_) #[true, false, true, false, false, false] rfl rfl (by kernel_rfl) (fun _ _ _ h => h) (Or.inl ⟨by rfl, ?_⟩) hHeld ?_ ?_
  rotate_left
  · intro w' hS
    have y0 : w'.cell? ⟨w5.heap.size + 1, 0, none⟩ = some (.int .i64 2) := (blk_cell (keepB HEB.out hS) 0).trans rfl
    have y1 : w'.cell? ⟨w5.heap.size + 1, 1, none⟩ = some (.int .i64 1) := (blk_cell (keepB HEB.out hS) 1).trans rfl
    have y2 : w'.cell? ⟨w5.heap.size + 1, 2, none⟩ = some (.int .i64 1) := (blk_cell (keepB HEB.out hS) 2).trans rfl
    have y3 : w'.cell? ⟨w5.heap.size + 1, 3, none⟩ = some (.int .i64 1) := (blk_cell (keepB HEB.out hS) 3).trans rfl
    have y4 : w'.cell? ⟨w5.heap.size + 1, 4, none⟩ = some (.int .i64 1) := (blk_cell (keepB HEB.out hS) 4).trans rfl
    go_simp; with_reducible rfl
  rotate_left
  · simp only [Act.put, List.setIfInBounds_toArray, List.set_cons_zero, List.set_cons_succ, i64_w, i32_w]; rfl
  refine one_ (i := 1) (N := some 18) #[true, true, true, false, false, false] rfl rfl (by kernel_rfl) (by decide) (fun K hK => ?_)
  refine goes_ Try.func35 (by kernel_rfl) rfl #[.agg #[.int .i64 1, .int .i64 1, .int .i64 2, .int .i64 1, .int .i64 1]] (by rfl) rfl rfl (by first | rfl | (simp only [List.map_toArray, List.map_cons, List.map_nil]; rfl)) ?_
  refine (new_yes wd ⟨1, 1, 2, 1, 1⟩ HMA.out).mono ?_
  rintro e W1 ⟨gA, mA, rfl, kA1, lgA, lmA, hb1⟩
  have ugA := kA1.lt
  have umA := kA1.er.lt
  have hB1 : Below wd.heap.size wd W1 := hb1
  have z1 := hb1.size
  refine ⟨_, rfl, hK.out _ _ hB1 (fun hHeld => ?_)⟩
  clear hK K
  refine norm_ (a' := ?_) ?_ ?_
  rotate_left
  · show Act.put _ (some 18) _ = _
    simp only [Act.put, List.setIfInBounds_toArray, List.set_cons_zero, List.set_cons_succ, i64_w, i32_w]
    rfl
  refine one_ (i := 3) (N := some 20) #[true, true, true, true, false, false] rfl rfl (by kernel_rfl) (by decide) (fun K hK => ?_)
  refine goes_ Try.func35 (by kernel_rfl) rfl #[.agg #[.int .i64 2, .int .i64 1, .int .i64 1, .int .i64 1, .int .i64 1]] (by rfl) rfl rfl (by first | rfl | (simp only [List.map_toArray, List.map_cons, List.map_nil]; rfl)) ?_
  refine (new_yes W1 ⟨2, 1, 1, 1, 1⟩ HMB.out).mono ?_
  rintro e W2 ⟨gB, mB, rfl, kB2, lgB, lmB, hb2⟩
  have ugB := kB2.lt
  have umB := kB2.er.lt
  have kA2 := kA1.below hb2
  have hB2 : Below wd.heap.size wd W2 := hB1.trans (hb2.mono hB1.size)
  have z2 := hb2.size
  refine ⟨_, rfl, hK.out _ _ hB2 (fun hHeld => ?_)⟩
  clear hK K
  refine norm_ (a' := ?_) ?_ ?_
  rotate_left
  · show Act.put _ (some 20) _ = _
    simp only [Act.put, List.setIfInBounds_toArray, List.set_cons_zero, List.set_cons_succ, i64_w, i32_w]
    rfl
  refine pure_ (i := 4) (N := some 3) (v := ?_) (a' := ?_) #[true, true, true, true, true, false] rfl rfl (by kernel_rfl) (fun _ _ _ h => h) (Or.inl ⟨by rfl, ?_⟩) ?_ ?_
  rotate_left
  · intro w'; go_simp; with_reducible rfl
  rotate_left
  · simp only [Act.put, List.setIfInBounds_toArray, List.set_cons_zero, List.set_cons_succ, i64_w, i32_w]; rfl
  refine pure_ (i := 5) (N := some 4) (v := ?_) (a' := ?_) #[true, true, true, true, true, true] rfl rfl (by kernel_rfl) (fun _ _ _ h => h) (Or.inl ⟨by rfl, ?_⟩) ?_ ?_
  rotate_left
  · intro w'; go_simp; with_reducible rfl
  rotate_left
  · simp only [Act.put, List.setIfInBounds_toArray, List.set_cons_zero, List.set_cons_succ, i64_w, i32_w]; rfl
  have HT := Aside0.mk (show Two w W2 gA mA gB mB lA0 lB0 (.slice none 0 0) (.slice none 0 0) from two_mk HBd.out hB2 kA2 kB2 lgA lmA lgB lmB ugA umA)
  clear kA1 kA2 kB2 lgA lmA lgB lmB ugA umA ugB umB hB1 hB2 hb1 hb2 z1 z2
  refine done_ (by kernel_rfl) ?_

  go_wp2_with (first
    | ((with_reducible refine gate_dst (N := 23) rfl ?_); refine goesL_ (some 23) rfl rfl Try.func38 (by kernel_rfl) rfl #[ptr gA, .string ⟨#[97]⟩] rfl (by first | (simp only [List.map_toArray, List.map_cons, List.map_nil]; rfl) | rfl) ?_; refine (LK.send_is (l := lA0) HT.out.a bd_A0 sA (by decide)).mono ?_; rintro e w6 ⟨o, v6, rfl, ho, st⟩; rw [a_E1]; rw [a_P1] at ho; obtain ⟨b6, c6, rfl, p0, p1, p2, p3, p4, p5, p6⟩ := one_row ho; have HT_ := Aside0.mk (HT.out.act st); clear HT ho st; have HT := HT_; clear HT_; refine ⟨_, rfl, ?_⟩)
    | ((with_reducible refine gate_dst (N := 45) rfl ?_); refine goesL_ (some 45) rfl rfl Try.func39 (by kernel_rfl) rfl #[ptr gB, .agg #[.int .i64 pA1.f0, .int .i64 pA1.f1, .int .i64 pA1.f2, .int .i64 pA1.f3, .int .i64 pA1.f4, .int .i64 pA1.f5, .string pA1.f6]] rfl (by first | (simp only [List.map_toArray, List.map_cons, List.map_nil]; rfl) | rfl) ?_; refine (LK.take_is (l := lB0) HT.out.b bd_B0 (by decide) pA1).mono ?_; rintro e w7 ⟨t7, o7, v7, rfl, ht, ho, st⟩; rw [a_E2]; rw [a_T2] at ht; rw [a_P2] at ho; obtain ⟨b7, c7, rfl, q0⟩ := one_text ht; obtain ⟨b8, c8, rfl, r0, r1, r2, r3, r4, r5, r6⟩ := one_row ho; have HT_ := Aside0.mk (HT.out.swap.act st).swap; clear HT ht ho st; have HT := HT_; clear HT_; clear p0 p1 p2 p3 p4 p5 p6; refine ⟨_, rfl, ?_⟩)
    | ((with_reducible refine gate_dst (N := 86) rfl ?_); refine goesL_ (some 86) rfl rfl Try.func39 (by kernel_rfl) rfl #[ptr gA, .agg #[.int .i64 pB1.f0, .int .i64 pB1.f1, .int .i64 pB1.f2, .int .i64 pB1.f3, .int .i64 pB1.f4, .int .i64 pB1.f5, .string pB1.f6]] rfl (by first | (simp only [List.map_toArray, List.map_cons, List.map_nil]; rfl) | rfl) ?_; refine (LK.take_is (l := lA1) HT.out.a (bd_A0.send sA) (by decide) pB1).mono ?_; rintro e w8 ⟨t8, o8, v8, rfl, ht, ho, st⟩; rw [a_E3]; clear ht ho; have HT_ := Aside0.mk (HT.out.act st); clear HT st; have HT := HT_; clear HT_; clear q0 r0 r1 r2 r3 r4 r5 r6; refine ⟨_, rfl, ?_⟩)
    | ((with_reducible refine gate_dst (N := 94) rfl ?_); refine gate_guard (by rfl) ?_; dsimp only; refine goesL_ (some 94) rfl rfl Try.func40 (by kernel_rfl) rfl #[ptr gA] rfl (by first | (simp only [List.map_toArray, List.map_cons, List.map_nil]; rfl) | rfl) ?_; refine (left_is HT.out.a).mono ?_; rintro e w9 ⟨rfl, hb⟩; rw [show (tkL lA1 pB1).q.length = 0 from a_Q3]; have HT_ := Aside0.mk (HT.out.bel hb); clear HT hb; have HT := HT_; clear HT_; refine ⟨_, rfl, ?_⟩))
  · go_ret
    exact ⟨rfl, HT.out.below⟩
  · exfalso; rename_i hf; exact hf a_S
end Go.Proofs.Ytdibaeomepallaa.LK
