/- A pair is made (fresh). By hand; the steps of the drawn region by a program of this session. -/
import Derived.Test.YtdibaeomepallaaLn
namespace Go.Proofs.Ytdibaeomepallaa.LK
open Go.RowKit Go.Proofs.YtdibaeomepallaaW.PrintWords Go.Proofs.YtdibaeomepallaaW.PrintLast Go.Proofs.YtdibaeomepallaaW.PrintMore Go.Proofs.Ytdibaeomepallaa.PAll Go.Proofs.Ytdibaeomepallaa.NW
set_option linter.unusedVariables false
set_option linter.unusedSimpArgs false
set_option maxRecDepth 100000
def xA (f : Int) : S65 := ⟨1, 1, 2, 1, f⟩
def xB (f : Int) : S65 := ⟨2, 1, 1, 1, f⟩
theorem may_AB {f : Int} (h1 : 1 ≤ f) (h2 : f ≤ 1099511627775) : mayL ⟨1, 1, 2, 1, f⟩ = true ∧ mayL ⟨2, 1, 1, 1, f⟩ = true := by
  unfold mayL
  simp only [Bool.and_eq_true, decide_eq_true_eq]
  omega
/-- Two new ends and a new net, each in blocks of its own. -/
def FR (w : World) (f : Int) (gA mA gB mB gN : Nat) (w' : World) : Prop :=
  Below w.heap.size w w' ∧ LkAt w' gA (newL ⟨1, 1, 2, 1, f⟩) (.slice none 0 0) mA ∧ LkAt w' gB (newL ⟨2, 1, 1, 1, f⟩) (.slice none 0 0) mB ∧ ∃ a0 a1 b0 b1 c0 c1, NetW w' (fun k => c0 ≤ k ∧ k < c1) gN qz az ∧ ((a0 ≤ gA ∧ gA < a1) ∧ (a0 ≤ mA ∧ mA < a1) ∧ w.heap.size ≤ a0 ∧ a1 ≤ w'.heap.size) ∧ ((b0 ≤ gB ∧ gB < b1) ∧ (b0 ≤ mB ∧ mB < b1) ∧ w.heap.size ≤ b0 ∧ b1 ≤ w'.heap.size) ∧ (w.heap.size ≤ c0 ∧ c1 ≤ w'.heap.size) ∧ ((a1 ≤ b0 ∨ b1 ≤ a0) ∧ (a1 ≤ c0 ∨ c1 ≤ a0) ∧ (b1 ≤ c0 ∨ c1 ≤ b0))
theorem fr_mk {w wd W : World} {f : Int} {gA mA gB mB gN a0 a1 b0 b1 c0 c1 : Nat} (hd : Below w.heap.size w wd) (hB : Below wd.heap.size wd W) (kA : LkAt W gA (newL ⟨1, 1, 2, 1, f⟩) (.slice none 0 0) mA) (kB : LkAt W gB (newL ⟨2, 1, 1, 1, f⟩) (.slice none 0 0) mB) (kC : NetW W (fun k => c0 ≤ k ∧ k < c1) gN (List.replicate 256 []) (List.replicate 256 false))
    (hA : (a0 ≤ gA ∧ gA < a1) ∧ (a0 ≤ mA ∧ mA < a1) ∧ wd.heap.size ≤ a0 ∧ a1 ≤ W.heap.size) (hB2 : (b0 ≤ gB ∧ gB < b1) ∧ (b0 ≤ mB ∧ mB < b1) ∧ wd.heap.size ≤ b0 ∧ b1 ≤ W.heap.size) (hC : wd.heap.size ≤ c0 ∧ c1 ≤ W.heap.size) (hx : (a1 ≤ b0 ∨ b1 ≤ a0) ∧ (a1 ≤ c0 ∨ c1 ≤ a0) ∧ (b1 ≤ c0 ∨ c1 ≤ b0)) : FR w f gA mA gB mB gN W := by
  have := hd.size
  exact ⟨hd.trans (hB.mono hd.size), kA, kB, a0, a1, b0, b1, c0, c1, kC, ⟨hA.1, hA.2.1, by omega, hA.2.2.2⟩, ⟨hB2.1, hB2.2.1, by omega, hB2.2.2.2⟩, ⟨by omega, hC.2⟩, hx⟩
theorem hj_below {w wd W : World} {f : Int} {gA mA gB mB gN : Nat} {o : Obj} (hd : Below w.heap.size w wd) (hw : Below wd.heap.size wd W ∧ FR w f gA mA gB mB gN W) : Below wd.heap.size wd (W.alloc o) := below_alloc hw.1 o
def FreshOut (w : World) (f : Int) (e : Ending) (w' : World) : Prop := ∃ bx gN ga ma va sv gv ow, e = .returned (ptr bx) ∧ PS w w' bx gN ga ma va sv gv ow (freshL f)
/-- The pair is made. -/
theorem fresh_end {w wd W : World} {f : Int} {gA mA gB mB gN : Nat} (hw : Below wd.heap.size wd W ∧ FR w f gA mA gB mB gN W) :
    FreshOut w f (.returned (ptr W.heap.size)) (W.alloc (.cells #[ptr gA, ptr gB, ptr gN, .slice none 0 0, .slice none 0 0, .slice none 0 0, .slice none 0 0] 103 (0, 0))) := by
  obtain ⟨_, hb, kA, kB, a0, a1, b0, b1, c0, c1, kC, ⟨⟨hA1, hA2⟩, ⟨hA3, hA4⟩, hA5, hA6⟩, ⟨⟨hB1, hB2⟩, ⟨hB3, hB4⟩, hB5, hB6⟩, ⟨hC1, hC2⟩, hx1, hx2, hx3⟩ := hw
  obtain ⟨o, ho⟩ : ∃ o, o = Obj.cells #[ptr gA, ptr gB, ptr gN, .slice none 0 0, .slice none 0 0, .slice none 0 0, .slice none 0 0] 103 (0, 0) := ⟨_, rfl⟩
  rw [← ho]
  have hal := below_alloc (Below.refl W.heap.size W) o
  have hsz : (W.alloc o).heap.size = W.heap.size + 1 := by simp
  have hw0 := hb.size
  let ow : Nat → Nat := fun k => if a0 ≤ k ∧ k < a1 then 1 else if b0 ≤ k ∧ k < b1 then 2 else if c0 ≤ k ∧ k < c1 then 3 else if k = W.heap.size then 8 else 0
  have owA : ∀ k, a0 ≤ k → k < a1 → ow k = 1 := fun k h1 h2 => if_pos ⟨h1, h2⟩
  have owB : ∀ k, b0 ≤ k → k < b1 → ow k = 2 := fun k h1 h2 => (if_neg (by omega)).trans (if_pos ⟨h1, h2⟩)
  have owC : ∀ k, c0 ≤ k → k < c1 → ow k = 3 := fun k h1 h2 => (if_neg (by omega)).trans ((if_neg (by omega)).trans (if_pos ⟨h1, h2⟩))
  have owX : ow W.heap.size = 8 := (if_neg (by omega)).trans ((if_neg (by omega)).trans ((if_neg (by omega)).trans (if_pos rfl)))
  have owN : ∀ k, ow k ≠ 0 → w.heap.size ≤ k ∧ k < W.heap.size + 1 := by
    intro k hk
    by_cases h1 : a0 ≤ k ∧ k < a1
    · omega
    · by_cases h2 : b0 ≤ k ∧ k < b1
      · omega
      · by_cases h3 : c0 ≤ k ∧ k < c1
        · omega
        · by_cases h4 : k = W.heap.size
          · omega
          · exact absurd ((if_neg h1).trans ((if_neg h2).trans ((if_neg h3).trans (if_neg h4)))) hk
  refine ⟨W.heap.size, gN, fun i => if i = 0 then gA else gB, fun i => if i = 0 then mA else mB, fun _ => .slice none 0 0, fun _ => .slice none 0 0, fun _ => .slice none 0 0, ow, rfl, ⟨?_, ?_, ?_, ?_, ?_, ?_, owX, fun k hk => (owN k hk).1, fun k hk => ?_, hb.trans (hal.mono hb.size)⟩⟩
  · rw [ho]; exact blk_new W _
  · intro i hi
    rcases two_cases hi with rfl | rfl
    · exact kA.below hal
    · exact kB.below hal
  · show NetW _ _ _ (qOf [] []) az
    rw [qOf_new]
    exact (kC.below hal).mono (fun k _ hk => owC k hk.1 hk.2)
  · exact fun i hi => Kd.R_nil _ _ _ _ _
  · exact fun i hi => Kd.R_nil _ _ _ _ _
  · intro i hi k hk
    rcases two_cases hi with rfl | rfl
    · rcases hk with hk | hk | hk
      · have e : k = gA := hk; rw [e]; exact owA _ hA1 hA2
      · have e : k = mA := hk; rw [e]; exact owA _ hA3 hA4
      · cases hk
    · rcases hk with hk | hk | hk
      · have e : k = gB := hk; rw [e]; exact owB _ hB1 hB2
      · have e : k = mB := hk; rw [e]; exact owB _ hB3 hB4
      · cases hk
  · by_cases h : ow k = 0
    · exact h
    · have := (owN k h).2; omega
theorem boxes2L (w : World) (o1 o2 : Obj) : ∃ wq, wq = (w.alloc o1).alloc o2 ∧ Below w.heap.size w wq ∧ wq.heap[w.heap.size]? = some o1 ∧ wq.heap[w.heap.size + 1]? = some o2 := by
  refine ⟨_, rfl, below_alloc (below_alloc (Below.refl _ _) o1) o2, blk_alloc (blk_new w o1) o2, ?_⟩
  have hn := blk_new (w.alloc o1) o2
  rwa [show (w.alloc o1).heap.size = w.heap.size + 1 by simp] at hn
set_option maxHeartbeats 16000000 in
theorem fresh_is (w : World) (f : Int) (h1 : 1 ≤ f) (h2 : f ≤ 1099511627775) : Calls Try.prog 54 #[.int .i64 f] w (FreshOut w f) := by
  have hu65 := Try.underlying65
  have HMA := Aside0.mk (may_AB h1 h2).1
  have HMB := Aside0.mk (may_AB h1 h2).2
  have HE := Aside0.mk (show caduceuslaw13_ends.f f = some (1, 1, 2, 1, f, 2, 1, 1, 1, f) from rfl)
  go_enter Try.func54, Try.ntmps54
  go_wp2_with (first
    | ((with_reducible refine gate_dst (N := 7) rfl ?_); refine goesL_ (some 7) rfl rfl Try.func34 (by kernel_rfl) rfl #[.int .i64 f] rfl (by first | (simp only [List.map_toArray, List.map_cons, List.map_nil]; rfl) | rfl) ?_; refine (caduceuslaw13_ends.calls f 1 1 2 1 f 2 1 1 1 f _ HE.out).mono ?_; rintro e w5 ⟨rfl, hb⟩; have HB5 := Aside0.mk hb; clear hb; refine ⟨_, rfl, ?_⟩))
  obtain ⟨wq, hwq, hBq, hA, hB⟩ : ∃ wq, wq = (w5.alloc (.cells #[.int .i64 1, .int .i64 1, .int .i64 2, .int .i64 1, .int .i64 f] 65 (0, 0))).alloc (.cells #[.int .i64 2, .int .i64 1, .int .i64 1, .int .i64 1, .int .i64 f] 65 (0, 0)) ∧ Below w5.heap.size w5 wq ∧ wq.heap[w5.heap.size]? = some (.cells #[.int .i64 1, .int .i64 1, .int .i64 2, .int .i64 1, .int .i64 f] 65 (0, 0)) ∧ wq.heap[w5.heap.size + 1]? = some (.cells #[.int .i64 2, .int .i64 1, .int .i64 1, .int .i64 1, .int .i64 f] 65 (0, 0)) := boxes2L w5 _ _
  rw [← hwq]
  obtain ⟨wd, hwd⟩ : ∃ wd, wd = wq.drew := ⟨_, rfl⟩
  have HWD := Aside0.mk hwd
  have HBd := Aside0.mk (show Below w.heap.size w wd by rw [hwd]; exact below_drew1 (HB5.out.trans (hBq.mono HB5.out.size)))
  have HEA := Aside0.mk (show wd.heap[w5.heap.size]? = some (.cells #[.int .i64 1, .int .i64 1, .int .i64 2, .int .i64 1, .int .i64 f] 65 (0, 0)) by rw [hwd]; exact hA)
  have HEB := Aside0.mk (show wd.heap[w5.heap.size + 1]? = some (.cells #[.int .i64 2, .int .i64 1, .int .i64 1, .int .i64 1, .int .i64 f] 65 (0, 0)) by rw [hwd]; exact hB)
  clear hwq hBq hA hB hwd
  refine start_ (n := 9) (S := fun w' => Below wd.heap.size wd w') (ds := []) #[false, false, false, false, false, false, false, false, false] (by kernel_rfl) rfl rfl (by rw [HWD.out]; exact Below.refl _ _) (fun hHeld => ?_)
  rw [← HWD.out] at hHeld ⊢
  refine take_ (i := 0) (N := some 10) (v := ?_) (a' := ?_) #[true, false, false, false, false, false, false, false, false] rfl rfl (by kernel_rfl) (fun _ _ _ h => h) (Or.inl ⟨by rfl, ?_⟩) hHeld ?_ ?_
  rotate_left
  · intro w' hS
    have y0 : w'.cell? ⟨w5.heap.size, 0, none⟩ = some (.int .i64 1) := (blk_cell (keepB HEA.out hS) 0).trans rfl
    have y1 : w'.cell? ⟨w5.heap.size, 1, none⟩ = some (.int .i64 1) := (blk_cell (keepB HEA.out hS) 1).trans rfl
    have y2 : w'.cell? ⟨w5.heap.size, 2, none⟩ = some (.int .i64 2) := (blk_cell (keepB HEA.out hS) 2).trans rfl
    have y3 : w'.cell? ⟨w5.heap.size, 3, none⟩ = some (.int .i64 1) := (blk_cell (keepB HEA.out hS) 3).trans rfl
    have y4 : w'.cell? ⟨w5.heap.size, 4, none⟩ = some (.int .i64 f) := (blk_cell (keepB HEA.out hS) 4).trans rfl
    go_simp; with_reducible rfl
  rotate_left
  · simp only [Act.put, List.setIfInBounds_toArray, List.set_cons_zero, List.set_cons_succ, i64_w, i32_w]; rfl
  refine take_ (i := 2) (N := some 12) (v := ?_) (a' := ?_) #[true, false, true, false, false, false, false, false, false] rfl rfl (by kernel_rfl) (fun _ _ _ h => h) (Or.inl ⟨by rfl, ?_⟩) hHeld ?_ ?_
  rotate_left
  · intro w' hS
    have y0 : w'.cell? ⟨w5.heap.size + 1, 0, none⟩ = some (.int .i64 2) := (blk_cell (keepB HEB.out hS) 0).trans rfl
    have y1 : w'.cell? ⟨w5.heap.size + 1, 1, none⟩ = some (.int .i64 1) := (blk_cell (keepB HEB.out hS) 1).trans rfl
    have y2 : w'.cell? ⟨w5.heap.size + 1, 2, none⟩ = some (.int .i64 1) := (blk_cell (keepB HEB.out hS) 2).trans rfl
    have y3 : w'.cell? ⟨w5.heap.size + 1, 3, none⟩ = some (.int .i64 1) := (blk_cell (keepB HEB.out hS) 3).trans rfl
    have y4 : w'.cell? ⟨w5.heap.size + 1, 4, none⟩ = some (.int .i64 f) := (blk_cell (keepB HEB.out hS) 4).trans rfl
    go_simp; with_reducible rfl
  rotate_left
  · simp only [Act.put, List.setIfInBounds_toArray, List.set_cons_zero, List.set_cons_succ, i64_w, i32_w]; rfl
  refine one_ (i := 1) (N := some 11) #[true, true, true, false, false, false, false, false, false] rfl rfl (by kernel_rfl) (by decide) (fun K hK => ?_)
  refine goes_ Try.func35 (by kernel_rfl) rfl #[.agg #[.int .i64 1, .int .i64 1, .int .i64 2, .int .i64 1, .int .i64 f]] (by rfl) rfl rfl (by first | rfl | (simp only [List.map_toArray, List.map_cons, List.map_nil]; rfl)) ?_
  refine (new_yes wd ⟨1, 1, 2, 1, f⟩ HMA.out).mono ?_
  rintro e W1 ⟨gA, mA, rfl, kA1, lgA, lmA, hb1⟩
  have ugA := kA1.lt
  have umA := kA1.er.lt
  have hB1 : Below wd.heap.size wd W1 := hb1
  have z1 := hb1.size
  refine ⟨_, rfl, hK.out _ _ hB1 (fun hHeld => ?_)⟩
  clear hK K
  refine norm_ (a' := ?_) ?_ ?_
  rotate_left
  · show Act.put _ (some 11) _ = _
    simp only [Act.put, List.setIfInBounds_toArray, List.set_cons_zero, List.set_cons_succ, i64_w, i32_w]
    rfl
  refine one_ (i := 3) (N := some 13) #[true, true, true, true, false, false, false, false, false] rfl rfl (by kernel_rfl) (by decide) (fun K hK => ?_)
  refine goes_ Try.func35 (by kernel_rfl) rfl #[.agg #[.int .i64 2, .int .i64 1, .int .i64 1, .int .i64 1, .int .i64 f]] (by rfl) rfl rfl (by first | rfl | (simp only [List.map_toArray, List.map_cons, List.map_nil]; rfl)) ?_
  refine (new_yes W1 ⟨2, 1, 1, 1, f⟩ HMB.out).mono ?_
  rintro e W2 ⟨gB, mB, rfl, kB2, lgB, lmB, hb2⟩
  have ugB := kB2.lt
  have umB := kB2.er.lt
  have kA2 := kA1.below hb2
  have hB2 : Below wd.heap.size wd W2 := hB1.trans (hb2.mono hB1.size)
  have z2 := hb2.size
  refine ⟨_, rfl, hK.out _ _ hB2 (fun hHeld => ?_)⟩
  clear hK K
  refine norm_ (a' := ?_) ?_ ?_
  rotate_left
  · show Act.put _ (some 13) _ = _
    simp only [Act.put, List.setIfInBounds_toArray, List.set_cons_zero, List.set_cons_succ, i64_w, i32_w]
    rfl
  refine pure_ (i := 4) (N := some 14) (v := ?_) (a' := ?_) #[true, true, true, true, true, false, false, false, false] rfl rfl (by kernel_rfl) (fun _ _ _ h => h) (Or.inl ⟨by rfl, ?_⟩) ?_ ?_
  rotate_left
  · intro w'; go_simp; with_reducible rfl
  rotate_left
  · simp only [Act.put, List.setIfInBounds_toArray, List.set_cons_zero, List.set_cons_succ, i64_w, i32_w]; rfl
  refine one_ (i := 5) (N := some 15) #[true, true, true, true, true, true, false, false, false] rfl rfl (by kernel_rfl) (by decide) (fun K hK => ?_)
  refine goes_ Try.func15 (by kernel_rfl) rfl #[] (by rfl) rfl rfl (by simp) ?_
  refine (new_net W2).mono ?_
  rintro e W3 ⟨rfl, kC3, hb3⟩
  have kA3 := kA2.below hb3
  have kB3 := kB2.below hb3
  have hB3 : Below wd.heap.size wd W3 := hB2.trans (hb3.mono hB2.size)
  have z3 := hb3.size
  refine ⟨_, rfl, hK.out _ _ hB3 (fun hHeld => ?_)⟩
  clear hK K
  refine norm_ (a' := ?_) ?_ ?_
  rotate_left
  · show Act.put _ (some 15) _ = _
    simp only [Act.put, List.setIfInBounds_toArray, List.set_cons_zero, List.set_cons_succ, i64_w, i32_w]
    rfl
  refine pure_ (i := 6) (N := some 16) (v := ?_) (a' := ?_) #[true, true, true, true, true, true, true, false, false] rfl rfl (by kernel_rfl) (fun _ _ _ h => h) (Or.inl ⟨by rfl, ?_⟩) ?_ ?_
  rotate_left
  · intro w'; go_simp; with_reducible rfl
  rotate_left
  · simp only [Act.put, List.setIfInBounds_toArray, List.set_cons_zero, List.set_cons_succ, i64_w, i32_w]; rfl
  have HJ := Aside0.mk (show Below wd.heap.size wd W3 ∧ FR w f gA mA gB mB W2.heap.size W3 from ⟨hB3, fr_mk (gA := gA) (mA := mA) (gB := gB) (mB := mB) (a0 := wd.heap.size) (a1 := W1.heap.size) (b0 := W1.heap.size) (b1 := W2.heap.size) (c0 := W2.heap.size) (c1 := W3.heap.size) HBd.out hB3 kA3 kB3 kC3 (by omega) (by omega) (by omega) (by omega)⟩)
  refine one_ (i := 7) (N := some 17) #[true, true, true, true, true, true, true, true, false] rfl rfl (by kernel_rfl) (by decide) (fun K hK => ?_)
  refine event_step (v := ptr W3.heap.size) (w1 := W3.alloc (.cells #[ptr gA, ptr gB, ptr W2.heap.size, .slice none 0 0, .slice none 0 0, .slice none 0 0, .slice none 0 0] 103 (0, 0))) (by rfl) (by first | (go_simp; done) | (go_simp; rfl)) ?_
  refine hK.out _ _ (hj_below HBd.out HJ.out) (fun hHeld => ?_)
  clear hK K
  refine norm_ (a' := ?_) ?_ ?_
  rotate_left
  · show Act.put _ (some 17) _ = _
    simp only [Act.put, List.setIfInBounds_toArray, List.set_cons_zero, List.set_cons_succ, i64_w, i32_w]
    rfl
  refine pure_ (i := 8) (N := some 2) (v := ?_) (a' := ?_) #[true, true, true, true, true, true, true, true, true] rfl rfl (by kernel_rfl) (fun _ _ _ h => h) (Or.inl ⟨by rfl, ?_⟩) ?_ ?_
  rotate_left
  · intro w'; go_simp; with_reducible rfl
  rotate_left
  · simp only [Act.put, List.setIfInBounds_toArray, List.set_cons_zero, List.set_cons_succ, i64_w, i32_w]; rfl
  refine done_ (by kernel_rfl) ?_
  go_wp2
  go_ret
  exact fresh_end HJ.out
end Go.Proofs.Ytdibaeomepallaa.LK
