/- A packet comes to an end of the pair (pair.come). By hand. -/
import Derived.Test.YtdibaeomepallaaLk
namespace Go.Proofs.Ytdibaeomepallaa.LK
open Go.RowKit Go.Proofs.YtdibaeomepallaaW.PrintWords Go.Proofs.YtdibaeomepallaaW.PrintLast Go.Proofs.YtdibaeomepallaaW.PrintMore Go.Proofs.Ytdibaeomepallaa.PAll Go.Proofs.Ytdibaeomepallaa.NW
set_option linter.unusedVariables false
set_option linter.unusedSimpArgs false
set_option maxRecDepth 100000
theorem R_append_strings {P : Program} {ops : Array Oper} {o : Oper} {a : Act} {Q : Exit → Act → World → Prop} {Kc : Act → World → Prop} {W : World} (hw : Region.wanted o (yielded ops a.tmps) = true) (s x : Operand) (t : TypeId)
    (ho : o.op = .call { callee := .builtin .append, args := #[s, x], argTypes := #[t, t] })
    (ht : P.underlying t = some (.slice 9)) (hinfo : (P.info? 9).map (fun i => (i.zero, i.size, i.bytes)) = some (some (.string ⟨#[]⟩), 1, 16))
    (v : Value) (xs ys : List ByteArray) (A : Option Addr) (m c : Nat) (ok : Nat → Prop) (hs : a.eval s = v) (hx : a.eval x = .slice A m c) (hfresh : ∀ k, W.heap.size ≤ k → ok k)
    (HO : Kd.string.R 9 W 0 ok v xs) (HR : Kd.string.C W A m ys) (hl : xs.length + m ≤ 1000000)
    (h : ∀ v1 w1, Kd.string.R 9 w1 0 ok v1 (xs ++ ys) → W.grownBy w1 v.ownBlock → Kc (a.put o.dst v1) w1) : if Region.wanted o (yielded ops a.tmps) = true then Oper.wp P o a W Kc Q else Kc (a.put o.dst undef) W :=
  Kd.R_append_rows_step Kd.string (Rr := Kd.string.K W) (w0 := W) 0 hw s x t 9 (.string ⟨#[]⟩) 16 ho ht hinfo rfl (by decide) (by decide) v xs ys A m c ok (fun _ => False) hs hx HO HR (fun _ _ hk => hk) (fun _ hk => hk.elim) hfresh (Below.refl 0 W) (Nat.zero_le _) (by omega) (fun v1 w1 h1 _ h2 _ => h v1 w1 h1 h2)
section
variable {w0 w : World} {bx gN : Nat} {ga ma : Nat → Nat} {va sv gv : Nat → Value} {ow : Nat → Nat} {S : Nat → Sd}
theorem hop_of {i : Nat} (hi : i < 2) (r0 r1 : List Pk) : hopB (2 - (i : Int)) (1 + (i : Int)) = true ∧ NW.rowAt (qOf r0 r1) (2 - (i : Int)) (1 + (i : Int)) = (if i = 0 then r0 else r1) ∧ ∀ x, (qOf r0 r1).set (at2 (2 - (i : Int)) (1 + (i : Int))) x = (if i = 0 then qOf x r1 else qOf r0 x) := by
  rcases two_cases hi with rfl | rfl
  · exact ⟨hop12.2, rowAt_0 r0 r1, qOf_set33 r0 r1⟩
  · exact ⟨hop12.1, rowAt_1 r0 r1, qOf_set18 r0 r1⟩
theorem rowAt_of {i : Nat} (hi : i < 2) : NW.rowAt (qOf (S 0).row (S 1).row) (2 - (i : Int)) (1 + (i : Int)) = (S i).row := by
  rw [(hop_of hi _ _).2.1]
  rcases two_cases hi with rfl | rfl <;> rfl
theorem setq_of {i : Nat} (hi : i < 2) (X : Sd) : (qOf (S 0).row (S 1).row).set (at2 (2 - (i : Int)) (1 + (i : Int))) X.row = qOf (upd S i X 0).row (upd S i X 1).row := by
  rw [(hop_of hi _ _).2.2]
  rcases two_cases hi with rfl | rfl <;> rfl
/-- What the net gives of the k-th packet to i. -/
theorem take_of {i : Nat} (hi : i < 2) (k : Nat) : match (S i).row[k]? with
    | none => takeE (qOf (S 0).row (S 1).row) az (2 - (i : Int)) (1 + (i : Int)) k = 4 ∧ takeQ (qOf (S 0).row (S 1).row) az (2 - (i : Int)) (1 + (i : Int)) k = qOf (S 0).row (S 1).row ∧ takeP (qOf (S 0).row (S 1).row) az (2 - (i : Int)) (1 + (i : Int)) k = pk0
    | some p => takeE (qOf (S 0).row (S 1).row) az (2 - (i : Int)) (1 + (i : Int)) k = 0 ∧ takeQ (qOf (S 0).row (S 1).row) az (2 - (i : Int)) (1 + (i : Int)) k = qOf (popS S i k 0).row (popS S i k 1).row ∧ takeP (qOf (S 0).row (S 1).row) az (2 - (i : Int)) (1 + (i : Int)) k = p := by
  obtain ⟨hb, _, _⟩ := hop_of hi (S 0).row (S 1).row
  have hrow := rowAt_of (S := S) hi
  have hset := setq_of (S := S) hi (popR (S i) k)
  cases hk : (S i).row[k]? with
  | none =>
    have hl : (S i).row.length ≤ k := List.getElem?_eq_none_iff.1 hk
    have ht : thereE (qOf (S 0).row (S 1).row) (2 - (i : Int)) (1 + (i : Int)) k = 4 := by unfold thereE; rw [if_pos hb, hrow, if_pos (.inr (by omega))]
    have hE : takeE (qOf (S 0).row (S 1).row) az (2 - (i : Int)) (1 + (i : Int)) k = 4 := by unfold takeE; rw [ht, if_neg (by decide)]
    exact ⟨hE, by unfold takeQ; rw [hE, if_neg (by decide)], by unfold takeP; rw [hE, if_neg (by decide)]⟩
  | some p =>
    have hl : k < (S i).row.length := (List.getElem?_eq_some_iff.1 hk).1
    have ht : thereE (qOf (S 0).row (S 1).row) (2 - (i : Int)) (1 + (i : Int)) k = 0 := by unfold thereE; rw [if_pos hb, hrow, if_neg (by omega)]
    have hE : takeE (qOf (S 0).row (S 1).row) az (2 - (i : Int)) (1 + (i : Int)) k = 0 := by unfold takeE; rw [if_pos ht, cut_az]; rfl
    refine ⟨hE, ?_, ?_⟩
    · unfold takeQ; rw [if_pos hE]; unfold delQ; rw [hrow, Int.toNat_natCast]; exact hset
    · unfold takeP; rw [if_pos hE, hrow, Int.toNat_natCast, List.getD_eq_getElem?_getD, hk]; rfl
theorem popS_same {i : Nat} (hi : i < 2) (k : Nat) : ∀ j, j < 2 → (popS S i k j).l = (S j).l ∧ (popS S i k j).sent = (S j).sent ∧ (popS S i k j).got = (S j).got :=
  by_two hi (by rw [(popS_at hi k).1]; exact ⟨rfl, rfl, rfl⟩) (by rw [(popS_at hi k).2]; exact ⟨rfl, rfl, rfl⟩)
theorem PS.tmp {w' : World} (h : PS w0 w bx gN ga ma va sv gv ow S) {b : Nat} (hb : ow b = 0) (hlo : w0.heap.size ≤ b) (hm : Mods (fun k => k = b) w w') (hs : w'.heap.size = w.heap.size) : PS w0 w' bx gN ga ma va sv gv ow S := by
  have ne : ∀ {k t : Nat}, ow k = t → t ≠ 0 → k ≠ b := fun hk ht e => ht (by rw [← hk, e, hb])
  exact ⟨(hm.block _ h.bxlt (ne h.obx (by decide))).trans h.box, fun i hi => (h.lk i hi).mods hm (fun k hk => ne (h.olk i hi k hk) (by omega)), h.net.mods hm (fun k _ hk => ne hk (by decide)), fun i hi => Kd.R_step (h.sent i hi) (fun k hk hlt => hm.block k hlt (ne hk (by omega))), fun i hi => Kd.R_step (h.got i hi) (fun k hk hlt => hm.block k hlt (ne hk (by omega))), h.olk, h.obx, h.low, fun k hk => h.new k (by omega), h.below.trans (hm.below h.below.size (fun k hk => by rw [hk]; exact hlo))⟩
theorem takeN_is {F : Nat → Prop} {q q' : List (List Pk)} {a b k E : Int} {P : Pk} (hn : NetW w F gN q az) (hc : cnt q ≤ 1000) (hE : takeE q az a b k = E) (hP : takeP q az a b k = P) (hQ : takeQ q az a b k = q') :
    Calls Try.prog 24 #[ptr gN, .agg #[.int .i64 a, .int .i64 b], .int .i64 k] w fun e w' => e = .returned (.tuple #[.agg (pk P).toArray, .int .i64 E]) ∧ NetW w' (NW.grow F w w') gN q' az ∧ Mods F w w' := by
  subst hE hP hQ
  exact NW.take_is hn hc a b k
def zP : Array Value := #[.int .i64 0, .int .i64 0, .int .i64 0, .int .i64 0, .int .i64 0, .int .i64 0, .string ⟨#[]⟩]
/-- Behind the net's Take, with a box of its own for the packet. -/
def CJ (w0 : World) (bx gN : Nat) (ga ma : Nat → Nat) (va sv gv : Nat → Value) (S1 : Nat → Sd) (b : Nat) (w' : World) : Prop := ∃ ow', PS w0 w' bx gN ga ma va sv gv ow' S1 ∧ w'.heap[b]? = some (.cells zP 28 (0, 0)) ∧ ow' b = 0 ∧ w0.heap.size ≤ b
/-- What coming leaves. -/
def ComeOut (w0 : World) (bx gN : Nat) (ga ma : Nat → Nat) (sv : Nat → Value) (S : Nat → Sd) (e : Ending) (w' : World) : Prop := e = .returned (.bool true) ∧ ∃ va' gv' ow', PS w0 w' bx gN ga ma va' sv gv' ow' S
theorem RowP.stay {w w' : World} {ok ok' : Nat → Prop} {A : Option Addr} {c : Nat} {xs : List Pk} (h : RowP w ok A c xs) (hm : ∀ k, ok k → k < w.heap.size → w'.heap[k]? = w.heap[k]?) (hk : ∀ k, ok k → k < w.heap.size → ok' k) : RowP w' ok' A c xs :=
  ⟨Kd.F_mono (Kd.F_step (Kd.F_bound h.1) (fun k hk hlt => hm k hk.1 hlt)) (fun k h2 => hk k h2.1 h2.2), h.2⟩
theorem upd_upd {α : Type} (S : Nat → α) (i : Nat) (X Y : α) : upd (upd S i X) i Y = upd S i Y := by
  funext j
  by_cases e : j = i
  · subst e; rw [upd_same, upd_same]
  · rw [upd_ne _ _ e, upd_ne _ _ e, upd_ne _ _ e]
/-- The row of packets of an act of the end i stays while that end's texts are appended. -/
theorem RowP.got {w w1 : World} {i : Nat} {A : Option Addr} {c : Nat} {xs : List Pk} {v1 : Value} (h : PS w0 w bx gN ga ma va sv gv ow S) (hi : i < 2) (hr : RowP w (fun k => ow k = 1 + i) A c xs) (hg : w.grownBy w1 (gv i).ownBlock) :
    RowP (w1.setCell ⟨bx, 5 + i, none⟩ v1) (fun k => tg ow w w1 (6 + i) k ≠ 3) A c xs := by
  refine hr.stay (fun k hk hlt => ?_) (fun k hk hlt => by rw [tg_old hlt, hk]; omega)
  rw [Below.heap_setCell _ _ _ _ (fun e => by rw [e, h.obx] at hk; omega)]
  exact hg.block k hlt (fun e => by have := (h.got i hi).1 k e.symm; omega)
set_option maxHeartbeats 8000000 in
theorem come_is {f : Int} (h : PS w0 w bx gN ga ma va sv gv ow S) (hg : Good f S) (hsl : ∀ i, i < 2 → (S i).sent.length ≤ 1000) {i : Nat} (hi : i < 2) {iv : Int} (hiv : iv = i) (k : Nat) :
    Calls Try.prog 56 #[ptr bx, .int .i64 iv, .int .i64 k] w (ComeOut w0 bx gN ga ma sv (comeS S i k)) := by
  have hu32 := Try.underlying32
  have hu28 := Try.underlying28
  obtain ⟨E, P, S1, hE, hP, hQ, hS1, hcase⟩ : ∃ E P S1, takeE (qOf (S 0).row (S 1).row) az (2 - iv) (1 + iv) k = E ∧ takeP (qOf (S 0).row (S 1).row) az (2 - iv) (1 + iv) k = P ∧ takeQ (qOf (S 0).row (S 1).row) az (2 - iv) (1 + iv) k = qOf (S1 0).row (S1 1).row ∧ (∀ j, j < 2 → (S1 j).l = (S j).l ∧ (S1 j).sent = (S j).sent ∧ (S1 j).got = (S j).got) ∧ ((E = 4 ∧ comeS S i k = S1) ∨ (E = 0 ∧ (S i).row[k]? = some P ∧ S1 = popS S i k)) := by
    rw [hiv]
    have hT := take_of (S := S) hi k
    cases hk : (S i).row[k]? with
    | none =>
      rw [hk] at hT
      exact ⟨_, _, S, hT.1, hT.2.2, hT.2.1, fun j hj => ⟨rfl, rfl, rfl⟩, .inl ⟨rfl, by unfold comeS; rw [hk]⟩⟩
    | some p =>
      rw [hk] at hT
      exact ⟨_, _, popS S i k, hT.1, hT.2.2, hT.2.1, popS_same hi k, .inr ⟨rfl, rfl, rfl⟩⟩
  have HE := Aside0.mk hE
  have HP_ := Aside0.mk hP
  have HQ := Aside0.mk hQ
  have HS1 := Aside0.mk hS1
  have HI := Aside0.mk hi
  have HG := Aside0.mk hg
  have HIV := Aside0.mk hiv
  have HC := Aside0.mk (show cnt (qOf (S 0).row (S 1).row) ≤ 1000 by rw [qOf_cnt]; have := hg.inv.cap; omega)
  have i0 : 0 ≤ iv := by omega
  have i1 : iv ≤ 1 := by omega
  have HP := Aside0.mk h
  obtain ⟨w1, hw1, hB1, hb1, hs1⟩ := alloc1 w (.cells #[.int .i64 (2 - iv), .int .i64 (1 + iv)] 32 (0, 0))
  have HW := Aside0.mk hw1
  have HPd := Aside0.mk (h.bel (hB1.trans (below_drew1 (Below.refl _ _))))
  have HH := Aside0.mk (blk_drew hb1)
  have HH0 := Aside0.mk (h.new w.heap.size (Nat.le_refl _))
  clear h hE hP hQ hS1 hg hi hiv hw1 hB1 hb1 hs1
  go_enter Try.func56, Try.ntmps56
  go_wp2
  rw [← HW.out]
  have b2 : w1.drew.cell? ⟨bx, 2, none⟩ = some (ptr gN) := (blk_cell HPd.out.box 2).trans rfl
  have h0 : w1.drew.cell? ⟨w.heap.size, 0, none⟩ = some (.int .i64 (2 - iv)) := (blk_cell HH.out 0).trans rfl
  have h1 : w1.drew.cell? ⟨w.heap.size, 1, none⟩ = some (.int .i64 (1 + iv)) := (blk_cell HH.out 1).trans rfl
  refine start_ (n := 13) (S := fun w' => w'.cell? ⟨bx, 2, none⟩ = some (ptr gN) ∧ w'.cell? ⟨w.heap.size, 0, none⟩ = some (.int .i64 (2 - iv)) ∧ w'.cell? ⟨w.heap.size, 1, none⟩ = some (.int .i64 (1 + iv))) (ds := [11]) #[false, false, false, false, false, false, false, false, false, false, false, false, false] (by kernel_rfl) rfl rfl ⟨b2, h0, h1⟩ (fun hHeld => ?_)
  refine pure_ (i := 0) (N := some 19) (v := ?_) (a' := ?_) #[true, false, false, false, false, false, false, false, false, false, false, false, false] rfl rfl (by kernel_rfl) (fun _ _ _ h => h) (Or.inl ⟨by rfl, ?_⟩) ?_ ?_
  rotate_left
  · intro w'; go_simp; with_reducible rfl
  rotate_left
  · simp only [Act.put, List.setIfInBounds_toArray, List.set_cons_zero, List.set_cons_succ, i64_w, i32_w]; rfl
  refine pure_ (i := 1) (N := some 20) (v := ?_) (a' := ?_) #[true, true, false, false, false, false, false, false, false, false, false, false, false] rfl rfl (by kernel_rfl) (fun _ _ _ h => h) (Or.inl ⟨by rfl, ?_⟩) ?_ ?_
  rotate_left
  · intro w'; go_simp; with_reducible rfl
  rotate_left
  · simp only [Act.put, List.setIfInBounds_toArray, List.set_cons_zero, List.set_cons_succ, i64_w, i32_w]; rfl
  refine pure_ (i := 2) (N := some 21) (v := ?_) (a' := ?_) #[true, true, true, false, false, false, false, false, false, false, false, false, false] rfl rfl (by kernel_rfl) (fun _ _ _ h => h) (Or.inl ⟨by rfl, ?_⟩) ?_ ?_
  rotate_left
  · intro w'; go_simp; with_reducible rfl
  rotate_left
  · simp only [Act.put, List.setIfInBounds_toArray, List.set_cons_zero, List.set_cons_succ, i64_w, i32_w]; rfl
  refine take_ (i := 3) (N := some 22) (v := ?_) (a' := ?_) #[true, true, true, true, false, false, false, false, false, false, false, false, false] rfl rfl (by kernel_rfl) (fun _ _ _ h => h) (Or.inl ⟨by rfl, ?_⟩) hHeld ?_ ?_
  rotate_left
  · rintro w' ⟨s0, s1, s2⟩; go_simp; with_reducible rfl
  rotate_left
  · simp only [Act.put, List.setIfInBounds_toArray, List.set_cons_zero, List.set_cons_succ, i64_w, i32_w]; rfl
  refine take_ (i := 4) (N := some 23) (v := ?_) (a' := ?_) #[true, true, true, true, true, false, false, false, false, false, false, false, false] rfl rfl (by kernel_rfl) (fun _ _ _ h => h) (Or.inl ⟨by rfl, ?_⟩) hHeld ?_ ?_
  rotate_left
  · rintro w' ⟨s0, s1, s2⟩; go_simp; with_reducible rfl
  rotate_left
  · simp only [Act.put, List.setIfInBounds_toArray, List.set_cons_zero, List.set_cons_succ, i64_w, i32_w]; rfl
  refine pure_ (i := 5) (N := some 24) (v := ?_) (a' := ?_) #[true, true, true, true, true, true, false, false, false, false, false, false, false] rfl rfl (by kernel_rfl) (fun _ _ _ h => h) (Or.inl ⟨by rfl, ?_⟩) ?_ ?_
  rotate_left
  · intro w'; go_simp; with_reducible rfl
  rotate_left
  · simp only [Act.put, List.setIfInBounds_toArray, List.set_cons_zero, List.set_cons_succ, i64_w, i32_w]; rfl
  clear b2 h0 h1
  refine join_ (σ := Nat) 2 #[true, true, true, true, true, true, true, true, true, true, true, false, false] (fun b => [(25, .tuple #[.agg (pk P).toArray, .int .i64 E]), (18, .tuple #[.agg (pk P).toArray, .int .i64 E]), (26, .agg (pk P).toArray), (27, .int .i64 E), (8, ptr b)]) (fun b w' => CJ w0 bx gN ga ma va sv gv S1 b w') ?_ ?_
  rotate_left
  · intro hcont
    have HCO := Aside0.mk hcont
    clear hcont
    refine two_ (i := 6) (j := 10) (Ni := some 25) (Nj := some 8) #[true, true, true, true, true, true, true, false, false, false, false, false, false] #[true, true, true, true, true, true, false, false, false, false, true, false, false] rfl rfl rfl rfl (by kernel_rfl) (by decide) (by decide) (fun K hK => ?_) (fun K hK => ?_)
    · skip
      skip
      refine goes_ Try.func24 (by kernel_rfl) rfl #[ptr gN, .agg #[.int .i64 (2 - iv), .int .i64 (1 + iv)], .int .i64 k] (by rfl) rfl rfl (by first | rfl | (simp only [List.map_toArray, List.map_cons, List.map_nil]; rfl)) ?_
      refine (takeN_is HPd.out.net HC.out HE.out HP_.out HQ.out).mono ?_
      rintro e W2 ⟨rfl, hn2, hm2⟩
      have HP2 := Aside0.mk (HPd.out.netAct (S' := S1) hn2 hm2 rfl HS1.out)
      have HH2 := Aside0.mk ((hm2.block _ (blk_lt HH.out) (fun e => by rw [HH0.out] at e; cases e)).trans HH.out)
      clear hn2 hm2
      have b2 : W2.cell? ⟨bx, 2, none⟩ = some (ptr gN) := (blk_cell HP2.out.box 2).trans rfl
      have h0 : W2.cell? ⟨w.heap.size, 0, none⟩ = some (.int .i64 (2 - iv)) := (blk_cell HH2.out 0).trans rfl
      have h1 : W2.cell? ⟨w.heap.size, 1, none⟩ = some (.int .i64 (1 + iv)) := (blk_cell HH2.out 1).trans rfl
      refine ⟨_, rfl, hK.out _ _ ⟨b2, h0, h1⟩ (fun hHeld => ?_)⟩
      clear hK K b2 h0 h1
      refine norm_ (a' := ?_) ?_ ?_
      rotate_left
      · show Act.put _ (some 25) _ = _
        simp only [Act.put, List.setIfInBounds_toArray, List.set_cons_zero, List.set_cons_succ, i64_w, i32_w]
        rfl
      refine pure_ (i := 7) (N := some 18) (v := ?_) (a' := ?_) #[true, true, true, true, true, true, true, true, false, false, false, false, false] rfl rfl (by kernel_rfl) (fun _ _ _ h => h) (Or.inl ⟨by rfl, ?_⟩) ?_ ?_
      rotate_left
      · intro w'; go_simp; with_reducible rfl
      rotate_left
      · simp only [Act.put, List.setIfInBounds_toArray, List.set_cons_zero, List.set_cons_succ, i64_w, i32_w]; rfl
      refine pure_ (i := 8) (N := some 26) (v := ?_) (a' := ?_) #[true, true, true, true, true, true, true, true, true, false, false, false, false] rfl rfl (by kernel_rfl) (fun _ _ _ h => h) (Or.inl ⟨by rfl, ?_⟩) ?_ ?_
      rotate_left
      · intro w'; go_simp; with_reducible rfl
      rotate_left
      · simp only [Act.put, List.setIfInBounds_toArray, List.set_cons_zero, List.set_cons_succ, i64_w, i32_w]; rfl
      refine pure_ (i := 9) (N := some 27) (v := ?_) (a' := ?_) #[true, true, true, true, true, true, true, true, true, true, false, false, false] rfl rfl (by kernel_rfl) (fun _ _ _ h => h) (Or.inl ⟨by rfl, ?_⟩) ?_ ?_
      rotate_left
      · intro w'; go_simp; with_reducible rfl
      rotate_left
      · simp only [Act.put, List.setIfInBounds_toArray, List.set_cons_zero, List.set_cons_succ, i64_w, i32_w]; rfl
      refine one_ (i := 10) (N := some 8) #[true, true, true, true, true, true, true, true, true, true, true, false, false] rfl rfl (by kernel_rfl) (by decide) (fun K hK => ?_)
      refine event_step (v := ptr W2.heap.size) (w1 := W2.alloc (.cells zP 28 (0, 0))) (by rfl) (by first | (go_simp; done) | (go_simp; rfl)) ?_
      have HP3 := Aside0.mk (HP2.out.alloc (.cells zP 28 (0, 0)))
      have HH3 := Aside0.mk (blk_alloc HH2.out (.cells zP 28 (0, 0)))
      have b2 : (W2.alloc (.cells zP 28 (0, 0))).cell? ⟨bx, 2, none⟩ = some (ptr gN) := (blk_cell HP3.out.box 2).trans rfl
      have h0 : (W2.alloc (.cells zP 28 (0, 0))).cell? ⟨w.heap.size, 0, none⟩ = some (.int .i64 (2 - iv)) := (blk_cell HH3.out 0).trans rfl
      have h1 : (W2.alloc (.cells zP 28 (0, 0))).cell? ⟨w.heap.size, 1, none⟩ = some (.int .i64 (1 + iv)) := (blk_cell HH3.out 1).trans rfl
      refine hK.out _ _ ⟨b2, h0, h1⟩ (fun hHeld => ?_)
      clear hK K b2 h0 h1
      refine norm_ ?_ (HCO.out W2.heap.size _ ⟨_, HP3.out, blk_new _ _, HP2.out.new _ (Nat.le_refl _), HP2.out.below.size⟩)
      simp only [putAll, Act.put, List.setIfInBounds_toArray, List.set_cons_zero, List.set_cons_succ, i64_w, i32_w]
      try rfl
    · refine event_step (v := ptr w1.drew.heap.size) (w1 := w1.drew.alloc (.cells zP 28 (0, 0))) (by rfl) (by first | (go_simp; done) | (go_simp; rfl)) ?_
      have HP3 := Aside0.mk (HPd.out.alloc (.cells zP 28 (0, 0)))
      have HH3 := Aside0.mk (blk_alloc HH.out (.cells zP 28 (0, 0)))
      have HN3 := Aside0.mk (blk_new w1.drew (.cells zP 28 (0, 0)))
      have HO3 := Aside0.mk (HPd.out.new _ (Nat.le_refl w1.drew.heap.size))
      have b2 : (w1.drew.alloc (.cells zP 28 (0, 0))).cell? ⟨bx, 2, none⟩ = some (ptr gN) := (blk_cell HP3.out.box 2).trans rfl
      have h0 : (w1.drew.alloc (.cells zP 28 (0, 0))).cell? ⟨w.heap.size, 0, none⟩ = some (.int .i64 (2 - iv)) := (blk_cell HH3.out 0).trans rfl
      have h1 : (w1.drew.alloc (.cells zP 28 (0, 0))).cell? ⟨w.heap.size, 1, none⟩ = some (.int .i64 (1 + iv)) := (blk_cell HH3.out 1).trans rfl
      refine hK.out _ _ ⟨b2, h0, h1⟩ (fun hHeld => ?_)
      clear hK K b2 h0 h1
      skip
      refine norm_ (a' := ?_) ?_ ?_
      rotate_left
      · show Act.put _ (some 8) _ = _
        simp only [Act.put, List.setIfInBounds_toArray, List.set_cons_zero, List.set_cons_succ, i64_w, i32_w]
        rfl
      refine one_ (i := 6) (N := some 25) #[true, true, true, true, true, true, true, false, false, false, true, false, false] rfl rfl (by kernel_rfl) (by decide) (fun K hK => ?_)
      refine goes_ Try.func24 (by kernel_rfl) rfl #[ptr gN, .agg #[.int .i64 (2 - iv), .int .i64 (1 + iv)], .int .i64 k] (by rfl) rfl rfl (by first | rfl | (simp only [List.map_toArray, List.map_cons, List.map_nil]; rfl)) ?_
      refine (takeN_is HP3.out.net HC.out HE.out HP_.out HQ.out).mono ?_
      rintro e W2 ⟨rfl, hn2, hm2⟩
      have HP2 := Aside0.mk (HP3.out.netAct (S' := S1) hn2 hm2 rfl HS1.out)
      have HH2 := Aside0.mk ((hm2.block _ (blk_lt HH3.out) (fun e => by rw [HH0.out] at e; cases e)).trans HH3.out)
      have HN2 := Aside0.mk ((hm2.block _ (blk_lt HN3.out) (fun e => by rw [HO3.out] at e; cases e)).trans HN3.out)
      clear hn2 hm2
      have b2 : W2.cell? ⟨bx, 2, none⟩ = some (ptr gN) := (blk_cell HP2.out.box 2).trans rfl
      have h0 : W2.cell? ⟨w.heap.size, 0, none⟩ = some (.int .i64 (2 - iv)) := (blk_cell HH2.out 0).trans rfl
      have h1 : W2.cell? ⟨w.heap.size, 1, none⟩ = some (.int .i64 (1 + iv)) := (blk_cell HH2.out 1).trans rfl
      refine ⟨_, rfl, hK.out _ _ ⟨b2, h0, h1⟩ (fun hHeld => ?_)⟩
      clear hK K b2 h0 h1
      refine norm_ (a' := ?_) ?_ ?_
      rotate_left
      · show Act.put _ (some 25) _ = _
        simp only [Act.put, List.setIfInBounds_toArray, List.set_cons_zero, List.set_cons_succ, i64_w, i32_w]
        rfl
      refine pure_ (i := 7) (N := some 18) (v := ?_) (a' := ?_) #[true, true, true, true, true, true, true, true, false, false, true, false, false] rfl rfl (by kernel_rfl) (fun _ _ _ h => h) (Or.inl ⟨by rfl, ?_⟩) ?_ ?_
      rotate_left
      · intro w'; go_simp; with_reducible rfl
      rotate_left
      · simp only [Act.put, List.setIfInBounds_toArray, List.set_cons_zero, List.set_cons_succ, i64_w, i32_w]; rfl
      refine pure_ (i := 8) (N := some 26) (v := ?_) (a' := ?_) #[true, true, true, true, true, true, true, true, true, false, true, false, false] rfl rfl (by kernel_rfl) (fun _ _ _ h => h) (Or.inl ⟨by rfl, ?_⟩) ?_ ?_
      rotate_left
      · intro w'; go_simp; with_reducible rfl
      rotate_left
      · simp only [Act.put, List.setIfInBounds_toArray, List.set_cons_zero, List.set_cons_succ, i64_w, i32_w]; rfl
      refine pure_ (i := 9) (N := some 27) (v := ?_) (a' := ?_) #[true, true, true, true, true, true, true, true, true, true, true, false, false] rfl rfl (by kernel_rfl) (fun _ _ _ h => h) (Or.inl ⟨by rfl, ?_⟩) ?_ ?_
      rotate_left
      · intro w'; go_simp; with_reducible rfl
      rotate_left
      · simp only [Act.put, List.setIfInBounds_toArray, List.set_cons_zero, List.set_cons_succ, i64_w, i32_w]; rfl
      refine norm_ ?_ (HCO.out w1.drew.heap.size _ ⟨_, HP2.out, HN2.out, (tg_old (blk_lt HN3.out)).trans HO3.out, HPd.out.below.size⟩)
      simp only [putAll, Act.put, List.setIfInBounds_toArray, List.set_cons_zero, List.set_cons_succ, i64_w, i32_w]
      try rfl
  rintro b W hj
  try dsimp only at hj ⊢
  refine norm_ (a' := ?_) ?_ ?_
  rotate_left
  · simp only [putAll, Act.put, List.setIfInBounds_toArray, List.set_cons_zero, List.set_cons_succ, i64_w, i32_w]
    rfl
  obtain ⟨ow2, hp2, hz2, ho2, hlo⟩ := hj
  skip
  refine last_ (i := 11) (N := none) #[true, true, true, true, true, true, true, true, true, true, true, true, false] rfl rfl (by kernel_rfl) (by decide) (fun K hK => ?_)
  refine storeRow_ (by rfl) 28 (.tmp 8) (.tmp 26) rfl rfl b (pk P).toArray rfl rfl 28 _ hz2 info28s rfl (pk_one P) ?_
  have HB5 := Aside0.mk (show (W.setRow b (pk P).toArray).heap[b]? = some (.cells (pk P).toArray 28 (0, 0)) from setRow_heap _ _ _ _ _ _ hz2)
  have HP5 := Aside0.mk (hp2.tmp ho2 hlo (Mods.setRow (F := fun k => k = b) (Mods.refl _ W) (.inl rfl) (pk P).toArray) (by simp [World.setRow]))
  clear hz2 hp2
  refine hK.out _ _ ?_
  clear hK K
  generalize W.setRow b (pk P).toArray = W5 at *
  refine pure_ (i := 12) (N := some 9) (v := ?_) (a' := ?_) #[true, true, true, true, true, true, true, true, true, true, true, true, true] rfl rfl (by kernel_rfl) (fun _ _ _ h => h) (Or.inl ⟨by rfl, ?_⟩) ?_ ?_
  rotate_left
  · intro w'; go_simp; with_reducible rfl
  rotate_left
  · simp only [Act.put, List.setIfInBounds_toArray, List.set_cons_zero, List.set_cons_succ, i64_w, i32_w]; rfl
  refine done_ (by kernel_rfl) ?_
  rcases hcase with ⟨rfl, hS2⟩ | ⟨rfl, hrow, hS2⟩
  · go_wp2
    go_ret
    exact ⟨rfl, va, gv, ow2, by rw [hS2]; exact HP5.out⟩
  · subst hS2
    have hgp := HG.out.lose HI.out k
    obtain ⟨hbd, h9⟩ := (hgp.inv.at HI.out).bd
    obtain ⟨hpe1, hpe2⟩ := popS_at (S := S) HI.out k
    have hte : tkE (popS S i k i).l P = 0 := by rw [hpe1]; exact ((HG.out.inv.at HI.out).come hrow).1
    obtain ⟨l1, hl1⟩ : ∃ l1, l1 = (popS S i k i).l := ⟨_, rfl⟩
    rw [← hl1] at hbd h9 hte
    have hgl : ((S i).got ++ tkT l1 P).length ≤ 1000 := by
      have h1 := ((HG.out.come HI.out k).inv.at HI.out).right.2.1
      rw [(comeS_at HI.out hrow).1, (comeS_at HI.out hrow).2] at h1
      rw [hl1, hpe1]
      exact Nat.le_trans h1 (hsl (1 - i) (one_sub HI.out).2)
    rw [List.length_append] at hgl
    have hfr : ∀ q ∈ tkP l1 P, from_ i q := by
      intro q hq
      refine hgp.from HI.out ?_
      rw [← hl1]
      obtain ⟨c, v, hba⟩ := (HG.out.inv.at HI.out).ba
      rw [hl1] at hq ⊢
      refine hears_pk (hgp.inv.at HI.out) (fun b w hs => ?_) q hq
      rw [hpe2] at hs ⊢
      have e : f + (b : Int) = f + c := by rw [← hs.base, hba.base]
      have e2 : b = c := by omega
      subst e2
      exact hba.row P (List.mem_of_getElem? hrow)
    have HBd := Aside0.mk hbd
    have HTE := Aside0.mk hte
    have HL1 := Aside0.mk hl1
    have HGP := Aside0.mk hgp
    have HFR := Aside0.mk hfr
    have HRW := Aside0.mk hrow
    have htl : (tkP l1 P).length ≤ 1000 := by
      have h1 : (goP (tk2 l1 P)).length ≤ 8 := by unfold goP; rw [outs_len]; omega
      unfold tkP
      rw [if_pos hte]
      split
      · simp
      · omega
    have hji : iv.toNat = i := by have := HIV.out; omega
    have HJI := Aside0.mk hji
    have i2 : iv < 2 := by omega
    clear hbd hte hl1 hgp hfr hrow hpe1 hpe2 hji
    go_wp2
    have HP5d := Aside0.mk HP5.out.drew
    have a1 : W5.drew.cell? ⟨bx, iv.toNat, none⟩ = some (ptr (ga i)) := by
      rw [HJI.out]
      refine (blk_cell HP5d.out.box i).trans ?_
      rcases two_cases HI.out with rfl | rfl <;> rfl
    have x0 : W5.drew.cell? ⟨b, 0, none⟩ = some (.int .i64 P.f0) := (blk_cell (blk_drew HB5.out) 0).trans rfl
    have x1 : W5.drew.cell? ⟨b, 1, none⟩ = some (.int .i64 P.f1) := (blk_cell (blk_drew HB5.out) 1).trans rfl
    have x2 : W5.drew.cell? ⟨b, 2, none⟩ = some (.int .i64 P.f2) := (blk_cell (blk_drew HB5.out) 2).trans rfl
    have x3 : W5.drew.cell? ⟨b, 3, none⟩ = some (.int .i64 P.f3) := (blk_cell (blk_drew HB5.out) 3).trans rfl
    have x4 : W5.drew.cell? ⟨b, 4, none⟩ = some (.int .i64 P.f4) := (blk_cell (blk_drew HB5.out) 4).trans rfl
    have x5 : W5.drew.cell? ⟨b, 5, none⟩ = some (.int .i64 P.f5) := (blk_cell (blk_drew HB5.out) 5).trans rfl
    have x6 : W5.drew.cell? ⟨b, 6, none⟩ = some (.string P.f6) := (blk_cell (blk_drew HB5.out) 6).trans rfl
    refine start_ (n := 15) (S := fun w' => w'.cell? ⟨bx, iv.toNat, none⟩ = some (ptr (ga i)) ∧ w'.cell? ⟨b, 0, none⟩ = some (.int .i64 P.f0) ∧ w'.cell? ⟨b, 1, none⟩ = some (.int .i64 P.f1) ∧ w'.cell? ⟨b, 2, none⟩ = some (.int .i64 P.f2) ∧ w'.cell? ⟨b, 3, none⟩ = some (.int .i64 P.f3) ∧ w'.cell? ⟨b, 4, none⟩ = some (.int .i64 P.f4) ∧ w'.cell? ⟨b, 5, none⟩ = some (.int .i64 P.f5) ∧ w'.cell? ⟨b, 6, none⟩ = some (.string P.f6)) (ds := [7]) #[false, false, false, false, false, false, false, false, false, false, false, false, false, false, false] (by kernel_rfl) rfl rfl ⟨a1, x0, x1, x2, x3, x4, x5, x6⟩ (fun hHeld => ?_)
    refine pure_ (i := 0) (N := some 31) (v := ?_) (a' := ?_) #[true, false, false, false, false, false, false, false, false, false, false, false, false, false, false] rfl rfl (by kernel_rfl) (fun _ _ _ h => h) (Or.inl ⟨by rfl, ?_⟩) ?_ ?_
    rotate_left
    · intro w'; go_simp; with_reducible rfl
    rotate_left
    · simp only [Act.put, List.setIfInBounds_toArray, List.set_cons_zero, List.set_cons_succ, i64_w, i32_w]; rfl
    refine pure_ (i := 1) (N := some 32) (v := ?_) (a' := ?_) #[true, true, false, false, false, false, false, false, false, false, false, false, false, false, false] rfl rfl (by kernel_rfl) (fun _ _ _ h => h) (Or.inl ⟨by rfl, ?_⟩) ?_ ?_
    rotate_left
    · intro w'; go_simp; with_reducible rfl
    rotate_left
    · simp only [Act.put, List.setIfInBounds_toArray, List.set_cons_zero, List.set_cons_succ, i64_w, i32_w]; rfl
    refine pure_ (i := 2) (N := some 33) (v := ?_) (a' := ?_) #[true, true, true, false, false, false, false, false, false, false, false, false, false, false, false] rfl rfl (by kernel_rfl) (fun _ _ _ h => h) (Or.inl ⟨by rfl, ?_⟩) ?_ ?_
    rotate_left
    · intro w'; go_simp; with_reducible rfl
    rotate_left
    · simp only [Act.put, List.setIfInBounds_toArray, List.set_cons_zero, List.set_cons_succ, i64_w, i32_w]; rfl
    refine pure_ (i := 3) (N := some 34) (v := ?_) (a' := ?_) #[true, true, true, true, false, false, false, false, false, false, false, false, false, false, false] rfl rfl (by kernel_rfl) (fun _ _ _ h => h) (Or.inl ⟨by rfl, ?_⟩) ?_ ?_
    rotate_left
    · intro w'; go_simp; with_reducible rfl
    rotate_left
    · simp only [Act.put, List.setIfInBounds_toArray, List.set_cons_zero, List.set_cons_succ, i64_w, i32_w]; rfl
    refine pure_ (i := 4) (N := some 35) (v := ?_) (a' := ?_) #[true, true, true, true, true, false, false, false, false, false, false, false, false, false, false] rfl rfl (by kernel_rfl) (fun _ _ _ h => h) (Or.inl ⟨by rfl, ?_⟩) ?_ ?_
    rotate_left
    · intro w'; go_simp; with_reducible rfl
    rotate_left
    · simp only [Act.put, List.setIfInBounds_toArray, List.set_cons_zero, List.set_cons_succ, i64_w, i32_w]; rfl
    refine take_ (i := 5) (N := some 36) (v := ?_) (a' := ?_) #[true, true, true, true, true, true, false, false, false, false, false, false, false, false, false] rfl rfl (by kernel_rfl) (fun _ _ _ h => h) (Or.inl ⟨by rfl, ?_⟩) hHeld ?_ ?_
    rotate_left
    · rintro w' ⟨s0, s1, s2, s3, s4, s5, s6, s7⟩; go_simp; with_reducible rfl
    rotate_left
    · simp only [Act.put, List.setIfInBounds_toArray, List.set_cons_zero, List.set_cons_succ, i64_w, i32_w]; rfl
    refine take_ (i := 6) (N := some 37) (v := ?_) (a' := ?_) #[true, true, true, true, true, true, true, false, false, false, false, false, false, false, false] rfl rfl (by kernel_rfl) (fun _ _ _ h => h) (Or.inl ⟨by rfl, ?_⟩) hHeld ?_ ?_
    rotate_left
    · rintro w' ⟨s0, s1, s2, s3, s4, s5, s6, s7⟩; go_simp; with_reducible rfl
    rotate_left
    · simp only [Act.put, List.setIfInBounds_toArray, List.set_cons_zero, List.set_cons_succ, i64_w, i32_w]; rfl
    clear a1 x0 x1 x2 x3 x4 x5 x6
    refine last_ (i := 7) (N := some 38) #[true, true, true, true, true, true, true, true, false, false, false, false, false, false, false] rfl rfl (by kernel_rfl) (by decide) (fun K hK => ?_)
    refine goes_ Try.func39 (by kernel_rfl) rfl #[ptr (ga i), .agg #[.int .i64 P.f0, .int .i64 P.f1, .int .i64 P.f2, .int .i64 P.f3, .int .i64 P.f4, .int .i64 P.f5, .string P.f6]] (by rfl) rfl rfl (by first | rfl | (simp only [List.map_toArray, List.map_cons, List.map_nil]; rfl)) ?_
    refine (LK.take_is (l := l1) (by rw [HL1.out]; exact HP5d.out.lk i HI.out) HBd.out h9 P).mono ?_
    rintro e W6 ⟨t, o, v', rfl, ht, ho, st⟩
    rw [HTE.out]
    obtain ⟨At, ct, rfl⟩ := Kd.R_slice ht
    obtain ⟨Ao, co, rfl, hro⟩ := RowP.of_R ho
    have HP6 := Aside0.mk (HP5d.out.linkAct HI.out st)
    have HT6 := Aside0.mk (Kd.R_reads' ht).2.2
    have HO6 := Aside0.mk (hro.mono (ok' := fun k => tg ow2 W5.drew W6 (1 + i) k = 1 + i) (fun k hk => tg_new hk.2.1 hk.2.2))
    clear ht ho st hro
    refine ⟨_, rfl, hK.out _ _ ?_⟩
    clear hK K
    refine norm_ (a' := ?_) ?_ ?_
    rotate_left
    · show Act.put _ (some 38) _ = _
      simp only [Act.put, List.setIfInBounds_toArray, List.set_cons_zero, List.set_cons_succ, i64_w, i32_w]
      rfl
    refine pure_ (i := 8) (N := some 30) (v := ?_) (a' := ?_) #[true, true, true, true, true, true, true, true, true, false, false, false, false, false, false] rfl rfl (by kernel_rfl) (fun _ _ _ h => h) (Or.inl ⟨by rfl, ?_⟩) ?_ ?_
    rotate_left
    · intro w'; go_simp; with_reducible rfl
    rotate_left
    · simp only [Act.put, List.setIfInBounds_toArray, List.set_cons_zero, List.set_cons_succ, i64_w, i32_w]; rfl
    refine pure_ (i := 9) (N := some 39) (v := ?_) (a' := ?_) #[true, true, true, true, true, true, true, true, true, true, false, false, false, false, false] rfl rfl (by kernel_rfl) (fun _ _ _ h => h) (Or.inl ⟨by rfl, ?_⟩) ?_ ?_
    rotate_left
    · intro w'; go_simp; with_reducible rfl
    rotate_left
    · simp only [Act.put, List.setIfInBounds_toArray, List.set_cons_zero, List.set_cons_succ, i64_w, i32_w]; rfl
    refine pure_ (i := 10) (N := some 40) (v := ?_) (a' := ?_) #[true, true, true, true, true, true, true, true, true, true, true, false, false, false, false] rfl rfl (by kernel_rfl) (fun _ _ _ h => h) (Or.inl ⟨by rfl, ?_⟩) ?_ ?_
    rotate_left
    · intro w'; go_simp; with_reducible rfl
    rotate_left
    · simp only [Act.put, List.setIfInBounds_toArray, List.set_cons_zero, List.set_cons_succ, i64_w, i32_w]; rfl
    refine pure_ (i := 11) (N := some 41) (v := ?_) (a' := ?_) #[true, true, true, true, true, true, true, true, true, true, true, true, false, false, false] rfl rfl (by kernel_rfl) (fun _ _ _ h => h) (Or.inl ⟨by rfl, ?_⟩) ?_ ?_
    rotate_left
    · intro w'; go_simp; with_reducible rfl
    rotate_left
    · simp only [Act.put, List.setIfInBounds_toArray, List.set_cons_zero, List.set_cons_succ, i64_w, i32_w]; rfl
    refine pure_ (i := 12) (N := some 10) (v := ?_) (a' := ?_) #[true, true, true, true, true, true, true, true, true, true, true, true, true, false, false] rfl rfl (by kernel_rfl) (fun _ _ _ h => h) (Or.inl ⟨by rfl, ?_⟩) ?_ ?_
    rotate_left
    · intro w'; go_simp; with_reducible rfl
    rotate_left
    · simp only [Act.put, List.setIfInBounds_toArray, List.set_cons_zero, List.set_cons_succ, i64_w, i32_w]; rfl
    refine pure_ (i := 13) (N := some 11) (v := ?_) (a' := ?_) #[true, true, true, true, true, true, true, true, true, true, true, true, true, true, false] rfl rfl (by kernel_rfl) (fun _ _ _ h => h) (Or.inl ⟨by rfl, ?_⟩) ?_ ?_
    rotate_left
    · intro w'; go_simp; with_reducible rfl
    rotate_left
    · simp only [Act.put, List.setIfInBounds_toArray, List.set_cons_zero, List.set_cons_succ, i64_w, i32_w]; rfl
    refine pure_ (i := 14) (N := some 12) (v := ?_) (a' := ?_) #[true, true, true, true, true, true, true, true, true, true, true, true, true, true, true] rfl rfl (by kernel_rfl) (fun _ _ _ h => h) (Or.inl ⟨by rfl, ?_⟩) ?_ ?_
    rotate_left
    · intro w'; go_simp; with_reducible rfl
    rotate_left
    · simp only [Act.put, List.setIfInBounds_toArray, List.set_cons_zero, List.set_cons_succ, i64_w, i32_w]; rfl
    refine done_ (by kernel_rfl) ?_
    go_wp2
    have HP6d := Aside0.mk HP6.out.drew
    have HO6d := Aside0.mk (HO6.out.below (below_drew1 (Below.refl _ _)))
    have HT6d := Aside0.mk (Kd.C_below HT6.out (below_drew1 (Below.refl _ _)))
    clear HP6 HO6 HT6 HP5 HP5d
    have a5 : W6.drew.cell? ⟨bx, 5 + iv.toNat, none⟩ = some (gv i) := by
      rw [HJI.out]
      refine (blk_cell HP6d.out.box (5 + i)).trans ?_
      rcases two_cases HI.out with rfl | rfl <;> rfl
    refine start_ (n := 14) (S := fun w' => w'.cell? ⟨bx, 5 + iv.toNat, none⟩ = some (gv i) ∧ True) (ds := [13]) #[false, false, false, false, false, false, false, false, false, false, false, false, false, false] (by kernel_rfl) rfl rfl ⟨a5, trivial⟩ (fun hHeld => ?_)
    refine pure_ (i := 0) (N := some 42) (v := ?_) (a' := ?_) #[true, false, false, false, false, false, false, false, false, false, false, false, false, false] rfl rfl (by kernel_rfl) (fun _ _ _ h => h) (Or.inl ⟨by rfl, ?_⟩) ?_ ?_
    rotate_left
    · intro w'; go_simp; with_reducible rfl
    rotate_left
    · simp only [Act.put, List.setIfInBounds_toArray, List.set_cons_zero, List.set_cons_succ, i64_w, i32_w]; rfl
    refine pure_ (i := 1) (N := some 43) (v := ?_) (a' := ?_) #[true, true, false, false, false, false, false, false, false, false, false, false, false, false] rfl rfl (by kernel_rfl) (fun _ _ _ h => h) (Or.inl ⟨by rfl, ?_⟩) ?_ ?_
    rotate_left
    · intro w'; go_simp; with_reducible rfl
    rotate_left
    · simp only [Act.put, List.setIfInBounds_toArray, List.set_cons_zero, List.set_cons_succ, i64_w, i32_w]; rfl
    refine pure_ (i := 2) (N := some 44) (v := ?_) (a' := ?_) #[true, true, true, false, false, false, false, false, false, false, false, false, false, false] rfl rfl (by kernel_rfl) (fun _ _ _ h => h) (Or.inl ⟨by rfl, ?_⟩) ?_ ?_
    rotate_left
    · intro w'; go_simp; with_reducible rfl
    rotate_left
    · simp only [Act.put, List.setIfInBounds_toArray, List.set_cons_zero, List.set_cons_succ, i64_w, i32_w]; rfl
    refine pure_ (i := 3) (N := some 45) (v := ?_) (a' := ?_) #[true, true, true, true, false, false, false, false, false, false, false, false, false, false] rfl rfl (by kernel_rfl) (fun _ _ _ h => h) (Or.inl ⟨by rfl, ?_⟩) ?_ ?_
    rotate_left
    · intro w'; go_simp; with_reducible rfl
    rotate_left
    · simp only [Act.put, List.setIfInBounds_toArray, List.set_cons_zero, List.set_cons_succ, i64_w, i32_w]; rfl
    refine pure_ (i := 4) (N := some 46) (v := ?_) (a' := ?_) #[true, true, true, true, true, false, false, false, false, false, false, false, false, false] rfl rfl (by kernel_rfl) (fun _ _ _ h => h) (Or.inl ⟨by rfl, ?_⟩) ?_ ?_
    rotate_left
    · intro w'; go_simp; with_reducible rfl
    rotate_left
    · simp only [Act.put, List.setIfInBounds_toArray, List.set_cons_zero, List.set_cons_succ, i64_w, i32_w]; rfl
    refine pure_ (i := 5) (N := some 47) (v := ?_) (a' := ?_) #[true, true, true, true, true, true, false, false, false, false, false, false, false, false] rfl rfl (by kernel_rfl) (fun _ _ _ h => h) (Or.inl ⟨by rfl, ?_⟩) ?_ ?_
    rotate_left
    · intro w'; go_simp; with_reducible rfl
    rotate_left
    · simp only [Act.put, List.setIfInBounds_toArray, List.set_cons_zero, List.set_cons_succ, i64_w, i32_w]; rfl
    refine pure_ (i := 6) (N := some 48) (v := ?_) (a' := ?_) #[true, true, true, true, true, true, true, false, false, false, false, false, false, false] rfl rfl (by kernel_rfl) (fun _ _ _ h => h) (Or.inl ⟨by rfl, ?_⟩) ?_ ?_
    rotate_left
    · intro w'; go_simp; with_reducible rfl
    rotate_left
    · simp only [Act.put, List.setIfInBounds_toArray, List.set_cons_zero, List.set_cons_succ, i64_w, i32_w]; rfl
    refine take_ (i := 7) (N := some 49) (v := ?_) (a' := ?_) #[true, true, true, true, true, true, true, true, false, false, false, false, false, false] rfl rfl (by kernel_rfl) (fun _ _ _ h => h) (Or.inl ⟨by rfl, ?_⟩) hHeld ?_ ?_
    rotate_left
    · rintro w' ⟨s0, s1⟩; go_simp; with_reducible rfl
    rotate_left
    · simp only [Act.put, List.setIfInBounds_toArray, List.set_cons_zero, List.set_cons_succ, i64_w, i32_w]; rfl
    refine pure_ (i := 8) (N := some 50) (v := ?_) (a' := ?_) #[true, true, true, true, true, true, true, true, true, false, false, false, false, false] rfl rfl (by kernel_rfl) (fun _ _ _ h => h) (Or.inl ⟨by rfl, ?_⟩) ?_ ?_
    rotate_left
    · intro w'; go_simp; with_reducible rfl
    rotate_left
    · simp only [Act.put, List.setIfInBounds_toArray, List.set_cons_zero, List.set_cons_succ, i64_w, i32_w]; rfl
    refine pure_ (i := 10) (N := some 52) (v := ?_) (a' := ?_) #[true, true, true, true, true, true, true, true, true, false, true, false, false, false] rfl rfl (by kernel_rfl) (fun _ _ _ h => h) (Or.inl ⟨by rfl, ?_⟩) ?_ ?_
    rotate_left
    · intro w'; go_simp; with_reducible rfl
    rotate_left
    · simp only [Act.put, List.setIfInBounds_toArray, List.set_cons_zero, List.set_cons_succ, i64_w, i32_w]; rfl
    refine pure_ (i := 11) (N := some 53) (v := ?_) (a' := ?_) #[true, true, true, true, true, true, true, true, true, false, true, true, false, false] rfl rfl (by kernel_rfl) (fun _ _ _ h => h) (Or.inl ⟨by rfl, ?_⟩) ?_ ?_
    rotate_left
    · intro w'; go_simp; with_reducible rfl
    rotate_left
    · simp only [Act.put, List.setIfInBounds_toArray, List.set_cons_zero, List.set_cons_succ, i64_w, i32_w]; rfl
    clear a5
    generalize W6.drew = W6d at *
    refine one_ (i := 9) (N := some 51) #[true, true, true, true, true, true, true, true, true, true, true, true, false, false] rfl rfl (by kernel_rfl) (by decide) (fun K hK => ?_)
    refine R_append_strings (by rfl) (.tmp 49) (.tmp 50) 73 rfl Try.underlying73 info9 (gv i) (popS S i k i).got (tkT l1 P) At (tkT l1 P).length ct (fun k => tg ow2 W5.drew W6 (1 + i) k = 6 + i ∨ W6d.heap.size ≤ k) rfl rfl (fun _ h => .inr h) ?_ HT6d.out ?_ ?_
    · exact Kd.R_mono (by have h := HP6d.out.got i HI.out; rw [upd_same] at h; exact h) (fun _ h => .inl h)
    · rw [(popS_same HI.out k i HI.out).2.2]; omega
    intro v1 W7 hr7 hg7
    have hga := HP6d.out.gotAct HI.out hr7 hg7
    have HO7 := Aside0.mk (RowP.got (v1 := v1) HP6d.out HI.out HO6d.out hg7)
    have HP7 := Aside0.mk hga.1
    have HB7 := Aside0.mk hga.2
    obtain ⟨A1, c1, rfl⟩ := Kd.R_slice hr7
    clear hga hr7 hg7 HP6d HO6d HT6d
    have a5 : W7.cell? ⟨bx, 5 + iv.toNat, none⟩ = some (gv i) := by
      rw [HJI.out]
      refine (blk_cell HB7.out (5 + i)).trans ?_
      rcases two_cases HI.out with rfl | rfl <;> rfl
    refine hK.out _ _ ⟨a5, trivial⟩ (fun hHeld => ?_)
    clear hK K
    refine norm_ (a' := ?_) ?_ ?_
    rotate_left
    · show Act.put _ (some 51) _ = _
      simp only [Act.put, List.setIfInBounds_toArray, List.set_cons_zero, List.set_cons_succ, i64_w, i32_w]
      rfl
    refine pure_ (i := 12) (N := some 54) (v := ?_) (a' := ?_) #[true, true, true, true, true, true, true, true, true, true, true, true, true, false] rfl rfl (by kernel_rfl) (fun _ _ _ h => h) (Or.inl ⟨by rfl, ?_⟩) ?_ ?_
    rotate_left
    · intro w'; go_simp; with_reducible rfl
    rotate_left
    · simp only [Act.put, List.setIfInBounds_toArray, List.set_cons_zero, List.set_cons_succ, i64_w, i32_w]; rfl
    refine last_ (i := 13) (N := none) #[true, true, true, true, true, true, true, true, true, true, true, true, true, true] rfl rfl (by kernel_rfl) (by decide) (fun K hK => ?_)
    have hf7 := blk_frozen HB7.out (5 + iv.toNat)
    refine skip_ (w1 := ?_) (by rfl) rfl ?_ ?_
    rotate_left
    · go_simp
      rfl
    refine hK.out _ _ ?_
    clear hK K
    refine done_ (by kernel_rfl) ?_
    rw [List.length_append] at HP7 HO7
    rw [HJI.out]
    have HF7 := Aside0.mk (show hearS (popS S i k) i P = comeS S i k by unfold comeS; rw [HRW.out])
    have HC7 := Aside0.mk (show ((upd (upd (popS S i k) i { popS S i k i with l := tkL l1 P }) i { upd (popS S i k) i { popS S i k i with l := tkL l1 P } i with got := (popS S i k i).got ++ tkT l1 P }) 0).row.length + ((upd (upd (popS S i k) i { popS S i k i with l := tkL l1 P }) i { upd (popS S i k) i { popS S i k i with l := tkL l1 P } i with got := (popS S i k i).got ++ tkT l1 P }) 1).row.length ≤ 400 by
      have h := HGP.out.inv.cap
      rw [upd_upd, upd_same]
      rcases two_cases HI.out with rfl | rfl
      · exact h
      · exact h)
    go_wp2_with (first
      | ((with_reducible refine gate_dst (N := 57) rfl ?_); refine goesL_ (some 57) rfl rfl Try.func55 (by kernel_rfl) rfl #[ptr bx, .slice Ao (tkP l1 P).length co] rfl (by first | (simp only [List.map_toArray, List.map_cons, List.map_nil]; rfl) | rfl) ?_; refine (out_is HP7.out HI.out HO7.out HFR.out HC7.out htl).mono ?_; rintro e W9 ⟨rfl, ow9, hp9⟩; have HP9 := Aside0.mk hp9; clear hp9; refine ⟨_, rfl, ?_⟩))
    go_ret
    have h9 := HP9.out
    rw [upd_upd, upd_same] at h9
    refine ⟨rfl, ?_⟩
    have e : comeS S i k = outS (upd (popS S i k) i { popS S i k i with l := tkL l1 P, got := (popS S i k i).got ++ tkT l1 P }) i (tkP l1 P) := by
      rw [← HF7.out]
      unfold hearS tkS
      rw [← HL1.out]
    rw [e]
    exact ⟨_, _, ow9, h9⟩
end
end Go.Proofs.Ytdibaeomepallaa.LK
