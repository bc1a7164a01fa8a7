/- A deed of the pair (pair.do). By hand. -/
import Derived.Test.YtdibaeomepallaaLl
namespace Go.Proofs.Ytdibaeomepallaa.LK
open Go.RowKit Go.Proofs.YtdibaeomepallaaW.PrintWords Go.Proofs.YtdibaeomepallaaW.PrintLast Go.Proofs.YtdibaeomepallaaW.PrintMore Go.Proofs.Ytdibaeomepallaa.PAll Go.Proofs.Ytdibaeomepallaa.NW
set_option linter.unusedVariables false
set_option linter.unusedSimpArgs false
set_option maxRecDepth 100000
theorem at_f (n : Int) {m : Nat} (h0 : 0 < m) (h1 : m ≤ 1000000) : caduceuslaw13_at.f n m = some (atN n m : Int) := by
  have a := Int.lt_tmod_of_pos n (show (0 : Int) < m by omega)
  have b := Int.tmod_lt_of_pos n (show (0 : Int) < m by omega)
  unfold caduceuslaw13_at.f
  rw [if_neg (by omega), wrapId (by omega) (by omega), (atN_lt n h0).2]
section
variable {w0 w : World} {bx gN : Nat} {ga ma : Nat → Nat} {va sv gv : Nat → Value} {ow : Nat → Nat} {S : Nat → Sd}
theorem Good.row_from {f : Int} (h : Good f S) {i : Nat} (hi : i < 2) {p : Pk} (hp : p ∈ (S i).row) : from_ (1 - i) p := by
  obtain ⟨c, v, hba⟩ := (h.inv.at hi).ba
  have k := hba.row p hp
  exact h.from (one_sub hi).2 ⟨k.ok, k.f0, k.f1⟩
theorem twiceS_out {i k : Nat} (hi : i < 2) {p : Pk} (hp : (S i).row[k]? = some p) : twiceS S i k = outS S (1 - i) [p] := by
  unfold twiceS outS
  rw [hp]
  have e : 1 - (1 - i) = i := by omega
  rw [e]
/-- What the net is when the k-th packet to i is doubled, or lost. -/
theorem twice_of {f : Int} (h : Good f S) {i : Nat} (hi : i < 2) {k : Nat} (hk : k < (S i).row.length) : twiceQ (qOf (S 0).row (S 1).row) (2 - (i : Int)) (1 + (i : Int)) k = qOf (twiceS S i k 0).row (twiceS S i k 1).row := by
  obtain ⟨hb, _, _⟩ := hop_of hi (S 0).row (S 1).row
  have hrow := rowAt_of (S := S) hi
  obtain ⟨p, hp⟩ : ∃ p, (S i).row[k]? = some p := ⟨_, List.getElem?_eq_getElem hk⟩
  have ht : thereE (qOf (S 0).row (S 1).row) (2 - (i : Int)) (1 + (i : Int)) k = 0 := by unfold thereE; rw [if_pos hb, hrow, if_neg (by omega)]
  unfold twiceQ
  rw [if_pos ht, hrow, Int.toNat_natCast, List.getD_eq_getElem?_getD, hp, twiceS_out hi hp]
  have h2 := send_snoc (S := S) (one_sub hi).2 (h.row_from hi (List.mem_of_getElem? hp)) []
  rw [outS_nil (one_sub hi).2] at h2
  exact h2
theorem lose_of {i : Nat} (hi : i < 2) {k : Nat} (hk : k < (S i).row.length) : loseQ (qOf (S 0).row (S 1).row) (2 - (i : Int)) (1 + (i : Int)) k = qOf (popS S i k 0).row (popS S i k 1).row := by
  obtain ⟨hb, _, _⟩ := hop_of hi (S 0).row (S 1).row
  have hrow := rowAt_of (S := S) hi
  have hset := setq_of (S := S) hi (popR (S i) k)
  have ht : thereE (qOf (S 0).row (S 1).row) (2 - (i : Int)) (1 + (i : Int)) k = 0 := by unfold thereE; rw [if_pos hb, hrow, if_neg (by omega)]
  unfold loseQ
  rw [if_pos ht]
  unfold delQ
  rw [hrow, Int.toNat_natCast]
  exact hset
theorem twiceS_same {i k : Nat} (hi : i < 2) : ∀ j, j < 2 → (twiceS S i k j).l = (S j).l ∧ (twiceS S i k j).sent = (S j).sent ∧ (twiceS S i k j).got = (S j).got := by
  unfold twiceS
  cases hp : (S i).row[k]? with
  | none => exact fun j _ => ⟨rfl, rfl, rfl⟩
  | some p => exact by_two (P := fun j => (upd S i (dOut (S (1 - i)) (S i) [p]) j).l = (S j).l ∧ (upd S i (dOut (S (1 - i)) (S i) [p]) j).sent = (S j).sent ∧ (upd S i (dOut (S (1 - i)) (S i) [p]) j).got = (S j).got) hi (by rw [upd_same]; exact ⟨rfl, rfl, rfl⟩) (by rw [upd_ne _ _ (one_sub hi).1]; exact ⟨rfl, rfl, rfl⟩)
/-- What a deed leaves. -/
def DoOut (w0 : World) (bx gN : Nat) (ga ma : Nat → Nat) (S : Nat → Sd) (e : Ending) (w' : World) : Prop := e = .returned (.bool true) ∧ ∃ va' sv' gv' ow', PS w0 w' bx gN ga ma va' sv' gv' ow' S
theorem pair_ptr (h : PS w0 w bx gN ga ma va sv gv ow S) {i : Nat} (hi : i < 2) : w.cell? ⟨bx, i, none⟩ = some (ptr (ga i)) := by
  refine (blk_cell h.box i).trans ?_
  rcases two_cases hi with rfl | rfl <;> rfl
theorem pair_sent (hb : w.heap[bx]? = some (.cells (pairC gN ga sv gv) 103 (0, 0))) {i : Nat} (hi : i < 2) : w.cell? ⟨bx, 3 + i, none⟩ = some (sv i) := by
  refine (blk_cell hb (3 + i)).trans ?_
  rcases two_cases hi with rfl | rfl <;> rfl
theorem RowP.sent {w1 : World} {i : Nat} {A : Option Addr} {c : Nat} {xs : List Pk} {v1 : Value} (h : PS w0 w bx gN ga ma va sv gv ow S) (hi : i < 2) (hr : RowP w (fun k => ow k = 1 + i) A c xs) (hg : w.grownBy w1 (sv i).ownBlock) :
    RowP (w1.setCell ⟨bx, 3 + i, none⟩ v1) (fun k => tg ow w w1 (4 + i) k ≠ 3) A c xs := by
  refine hr.stay (fun k hk hlt => ?_) (fun k hk hlt => by rw [tg_old hlt, hk]; omega)
  rw [Below.heap_setCell _ _ _ _ (fun e => by rw [e, h.obx] at hk; omega)]
  exact hg.block k hlt (fun e => by have := (h.sent i hi).1 k e.symm; omega)
theorem sdP_len (l : Lk) (s : ByteArray) : (sdP l s).length ≤ 8 := by
  unfold sdP
  split
  · unfold goP; rw [outs_len]; omega
  · simp
set_option maxHeartbeats 16000000 in
theorem do_is {f : Int} (h : PS w0 w bx gN ga ma va sv gv ow S) (hg : Good f S) (hsl : ∀ i, i < 2 → (S i).sent.length ≤ 999) (d : S109) (hds : d.f3.size ≤ 9223372036854775807) :
    Calls Try.prog 58 #[ptr bx, .agg #[.int .i64 d.f0, .int .i64 d.f1, .int .i64 d.f2, .string d.f3]] w (DoOut w0 bx gN ga ma (doS S d)) := by
  have hu32 := Try.underlying32
  have hu28 := Try.underlying28
  have hu109 := Try.underlying109
  obtain ⟨i, hi⟩ : ∃ i, i = atN d.f1 2 := ⟨_, rfl⟩
  have hi2 : i < 2 := by rw [hi]; exact (atN_lt d.f1 (by decide)).1
  have HAT := Aside0.mk (show caduceuslaw13_at.f d.f1 2 = some (i : Int) by rw [hi]; exact at_f d.f1 (m := 2) (by decide) (by decide))
  have HI := Aside0.mk hi2
  have HID := Aside0.mk hi
  have HG := Aside0.mk hg
  have hcap := hg.inv.cap
  have HC := Aside0.mk (show cnt (qOf (S 0).row (S 1).row) ≤ 1000 by rw [qOf_cnt]; omega)
  obtain ⟨w1, hw1, hB1, hb1, hs1⟩ := alloc1 w (.cells #[.int .i64 d.f0, .int .i64 d.f1, .int .i64 d.f2, .string d.f3] 109 (0, 0))
  have HW := Aside0.mk hw1
  have HP1 := Aside0.mk (h.bel hB1)
  have HD1 := Aside0.mk hb1
  have HD0 := Aside0.mk (h.new w.heap.size (Nat.le_refl _))
  have c1 : (w.alloc (.cells #[.int .i64 d.f0, .int .i64 d.f1, .int .i64 d.f2, .string d.f3] 109 (0, 0))).cell? ⟨w.heap.size, 1, none⟩ = some (.int .i64 d.f1) := by rw [← hw1]; exact (blk_cell hb1 1).trans rfl
  have i0 : 0 ≤ (i : Int) := by omega
  have i1 : (i : Int) < 2 := by omega
  clear h hg hi hi2 hw1 hB1 hb1 hs1
  go_enter Try.func58, Try.ntmps58
  go_wp2_with (first
    | ((with_reducible refine gate_dst (N := 13) rfl ?_); refine goesL_ (some 13) rfl rfl Try.func36 (by kernel_rfl) rfl #[.int .i64 d.f1, .int .i64 2] rfl (by first | (simp only [List.map_toArray, List.map_cons, List.map_nil]; rfl) | rfl) ?_; refine (caduceuslaw13_at.calls d.f1 2 (i : Int) _ HAT.out).mono ?_; rintro e w2 ⟨rfl, hd⟩; have HB2 := Aside0.mk hd.below; clear hd; refine ⟨_, rfl, ?_⟩))
  rw [← HW.out] at HB2
  obtain ⟨w3, hw3, hB3, hb3, hs3⟩ := alloc1 w2 (.cells #[.int .i64 (2 - (i : Int)), .int .i64 (1 + (i : Int))] 32 (0, 0))
  rw [← hw3]
  have hB3d := hB3.trans (below_drew1 (Below.refl w3.heap.size w3) |>.mono hB3.size)
  have HPd := Aside0.mk ((HP1.out.bel HB2.out).bel hB3d)
  have HDd := Aside0.mk (keepB (keepB HD1.out HB2.out) hB3d)
  have HHd := Aside0.mk (blk_drew hb3)
  have HH0 := Aside0.mk ((HP1.out.bel HB2.out).new w2.heap.size (Nat.le_refl _))
  clear hw3 hB3 hb3 hs3 hB3d c1 HB2 HP1 HD1 HW
  have b2 : w3.drew.cell? ⟨bx, 2, none⟩ = some (ptr gN) := (blk_cell HPd.out.box 2).trans rfl
  have h0 : w3.drew.cell? ⟨w2.heap.size, 0, none⟩ = some (.int .i64 (2 - (i : Int))) := (blk_cell HHd.out 0).trans rfl
  have h1 : w3.drew.cell? ⟨w2.heap.size, 1, none⟩ = some (.int .i64 (1 + (i : Int))) := (blk_cell HHd.out 1).trans rfl
  refine start_ (n := 7) (S := fun w' => w'.cell? ⟨bx, 2, none⟩ = some (ptr gN) ∧ w'.cell? ⟨w2.heap.size, 0, none⟩ = some (.int .i64 (2 - (i : Int))) ∧ w'.cell? ⟨w2.heap.size, 1, none⟩ = some (.int .i64 (1 + (i : Int)))) (ds := [5]) #[false, false, false, false, false, false, false] (by kernel_rfl) rfl rfl ⟨b2, h0, h1⟩ (fun hHeld => ?_)
  refine pure_ (i := 0) (N := some 19) (v := ?_) (a' := ?_) #[true, false, false, false, false, false, false] rfl rfl (by kernel_rfl) (fun _ _ _ h => h) (Or.inl ⟨by rfl, ?_⟩) ?_ ?_
  rotate_left
  · intro w'; go_simp; with_reducible rfl
  rotate_left
  · simp only [Act.put, List.setIfInBounds_toArray, List.set_cons_zero, List.set_cons_succ, i64_w, i32_w]; rfl
  refine pure_ (i := 1) (N := some 20) (v := ?_) (a' := ?_) #[true, true, false, false, false, false, false] rfl rfl (by kernel_rfl) (fun _ _ _ h => h) (Or.inl ⟨by rfl, ?_⟩) ?_ ?_
  rotate_left
  · intro w'; go_simp; with_reducible rfl
  rotate_left
  · simp only [Act.put, List.setIfInBounds_toArray, List.set_cons_zero, List.set_cons_succ, i64_w, i32_w]; rfl
  refine pure_ (i := 2) (N := some 21) (v := ?_) (a' := ?_) #[true, true, true, false, false, false, false] rfl rfl (by kernel_rfl) (fun _ _ _ h => h) (Or.inl ⟨by rfl, ?_⟩) ?_ ?_
  rotate_left
  · intro w'; go_simp; with_reducible rfl
  rotate_left
  · simp only [Act.put, List.setIfInBounds_toArray, List.set_cons_zero, List.set_cons_succ, i64_w, i32_w]; rfl
  refine take_ (i := 3) (N := some 22) (v := ?_) (a' := ?_) #[true, true, true, true, false, false, false] rfl rfl (by kernel_rfl) (fun _ _ _ h => h) (Or.inl ⟨by rfl, ?_⟩) hHeld ?_ ?_
  rotate_left
  · rintro w' ⟨s0, s1, s2⟩; go_simp; with_reducible rfl
  rotate_left
  · simp only [Act.put, List.setIfInBounds_toArray, List.set_cons_zero, List.set_cons_succ, i64_w, i32_w]; rfl
  refine take_ (i := 4) (N := some 23) (v := ?_) (a' := ?_) #[true, true, true, true, true, false, false] rfl rfl (by kernel_rfl) (fun _ _ _ h => h) (Or.inl ⟨by rfl, ?_⟩) hHeld ?_ ?_
  rotate_left
  · rintro w' ⟨s0, s1, s2⟩; go_simp; with_reducible rfl
  rotate_left
  · simp only [Act.put, List.setIfInBounds_toArray, List.set_cons_zero, List.set_cons_succ, i64_w, i32_w]; rfl
  clear b2 h0 h1
  refine last_ (i := 5) (N := some 24) #[true, true, true, true, true, true, false] rfl rfl (by kernel_rfl) (by decide) (fun K hK => ?_)
  refine goes_ Try.func28 (by kernel_rfl) rfl #[ptr gN, .agg #[.int .i64 (2 - (i : Int)), .int .i64 (1 + (i : Int))]] (by rfl) rfl rfl (by first | rfl | (simp only [List.map_toArray, List.map_cons, List.map_nil]; rfl)) ?_
  refine (NW.len_is HPd.out.net (2 - (i : Int)) (1 + (i : Int))).mono ?_
  rintro e W ⟨rfl, hb4⟩
  rw [rowAt_of HI.out]
  have HP := Aside0.mk (HPd.out.bel hb4)
  have HD := Aside0.mk (keepB HDd.out hb4)
  have HH := Aside0.mk (keepB HHd.out hb4)
  clear hb4 HPd HDd HHd
  refine ⟨_, rfl, hK.out _ _ ?_⟩
  clear hK K
  refine norm_ (a' := ?_) ?_ ?_
  rotate_left
  · show Act.put _ (some 24) _ = _
    simp only [Act.put, List.setIfInBounds_toArray, List.set_cons_zero, List.set_cons_succ, i64_w, i32_w]
    rfl
  refine pure_ (i := 6) (N := some 7) (v := ?_) (a' := ?_) #[true, true, true, true, true, true, true] rfl rfl (by kernel_rfl) (fun _ _ _ h => h) (Or.inl ⟨by rfl, ?_⟩) ?_ ?_
  rotate_left
  · intro w'; go_simp; with_reducible rfl
  rotate_left
  · simp only [Act.put, List.setIfInBounds_toArray, List.set_cons_zero, List.set_cons_succ, i64_w, i32_w]; rfl
  refine done_ (by kernel_rfl) ?_
  have x0 : W.cell? ⟨w.heap.size, 0, none⟩ = some (.int .i64 d.f0) := (blk_cell HD.out 0).trans rfl
  have x2 : W.cell? ⟨w.heap.size, 2, none⟩ = some (.int .i64 d.f2) := (blk_cell HD.out 2).trans rfl
  have x3 : W.cell? ⟨w.heap.size, 3, none⟩ = some (.string d.f3) := (blk_cell HD.out 3).trans rfl
  have hpt := pair_ptr HP.out HI.out
  obtain ⟨hbd, _⟩ := (HG.out.inv.at HI.out).bd
  have HBd := Aside0.mk hbd
  clear hbd
  by_cases k0 : d.f0 = 0
  · have e0 : (d.f0 == 0) = true := by rw [k0]; rfl
    have HS := Aside0.mk (show doS S d = (if d.f3.size ≤ 300 then sendS S i d.f3 else S) by unfold doS; rw [← HID.out]; exact if_pos k0)
    clear k0
    by_cases hs3 : d.f3.size ≤ 300
    · have d3 : decide ((d.f3.size : Int) ≤ 300) = true := decide_eq_true (by omega)
      rw [if_pos hs3] at HS
      have HS3 := Aside0.mk (show d.f3.size ≤ 4611686018427387904 by omega)
      clear hs3
      have HFR := Aside0.mk (fun q hq => HG.out.from HI.out (send_pk (HG.out.inv.at HI.out) d.f3 q hq))
      obtain ⟨E, hE⟩ : ∃ E, E = sdE (S i).l d.f3 := ⟨_, rfl⟩
      have HE := Aside0.mk hE
      have HPd := Aside0.mk HP.out.drew
      have HDd := Aside0.mk (blk_drew HD.out)
      go_wp2
      have a1 := pair_ptr HPd.out HI.out
      have x3d : W.drew.cell? ⟨w.heap.size, 3, none⟩ = some (.string d.f3) := (blk_cell HDd.out 3).trans rfl
      refine start_ (n := 14) (S := fun w' => w'.cell? ⟨bx, i, none⟩ = some (ptr (ga i)) ∧ w'.cell? ⟨w.heap.size, 3, none⟩ = some (.string d.f3)) (ds := [8]) #[false, false, false, false, false, false, false, false, false, false, false, false, false, false] (by kernel_rfl) rfl rfl ⟨a1, x3d⟩ (fun hHeld => ?_)
      refine pure_ (i := 0) (N := some 34) (v := ?_) (a' := ?_) #[true, false, false, false, false, false, false, false, false, false, false, false, false, false] rfl rfl (by kernel_rfl) (fun _ _ _ h => h) (Or.inl ⟨by rfl, ?_⟩) ?_ ?_
      rotate_left
      · intro w'; go_simp; with_reducible rfl
      rotate_left
      · simp only [Act.put, List.setIfInBounds_toArray, List.set_cons_zero, List.set_cons_succ, i64_w, i32_w]; rfl
      refine pure_ (i := 1) (N := some 35) (v := ?_) (a' := ?_) #[true, true, false, false, false, false, false, false, false, false, false, false, false, false] rfl rfl (by kernel_rfl) (fun _ _ _ h => h) (Or.inl ⟨by rfl, ?_⟩) ?_ ?_
      rotate_left
      · intro w'; go_simp; with_reducible rfl
      rotate_left
      · simp only [Act.put, List.setIfInBounds_toArray, List.set_cons_zero, List.set_cons_succ, i64_w, i32_w]; rfl
      refine pure_ (i := 2) (N := some 36) (v := ?_) (a' := ?_) #[true, true, true, false, false, false, false, false, false, false, false, false, false, false] rfl rfl (by kernel_rfl) (fun _ _ _ h => h) (Or.inl ⟨by rfl, ?_⟩) ?_ ?_
      rotate_left
      · intro w'; go_simp; with_reducible rfl
      rotate_left
      · simp only [Act.put, List.setIfInBounds_toArray, List.set_cons_zero, List.set_cons_succ, i64_w, i32_w]; rfl
      refine pure_ (i := 3) (N := some 37) (v := ?_) (a' := ?_) #[true, true, true, true, false, false, false, false, false, false, false, false, false, false] rfl rfl (by kernel_rfl) (fun _ _ _ h => h) (Or.inl ⟨by rfl, ?_⟩) ?_ ?_
      rotate_left
      · intro w'; go_simp; with_reducible rfl
      rotate_left
      · simp only [Act.put, List.setIfInBounds_toArray, List.set_cons_zero, List.set_cons_succ, i64_w, i32_w]; rfl
      refine pure_ (i := 4) (N := some 38) (v := ?_) (a' := ?_) #[true, true, true, true, true, false, false, false, false, false, false, false, false, false] rfl rfl (by kernel_rfl) (fun _ _ _ h => h) (Or.inl ⟨by rfl, ?_⟩) ?_ ?_
      rotate_left
      · intro w'; go_simp; with_reducible rfl
      rotate_left
      · simp only [Act.put, List.setIfInBounds_toArray, List.set_cons_zero, List.set_cons_succ, i64_w, i32_w]; rfl
      refine take_ (i := 5) (N := some 39) (v := ?_) (a' := ?_) #[true, true, true, true, true, true, false, false, false, false, false, false, false, false] rfl rfl (by kernel_rfl) (fun _ _ _ h => h) (Or.inl ⟨by rfl, ?_⟩) hHeld ?_ ?_
      rotate_left
      · rintro w' ⟨s0, s1⟩; go_simp; with_reducible rfl
      rotate_left
      · simp only [Act.put, List.setIfInBounds_toArray, List.set_cons_zero, List.set_cons_succ, i64_w, i32_w]; rfl
      refine pure_ (i := 6) (N := some 40) (v := ?_) (a' := ?_) #[true, true, true, true, true, true, true, false, false, false, false, false, false, false] rfl rfl (by kernel_rfl) (fun _ _ _ h => h) (Or.inl ⟨by rfl, ?_⟩) ?_ ?_
      rotate_left
      · intro w'; go_simp; with_reducible rfl
      rotate_left
      · simp only [Act.put, List.setIfInBounds_toArray, List.set_cons_zero, List.set_cons_succ, i64_w, i32_w]; rfl
      refine take_ (i := 7) (N := some 41) (v := ?_) (a' := ?_) #[true, true, true, true, true, true, true, true, false, false, false, false, false, false] rfl rfl (by kernel_rfl) (fun _ _ _ h => h) (Or.inl ⟨by rfl, ?_⟩) hHeld ?_ ?_
      rotate_left
      · rintro w' ⟨s0, s1⟩; go_simp; with_reducible rfl
      rotate_left
      · simp only [Act.put, List.setIfInBounds_toArray, List.set_cons_zero, List.set_cons_succ, i64_w, i32_w]; rfl
      clear a1 x3d x0 x2 x3 hpt
      refine last_ (i := 8) (N := some 42) #[true, true, true, true, true, true, true, true, true, false, false, false, false, false] rfl rfl (by kernel_rfl) (by decide) (fun K hK => ?_)
      refine goes_ Try.func38 (by kernel_rfl) rfl #[ptr (ga i), .string d.f3] (by rfl) rfl rfl (by first | rfl | (simp only [List.map_toArray, List.map_cons, List.map_nil]; rfl)) ?_
      refine (LK.send_is (HPd.out.lk i HI.out) HBd.out d.f3 HS3.out).mono ?_
      rintro e W5 ⟨o, v', rfl, ho, st⟩
      rw [← hE]
      obtain ⟨Ao, co, rfl, hro⟩ := RowP.of_R ho
      have HP5 := Aside0.mk (HPd.out.linkAct HI.out st)
      have HO5 := Aside0.mk (hro.mono (ok' := fun k => tg ow W.drew W5 (1 + i) k = 1 + i) (fun k hk => tg_new hk.2.1 hk.2.2))
      have HD5 := Aside0.mk ((st.mods.block _ (blk_lt HDd.out) (fun e => by have := HPd.out.olk i HI.out _ e; rw [HD0.out] at this; omega)).trans HDd.out)
      have HT5 := Aside0.mk (show tg ow W.drew W5 (1 + i) w.heap.size = 0 from (tg_old (blk_lt HDd.out)).trans HD0.out)
      clear ho st hro hE
      refine ⟨_, rfl, hK.out _ _ ?_⟩
      clear hK K
      refine norm_ (a' := ?_) ?_ ?_
      rotate_left
      · show Act.put _ (some 42) _ = _
        simp only [Act.put, List.setIfInBounds_toArray, List.set_cons_zero, List.set_cons_succ, i64_w, i32_w]
        rfl
      refine pure_ (i := 9) (N := some 33) (v := ?_) (a' := ?_) #[true, true, true, true, true, true, true, true, true, true, false, false, false, false] rfl rfl (by kernel_rfl) (fun _ _ _ h => h) (Or.inl ⟨by rfl, ?_⟩) ?_ ?_
      rotate_left
      · intro w'; go_simp; with_reducible rfl
      rotate_left
      · simp only [Act.put, List.setIfInBounds_toArray, List.set_cons_zero, List.set_cons_succ, i64_w, i32_w]; rfl
      refine pure_ (i := 10) (N := some 43) (v := ?_) (a' := ?_) #[true, true, true, true, true, true, true, true, true, true, true, false, false, false] rfl rfl (by kernel_rfl) (fun _ _ _ h => h) (Or.inl ⟨by rfl, ?_⟩) ?_ ?_
      rotate_left
      · intro w'; go_simp; with_reducible rfl
      rotate_left
      · simp only [Act.put, List.setIfInBounds_toArray, List.set_cons_zero, List.set_cons_succ, i64_w, i32_w]; rfl
      refine pure_ (i := 11) (N := some 44) (v := ?_) (a' := ?_) #[true, true, true, true, true, true, true, true, true, true, true, true, false, false] rfl rfl (by kernel_rfl) (fun _ _ _ h => h) (Or.inl ⟨by rfl, ?_⟩) ?_ ?_
      rotate_left
      · intro w'; go_simp; with_reducible rfl
      rotate_left
      · simp only [Act.put, List.setIfInBounds_toArray, List.set_cons_zero, List.set_cons_succ, i64_w, i32_w]; rfl
      refine pure_ (i := 12) (N := some 8) (v := ?_) (a' := ?_) #[true, true, true, true, true, true, true, true, true, true, true, true, true, false] rfl rfl (by kernel_rfl) (fun _ _ _ h => h) (Or.inl ⟨by rfl, ?_⟩) ?_ ?_
      rotate_left
      · intro w'; go_simp; with_reducible rfl
      rotate_left
      · simp only [Act.put, List.setIfInBounds_toArray, List.set_cons_zero, List.set_cons_succ, i64_w, i32_w]; rfl
      refine pure_ (i := 13) (N := some 9) (v := ?_) (a' := ?_) #[true, true, true, true, true, true, true, true, true, true, true, true, true, true] rfl rfl (by kernel_rfl) (fun _ _ _ h => h) (Or.inl ⟨by rfl, ?_⟩) ?_ ?_
      rotate_left
      · intro w'; go_simp; with_reducible rfl
      rotate_left
      · simp only [Act.put, List.setIfInBounds_toArray, List.set_cons_zero, List.set_cons_succ, i64_w, i32_w]; rfl
      refine done_ (by kernel_rfl) ?_
      have HL8 := Aside0.mk (sdP_len (S i).l d.f3)
      by_cases hE0 : E = 0
      · have eE : (E == 0) = true := by rw [hE0]; rfl
        have HSD := Aside0.mk (show sdS (S i) d.f3 = { S i with l := sdL (S i).l d.f3, sent := (S i).sent ++ [d.f3] } by unfold sdS; rw [if_pos (HE.out.symm.trans hE0)])
        clear hE0
        go_wp2
        have HP5d := Aside0.mk HP5.out.drew
        have HO5d := Aside0.mk (HO5.out.below (below_drew1 (Below.refl _ _)))
        have a3 := pair_sent HP5d.out.box HI.out
        have x3 : W5.drew.cell? ⟨w.heap.size, 3, none⟩ = some (.string d.f3) := (blk_cell (blk_drew HD5.out) 3).trans rfl
        refine start_ (n := 16) (S := fun w' => w'.cell? ⟨bx, 3 + i, none⟩ = some (sv i) ∧ w'.cell? ⟨w.heap.size, 3, none⟩ = some (.string d.f3)) (ds := [15]) #[false, false, false, false, false, false, false, false, false, false, false, false, false, false, false, false] (by kernel_rfl) rfl rfl ⟨a3, x3⟩ (fun hHeld => ?_)
        refine pure_ (i := 0) (N := some 47) (v := ?_) (a' := ?_) #[true, false, false, false, false, false, false, false, false, false, false, false, false, false, false, false] rfl rfl (by kernel_rfl) (fun _ _ _ h => h) (Or.inl ⟨by rfl, ?_⟩) ?_ ?_
        rotate_left
        · intro w'; go_simp; with_reducible rfl
        rotate_left
        · simp only [Act.put, List.setIfInBounds_toArray, List.set_cons_zero, List.set_cons_succ, i64_w, i32_w]; rfl
        refine pure_ (i := 1) (N := some 48) (v := ?_) (a' := ?_) #[true, true, false, false, false, false, false, false, false, false, false, false, false, false, false, false] rfl rfl (by kernel_rfl) (fun _ _ _ h => h) (Or.inl ⟨by rfl, ?_⟩) ?_ ?_
        rotate_left
        · intro w'; go_simp; with_reducible rfl
        rotate_left
        · simp only [Act.put, List.setIfInBounds_toArray, List.set_cons_zero, List.set_cons_succ, i64_w, i32_w]; rfl
        refine pure_ (i := 2) (N := some 49) (v := ?_) (a' := ?_) #[true, true, true, false, false, false, false, false, false, false, false, false, false, false, false, false] rfl rfl (by kernel_rfl) (fun _ _ _ h => h) (Or.inl ⟨by rfl, ?_⟩) ?_ ?_
        rotate_left
        · intro w'; go_simp; with_reducible rfl
        rotate_left
        · simp only [Act.put, List.setIfInBounds_toArray, List.set_cons_zero, List.set_cons_succ, i64_w, i32_w]; rfl
        refine pure_ (i := 3) (N := some 50) (v := ?_) (a' := ?_) #[true, true, true, true, false, false, false, false, false, false, false, false, false, false, false, false] rfl rfl (by kernel_rfl) (fun _ _ _ h => h) (Or.inl ⟨by rfl, ?_⟩) ?_ ?_
        rotate_left
        · intro w'; go_simp; with_reducible rfl
        rotate_left
        · simp only [Act.put, List.setIfInBounds_toArray, List.set_cons_zero, List.set_cons_succ, i64_w, i32_w]; rfl
        refine pure_ (i := 4) (N := some 51) (v := ?_) (a' := ?_) #[true, true, true, true, true, false, false, false, false, false, false, false, false, false, false, false] rfl rfl (by kernel_rfl) (fun _ _ _ h => h) (Or.inl ⟨by rfl, ?_⟩) ?_ ?_
        rotate_left
        · intro w'; go_simp; with_reducible rfl
        rotate_left
        · simp only [Act.put, List.setIfInBounds_toArray, List.set_cons_zero, List.set_cons_succ, i64_w, i32_w]; rfl
        refine pure_ (i := 5) (N := some 52) (v := ?_) (a' := ?_) #[true, true, true, true, true, true, false, false, false, false, false, false, false, false, false, false] rfl rfl (by kernel_rfl) (fun _ _ _ h => h) (Or.inl ⟨by rfl, ?_⟩) ?_ ?_
        rotate_left
        · intro w'; go_simp; with_reducible rfl
        rotate_left
        · simp only [Act.put, List.setIfInBounds_toArray, List.set_cons_zero, List.set_cons_succ, i64_w, i32_w]; rfl
        refine pure_ (i := 6) (N := some 53) (v := ?_) (a' := ?_) #[true, true, true, true, true, true, true, false, false, false, false, false, false, false, false, false] rfl rfl (by kernel_rfl) (fun _ _ _ h => h) (Or.inl ⟨by rfl, ?_⟩) ?_ ?_
        rotate_left
        · intro w'; go_simp; with_reducible rfl
        rotate_left
        · simp only [Act.put, List.setIfInBounds_toArray, List.set_cons_zero, List.set_cons_succ, i64_w, i32_w]; rfl
        refine take_ (i := 7) (N := some 54) (v := ?_) (a' := ?_) #[true, true, true, true, true, true, true, true, false, false, false, false, false, false, false, false] rfl rfl (by kernel_rfl) (fun _ _ _ h => h) (Or.inl ⟨by rfl, ?_⟩) hHeld ?_ ?_
        rotate_left
        · rintro w' ⟨s0, s1⟩; go_simp; with_reducible rfl
        rotate_left
        · simp only [Act.put, List.setIfInBounds_toArray, List.set_cons_zero, List.set_cons_succ, i64_w, i32_w]; rfl
        refine pure_ (i := 8) (N := some 55) (v := ?_) (a' := ?_) #[true, true, true, true, true, true, true, true, true, false, false, false, false, false, false, false] rfl rfl (by kernel_rfl) (fun _ _ _ h => h) (Or.inl ⟨by rfl, ?_⟩) ?_ ?_
        rotate_left
        · intro w'; go_simp; with_reducible rfl
        rotate_left
        · simp only [Act.put, List.setIfInBounds_toArray, List.set_cons_zero, List.set_cons_succ, i64_w, i32_w]; rfl
        refine take_ (i := 9) (N := some 56) (v := ?_) (a' := ?_) #[true, true, true, true, true, true, true, true, true, true, false, false, false, false, false, false] rfl rfl (by kernel_rfl) (fun _ _ _ h => h) (Or.inl ⟨by rfl, ?_⟩) hHeld ?_ ?_
        rotate_left
        · rintro w' ⟨s0, s1⟩; go_simp; with_reducible rfl
        rotate_left
        · simp only [Act.put, List.setIfInBounds_toArray, List.set_cons_zero, List.set_cons_succ, i64_w, i32_w]; rfl
        refine pure_ (i := 12) (N := some 59) (v := ?_) (a' := ?_) #[true, true, true, true, true, true, true, true, true, true, false, false, true, false, false, false] rfl rfl (by kernel_rfl) (fun _ _ _ h => h) (Or.inl ⟨by rfl, ?_⟩) ?_ ?_
        rotate_left
        · intro w'; go_simp; with_reducible rfl
        rotate_left
        · simp only [Act.put, List.setIfInBounds_toArray, List.set_cons_zero, List.set_cons_succ, i64_w, i32_w]; rfl
        refine pure_ (i := 13) (N := some 60) (v := ?_) (a' := ?_) #[true, true, true, true, true, true, true, true, true, true, false, false, true, true, false, false] rfl rfl (by kernel_rfl) (fun _ _ _ h => h) (Or.inl ⟨by rfl, ?_⟩) ?_ ?_
        rotate_left
        · intro w'; go_simp; with_reducible rfl
        rotate_left
        · simp only [Act.put, List.setIfInBounds_toArray, List.set_cons_zero, List.set_cons_succ, i64_w, i32_w]; rfl
        clear a3 x3
        have HDD := Aside0.mk (blk_drew HD5.out)
        clear HP5 HO5 HD5
        generalize hwd : W5.drew = W5d at *
        refine one_ (i := 10) (N := some 57) #[true, true, true, true, true, true, true, true, true, true, true, false, true, true, false, false] rfl rfl (by kernel_rfl) (by decide) (fun K hK => ?_)
        refine event_step (v := .slice (some ⟨W5d.heap.size, 0, none⟩) 1 1) (w1 := W5d.alloc (.cells #[.string d.f3] 9 (0, 0))) (by rfl) (by first | (go_simp; done) | (go_simp; rfl)) ?_
        have a3 : (W5d.alloc (.cells #[.string d.f3] 9 (0, 0))).cell? ⟨bx, 3 + i, none⟩ = some (sv i) := pair_sent (HP5d.out.alloc (.cells #[.string d.f3] 9 (0, 0))).box HI.out
        have x3 : (W5d.alloc (.cells #[.string d.f3] 9 (0, 0))).cell? ⟨w.heap.size, 3, none⟩ = some (.string d.f3) := (blk_cell (blk_alloc HDD.out _) 3).trans rfl
        refine hK.out _ _ ⟨a3, x3⟩ (fun hHeld => ?_)
        clear hK K a3 x3
        refine norm_ (a' := ?_) ?_ ?_
        rotate_left
        · show Act.put _ (some 57) _ = _
          simp only [Act.put, List.setIfInBounds_toArray, List.set_cons_zero, List.set_cons_succ, i64_w, i32_w]
          rfl
        refine one_ (i := 11) (N := some 58) #[true, true, true, true, true, true, true, true, true, true, true, true, true, true, false, false] rfl rfl (by kernel_rfl) (by decide) (fun K hK => ?_)
        refine Kd.R_append_step Kd.string (w0 := W5d) 0 (by rfl) (.tmp 54) (.tmp 57) 73 9 (.string ⟨#[]⟩) 16 rfl Try.underlying73 info9 rfl (by decide) (by omega) (sv i) (S i).sent d.f3 [.string d.f3] (fun k => tg ow W.drew W5 (1 + i) k = 4 + i ∨ W5d.heap.size ≤ k) (fun _ => False) rfl rfl rfl (fun _ hk => hk.elim) (fun _ h => .inr h) (Kd.R_mono (by have h := HP5d.out.sent i HI.out; rw [upd_same] at h; exact h) (fun _ h => .inl h)) (Below.refl 0 W5d) (Nat.zero_le _) (by have := hsl i HI.out; omega) ?_
        intro v1 W7 hr7 _ hg7 _
        have hsa := HP5d.out.sentAct HI.out hr7 hg7
        have HO7 := Aside0.mk (RowP.sent (v1 := v1) HP5d.out HI.out HO5d.out hg7)
        have HP7 := Aside0.mk hsa.1
        have HB7 := Aside0.mk hsa.2
        have HD7 := Aside0.mk ((hg7.block _ (blk_lt HDD.out) (fun e => by have h := (HP5d.out.sent i HI.out).1 _ e.symm; have h2 := HT5.out; dsimp only at h; omega)).trans HDD.out)
        obtain ⟨A1, c1, rfl⟩ := Kd.R_slice hr7
        clear hsa hr7 hg7
        have a3 := pair_sent HB7.out HI.out
        have x3 : W7.cell? ⟨w.heap.size, 3, none⟩ = some (.string d.f3) := (blk_cell HD7.out 3).trans rfl
        refine hK.out _ _ ⟨a3, x3⟩ (fun hHeld => ?_)
        clear hK K
        refine norm_ (a' := ?_) ?_ ?_
        rotate_left
        · show Act.put _ (some 58) _ = _
          simp only [Act.put, List.setIfInBounds_toArray, List.set_cons_zero, List.set_cons_succ, i64_w, i32_w]
          rfl
        refine pure_ (i := 14) (N := some 61) (v := ?_) (a' := ?_) #[true, true, true, true, true, true, true, true, true, true, true, true, true, true, true, false] rfl rfl (by kernel_rfl) (fun _ _ _ h => h) (Or.inl ⟨by rfl, ?_⟩) ?_ ?_
        rotate_left
        · intro w'; go_simp; with_reducible rfl
        rotate_left
        · simp only [Act.put, List.setIfInBounds_toArray, List.set_cons_zero, List.set_cons_succ, i64_w, i32_w]; rfl
        refine last_ (i := 15) (N := none) #[true, true, true, true, true, true, true, true, true, true, true, true, true, true, true, true] rfl rfl (by kernel_rfl) (by decide) (fun K hK => ?_)
        have hf7 := blk_frozen HB7.out (3 + i)
        refine skip_ (w1 := ?_) (by rfl) rfl ?_ ?_
        rotate_left
        · go_simp
          rfl
        refine hK.out _ _ ?_
        clear hK K
        refine done_ (by kernel_rfl) ?_
        have hln : ((S i).sent ++ [d.f3]).length = (S i).sent.length + 1 := by simp
        rw [hln] at HP7 HO7
        go_wp2_with (first
          | ((with_reducible refine gate_dst (N := 64) rfl ?_); refine goesL_ (some 64) rfl rfl Try.func55 (by kernel_rfl) rfl #[ptr bx, .slice Ao (sdP (S i).l d.f3).length co] rfl (by first | (simp only [List.map_toArray, List.map_cons, List.map_nil]; rfl) | rfl) ?_; refine (out_is HP7.out HI.out HO7.out HFR.out (by rw [upd_upd, upd_same]; rcases two_cases HI.out with h | h <;> (subst h; exact hcap)) (by have := HL8.out; omega)).mono ?_; rintro e W9 ⟨rfl, ow9, hp9⟩; have HP9 := Aside0.mk hp9; clear hp9; refine ⟨_, rfl, ?_⟩))
        go_ret
        have h9 := HP9.out
        rw [upd_upd, upd_same] at h9
        refine ⟨rfl, ?_⟩
        have e : doS S d = outS (upd S i { S i with l := sdL (S i).l d.f3, sent := (S i).sent ++ [d.f3] }) i (sdP (S i).l d.f3) := by
          rw [HS.out]
          unfold sendS
          rw [HSD.out]
        rw [e]
        exact ⟨_, _, _, ow9, h9⟩
      · have eE : (E == 0) = false := by simpa using hE0
        have HSD := Aside0.mk (show sdS (S i) d.f3 = { S i with l := sdL (S i).l d.f3 } by unfold sdS; rw [if_neg (fun e => hE0 (HE.out.trans e))])
        clear hE0
        go_wp2_with (first
          | ((with_reducible refine gate_dst (N := 64) rfl ?_); refine goesL_ (some 64) rfl rfl Try.func55 (by kernel_rfl) rfl #[ptr bx, .slice Ao (sdP (S i).l d.f3).length co] rfl (by first | (simp only [List.map_toArray, List.map_cons, List.map_nil]; rfl) | rfl) ?_; refine (out_is HP5.out HI.out (HO5.out.mono (fun k hk => by rw [hk]; omega)) HFR.out (by rcases two_cases HI.out with h | h <;> (subst h; exact hcap)) (by have := HL8.out; omega)).mono ?_; rintro e W9 ⟨rfl, ow9, hp9⟩; have HP9 := Aside0.mk hp9; clear hp9; refine ⟨_, rfl, ?_⟩))
        go_ret
        have h9 := HP9.out
        refine ⟨rfl, ?_⟩
        have e : doS S d = outS (upd S i { S i with l := sdL (S i).l d.f3 }) i (sdP (S i).l d.f3) := by
          rw [HS.out]
          unfold sendS
          rw [HSD.out]
        rw [e]
        exact ⟨_, _, _, ow9, h9⟩
    · have d3 : decide ((d.f3.size : Int) ≤ 300) = false := decide_eq_false (by omega)
      rw [if_neg hs3] at HS
      clear hs3
      go_wp2
      go_ret
      exact ⟨rfl, va, sv, gv, ow, by rw [HS.out]; exact HP.out⟩
  · have e0 : (d.f0 == 0) = false := by simpa using k0
    by_cases k1 : d.f0 = 1
    · have e1 : (d.f0 == 1) = true := by rw [k1]; rfl
      have HS := Aside0.mk (show doS S d = tickS S i by unfold doS; rw [← HID.out]; exact (if_neg k0).trans (if_pos k1))
      have HFR := Aside0.mk (fun q hq => HG.out.from HI.out (tick_pk (HG.out.inv.at HI.out) q hq))
      clear k0 k1
      go_wp2_with (first
        | ((with_reducible refine gate_dst (N := 74) rfl ?_); refine goesL_ (some 74) rfl rfl Try.func50 (by kernel_rfl) rfl #[ptr (ga i)] rfl (by first | (simp only [List.map_toArray, List.map_cons, List.map_nil]; rfl) | rfl) ?_; refine (tick_is (HP.out.lk i HI.out) HBd.out).mono ?_; rintro e W5 ⟨o, rfl, ho, hb⟩; obtain ⟨Ao, co, rfl, hro⟩ := RowP.of_R ho; have HP5 := Aside0.mk (HP.out.bel hb); have HO5 := Aside0.mk (hro.mono (ok' := fun k => ow k ≠ 3) (fun k hk => by rw [HP.out.new k hk.2.1]; decide)); clear ho hb hro; refine ⟨_, rfl, ?_⟩)
        | ((with_reducible refine gate_dst (N := 75) rfl ?_); refine goesL_ (some 75) rfl rfl Try.func55 (by kernel_rfl) rfl #[ptr bx, .slice Ao (outs (S i).l 0 (S i).l.out).length co] rfl (by first | (simp only [List.map_toArray, List.map_cons, List.map_nil]; rfl) | rfl) ?_; refine (out_is HP5.out HI.out HO5.out HFR.out hcap (by rw [outs_len]; have := HBd.out.o8; omega)).mono ?_; rintro e W9 ⟨rfl, ow9, hp9⟩; have HP9 := Aside0.mk hp9; clear hp9; refine ⟨_, rfl, ?_⟩))
      go_ret
      exact ⟨rfl, va, sv, gv, ow9, by rw [HS.out]; exact HP9.out⟩
    · have e1 : (d.f0 == 1) = false := by simpa using k1
      by_cases k2 : d.f0 = 2
      · have e2 : (d.f0 == 2) = true := by rw [k2]; rfl
        have e3 : (d.f0 == 3) = false := by rw [k2]; rfl
        have e4 : (d.f0 == 4) = false := by rw [k2]; rfl
        have HS0 := Aside0.mk (show doS S d = (if (S i).row.length = 0 then S else comeS S i (atN d.f2 (S i).row.length)) by
          unfold doS
          rw [← HID.out]
          dsimp only
          rw [if_neg (by omega), if_neg (by omega), if_pos (by omega)]
          by_cases hz : (S i).row.length = 0
          · rw [if_pos hz, if_pos hz]
          · rw [if_neg hz, if_neg hz]
            first | done | (rw [if_neg (by omega), if_neg (by omega)]))
        clear k0 k1 k2
        by_cases hn : (S i).row.length = 0
        · have n0 : (((S i).row.length : Int) == 0) = true := by rw [hn]; rfl
          have n1 : ((S i).row.length == 0) = true := by rw [hn]; rfl
          rw [if_pos hn] at HS0
          clear hn
          go_wp2
          go_ret
          exact ⟨rfl, va, sv, gv, ow, by rw [HS0.out]; exact HP.out⟩
        · have n0 : (((S i).row.length : Int) == 0) = false := by simpa using hn
          have n1 : ((S i).row.length == 0) = false := by simpa using hn
          rw [if_neg hn] at HS0
          obtain ⟨k, hk⟩ : ∃ k, k = atN d.f2 (S i).row.length := ⟨_, rfl⟩
          have HK := Aside0.mk (show k < (S i).row.length by rw [hk]; exact (atN_lt d.f2 (by omega)).1)
          have HAK := Aside0.mk (show caduceuslaw13_at.f d.f2 (S i).row.length = some (k : Int) by rw [hk]; exact at_f d.f2 (by omega) (by rcases two_cases HI.out with h | h <;> (subst h; omega)))
          have HS := Aside0.mk (show doS S d = comeS S i k by rw [HS0.out, hk])
          clear hn hk HS0
          go_wp2_with (first
            | ((with_reducible refine gate_dst (N := 85) rfl ?_); refine goesL_ (some 85) rfl rfl Try.func36 (by kernel_rfl) rfl #[.int .i64 d.f2, .int .i64 (S i).row.length] rfl (by first | (simp only [List.map_toArray, List.map_cons, List.map_nil]; rfl) | rfl) ?_; refine (caduceuslaw13_at.calls d.f2 (S i).row.length (k : Int) _ HAK.out).mono ?_; rintro e W6 ⟨rfl, hd⟩; have HP6 := Aside0.mk (HP.out.bel hd.below); have HH6 := Aside0.mk (keepB HH.out hd.below); have HD6 := Aside0.mk (keepB HD.out hd.below); clear hd x0 x2 x3 hpt; have x0 : W6.cell? ⟨w.heap.size, 0, none⟩ = some (.int .i64 d.f0) := (blk_cell HD6.out 0).trans rfl; refine ⟨_, rfl, ?_⟩)
            | ((with_reducible refine gate_dst (N := 109) rfl ?_); refine goesL_ (some 109) rfl rfl Try.func56 (by kernel_rfl) rfl #[ptr bx, .int .i64 i, .int .i64 k] rfl (by first | (simp only [List.map_toArray, List.map_cons, List.map_nil]; rfl) | rfl) ?_; refine (come_is HP6.out HG.out (fun j hj => by have := hsl j hj; omega) HI.out rfl k).mono ?_; rintro e W9 ⟨rfl, va9, gv9, ow9, hp9⟩; have HP9 := Aside0.mk hp9; clear hp9; refine ⟨_, rfl, ?_⟩))
          go_ret
          exact ⟨rfl, va9, sv, gv9, ow9, by rw [HS.out]; exact HP9.out⟩
      · have e2 : (d.f0 == 2) = false := by simpa using k2
        by_cases k3 : d.f0 = 3
        · have e3 : (d.f0 == 3) = true := by rw [k3]; rfl
          have HS0 := Aside0.mk (show doS S d = (if (S i).row.length = 0 then S else twiceS S i (atN d.f2 (S i).row.length)) by
            unfold doS
            rw [← HID.out]
            dsimp only
            rw [if_neg (by omega), if_neg (by omega), if_pos (by omega)]
            by_cases hz : (S i).row.length = 0
            · rw [if_pos hz, if_pos hz]
            · rw [if_neg hz, if_neg hz]
              first | done | (rw [if_pos (by omega)]))
          clear k0 k1 k2 k3
          by_cases hn : (S i).row.length = 0
          · have n0 : (((S i).row.length : Int) == 0) = true := by rw [hn]; rfl
            have n1 : ((S i).row.length == 0) = true := by rw [hn]; rfl
            rw [if_pos hn] at HS0
            clear hn
            go_wp2
            go_ret
            exact ⟨rfl, va, sv, gv, ow, by rw [HS0.out]; exact HP.out⟩
          · have n0 : (((S i).row.length : Int) == 0) = false := by simpa using hn
            have n1 : ((S i).row.length == 0) = false := by simpa using hn
            rw [if_neg hn] at HS0
            obtain ⟨k, hk⟩ : ∃ k, k = atN d.f2 (S i).row.length := ⟨_, rfl⟩
            have HK := Aside0.mk (show k < (S i).row.length by rw [hk]; exact (atN_lt d.f2 (by omega)).1)
            have HAK := Aside0.mk (show caduceuslaw13_at.f d.f2 (S i).row.length = some (k : Int) by rw [hk]; exact at_f d.f2 (by omega) (by rcases two_cases HI.out with h | h <;> (subst h; omega)))
            have HS := Aside0.mk (show doS S d = twiceS S i k by rw [HS0.out, hk])
            clear hn hk HS0
            go_wp2_with (first
              | ((with_reducible refine gate_dst (N := 85) rfl ?_); refine goesL_ (some 85) rfl rfl Try.func36 (by kernel_rfl) rfl #[.int .i64 d.f2, .int .i64 (S i).row.length] rfl (by first | (simp only [List.map_toArray, List.map_cons, List.map_nil]; rfl) | rfl) ?_; refine (caduceuslaw13_at.calls d.f2 (S i).row.length (k : Int) _ HAK.out).mono ?_; rintro e W6 ⟨rfl, hd⟩; have HP6 := Aside0.mk (HP.out.bel hd.below); have HH6 := Aside0.mk (keepB HH.out hd.below); have HD6 := Aside0.mk (keepB HD.out hd.below); clear hd x0 x2 x3 hpt; have x0 : W6.cell? ⟨w.heap.size, 0, none⟩ = some (.int .i64 d.f0) := (blk_cell HD6.out 0).trans rfl; refine ⟨_, rfl, ?_⟩))
            have b2 : W6.drew.cell? ⟨bx, 2, none⟩ = some (ptr gN) := (blk_cell HP6.out.drew.box 2).trans rfl
            have h0 : W6.drew.cell? ⟨w2.heap.size, 0, none⟩ = some (.int .i64 (2 - (i : Int))) := (blk_cell (blk_drew HH6.out) 0).trans rfl
            have h1 : W6.drew.cell? ⟨w2.heap.size, 1, none⟩ = some (.int .i64 (1 + (i : Int))) := (blk_cell (blk_drew HH6.out) 1).trans rfl
            refine start_ (n := 7) (S := fun w' => w'.cell? ⟨bx, 2, none⟩ = some (ptr gN) ∧ w'.cell? ⟨w2.heap.size, 0, none⟩ = some (.int .i64 (2 - (i : Int))) ∧ w'.cell? ⟨w2.heap.size, 1, none⟩ = some (.int .i64 (1 + (i : Int)))) (ds := [6]) #[false, false, false, false, false, false, false] (by kernel_rfl) rfl rfl ⟨b2, h0, h1⟩ (fun hHeld => ?_)
            refine pure_ (i := 0) (N := some 89) (v := ?_) (a' := ?_) #[true, false, false, false, false, false, false] rfl rfl (by kernel_rfl) (fun _ _ _ h => h) (Or.inl ⟨by rfl, ?_⟩) ?_ ?_
            rotate_left
            · intro w'; go_simp; with_reducible rfl
            rotate_left
            · simp only [Act.put, List.setIfInBounds_toArray, List.set_cons_zero, List.set_cons_succ, i64_w, i32_w]; rfl
            refine pure_ (i := 1) (N := some 90) (v := ?_) (a' := ?_) #[true, true, false, false, false, false, false] rfl rfl (by kernel_rfl) (fun _ _ _ h => h) (Or.inl ⟨by rfl, ?_⟩) ?_ ?_
            rotate_left
            · intro w'; go_simp; with_reducible rfl
            rotate_left
            · simp only [Act.put, List.setIfInBounds_toArray, List.set_cons_zero, List.set_cons_succ, i64_w, i32_w]; rfl
            refine pure_ (i := 2) (N := some 91) (v := ?_) (a' := ?_) #[true, true, true, false, false, false, false] rfl rfl (by kernel_rfl) (fun _ _ _ h => h) (Or.inl ⟨by rfl, ?_⟩) ?_ ?_
            rotate_left
            · intro w'; go_simp; with_reducible rfl
            rotate_left
            · simp only [Act.put, List.setIfInBounds_toArray, List.set_cons_zero, List.set_cons_succ, i64_w, i32_w]; rfl
            refine take_ (i := 3) (N := some 92) (v := ?_) (a' := ?_) #[true, true, true, true, false, false, false] rfl rfl (by kernel_rfl) (fun _ _ _ h => h) (Or.inl ⟨by rfl, ?_⟩) hHeld ?_ ?_
            rotate_left
            · rintro w' ⟨s0, s1, s2⟩; go_simp; with_reducible rfl
            rotate_left
            · simp only [Act.put, List.setIfInBounds_toArray, List.set_cons_zero, List.set_cons_succ, i64_w, i32_w]; rfl
            refine take_ (i := 4) (N := some 93) (v := ?_) (a' := ?_) #[true, true, true, true, true, false, false] rfl rfl (by kernel_rfl) (fun _ _ _ h => h) (Or.inl ⟨by rfl, ?_⟩) hHeld ?_ ?_
            rotate_left
            · rintro w' ⟨s0, s1, s2⟩; go_simp; with_reducible rfl
            rotate_left
            · simp only [Act.put, List.setIfInBounds_toArray, List.set_cons_zero, List.set_cons_succ, i64_w, i32_w]; rfl
            refine pure_ (i := 5) (N := some 94) (v := ?_) (a' := ?_) #[true, true, true, true, true, true, false] rfl rfl (by kernel_rfl) (fun _ _ _ h => h) (Or.inl ⟨by rfl, ?_⟩) ?_ ?_
            rotate_left
            · intro w'; go_simp; with_reducible rfl
            rotate_left
            · simp only [Act.put, List.setIfInBounds_toArray, List.set_cons_zero, List.set_cons_succ, i64_w, i32_w]; rfl
            clear b2 h0 h1
            refine last_ (i := 6) (N := some 95) #[true, true, true, true, true, true, true] rfl rfl (by kernel_rfl) (by decide) (fun K hK => ?_)
            refine goes_ Try.func19 (by kernel_rfl) rfl #[ptr gN, .agg #[.int .i64 (2 - (i : Int)), .int .i64 (1 + (i : Int))], .int .i64 k] (by rfl) rfl rfl (by first | rfl | (simp only [List.map_toArray, List.map_cons, List.map_nil]; rfl)) ?_
            refine (NW.twice_is HP6.out.drew.net HC.out (2 - (i : Int)) (1 + (i : Int)) k).mono ?_
            rintro e W9 ⟨rfl, hn9, hm9⟩
            have HP9 := Aside0.mk (HP6.out.drew.netAct (S' := twiceS S i k) hn9 hm9 (twice_of HG.out HI.out HK.out) (twiceS_same HI.out))
            clear hn9 hm9
            refine ⟨_, rfl, hK.out _ _ ?_⟩
            clear hK K
            refine done_ (by kernel_rfl) ?_
            go_wp2
            go_ret
            exact ⟨rfl, va, sv, gv, _, by rw [HS.out]; exact HP9.out⟩
        · have e3 : (d.f0 == 3) = false := by simpa using k3
          by_cases k4 : d.f0 = 4
          · have e4 : (d.f0 == 4) = true := by rw [k4]; rfl
            have HS0 := Aside0.mk (show doS S d = (if (S i).row.length = 0 then S else popS S i (atN d.f2 (S i).row.length)) by
              unfold doS
              rw [← HID.out]
              dsimp only
              rw [if_neg (by omega), if_neg (by omega), if_pos (by omega)]
              by_cases hz : (S i).row.length = 0
              · rw [if_pos hz, if_pos hz]
              · rw [if_neg hz, if_neg hz]
                first | done | (rw [if_neg (by omega), if_pos (by omega)]))
            clear k0 k1 k2 k3 k4
            by_cases hn : (S i).row.length = 0
            · have n0 : (((S i).row.length : Int) == 0) = true := by rw [hn]; rfl
              have n1 : ((S i).row.length == 0) = true := by rw [hn]; rfl
              rw [if_pos hn] at HS0
              clear hn
              go_wp2
              go_ret
              exact ⟨rfl, va, sv, gv, ow, by rw [HS0.out]; exact HP.out⟩
            · have n0 : (((S i).row.length : Int) == 0) = false := by simpa using hn
              have n1 : ((S i).row.length == 0) = false := by simpa using hn
              rw [if_neg hn] at HS0
              obtain ⟨k, hk⟩ : ∃ k, k = atN d.f2 (S i).row.length := ⟨_, rfl⟩
              have HK := Aside0.mk (show k < (S i).row.length by rw [hk]; exact (atN_lt d.f2 (by omega)).1)
              have HAK := Aside0.mk (show caduceuslaw13_at.f d.f2 (S i).row.length = some (k : Int) by rw [hk]; exact at_f d.f2 (by omega) (by rcases two_cases HI.out with h | h <;> (subst h; omega)))
              have HS := Aside0.mk (show doS S d = popS S i k by rw [HS0.out, hk])
              clear hn hk HS0
              go_wp2_with (first
                | ((with_reducible refine gate_dst (N := 85) rfl ?_); refine goesL_ (some 85) rfl rfl Try.func36 (by kernel_rfl) rfl #[.int .i64 d.f2, .int .i64 (S i).row.length] rfl (by first | (simp only [List.map_toArray, List.map_cons, List.map_nil]; rfl) | rfl) ?_; refine (caduceuslaw13_at.calls d.f2 (S i).row.length (k : Int) _ HAK.out).mono ?_; rintro e W6 ⟨rfl, hd⟩; have HP6 := Aside0.mk (HP.out.bel hd.below); have HH6 := Aside0.mk (keepB HH.out hd.below); have HD6 := Aside0.mk (keepB HD.out hd.below); clear hd x0 x2 x3 hpt; have x0 : W6.cell? ⟨w.heap.size, 0, none⟩ = some (.int .i64 d.f0) := (blk_cell HD6.out 0).trans rfl; refine ⟨_, rfl, ?_⟩))
              have b2 : W6.drew.cell? ⟨bx, 2, none⟩ = some (ptr gN) := (blk_cell HP6.out.drew.box 2).trans rfl
              have h0 : W6.drew.cell? ⟨w2.heap.size, 0, none⟩ = some (.int .i64 (2 - (i : Int))) := (blk_cell (blk_drew HH6.out) 0).trans rfl
              have h1 : W6.drew.cell? ⟨w2.heap.size, 1, none⟩ = some (.int .i64 (1 + (i : Int))) := (blk_cell (blk_drew HH6.out) 1).trans rfl
              refine start_ (n := 7) (S := fun w' => w'.cell? ⟨bx, 2, none⟩ = some (ptr gN) ∧ w'.cell? ⟨w2.heap.size, 0, none⟩ = some (.int .i64 (2 - (i : Int))) ∧ w'.cell? ⟨w2.heap.size, 1, none⟩ = some (.int .i64 (1 + (i : Int)))) (ds := [6]) #[false, false, false, false, false, false, false] (by kernel_rfl) rfl rfl ⟨b2, h0, h1⟩ (fun hHeld => ?_)
              refine pure_ (i := 0) (N := some 99) (v := ?_) (a' := ?_) #[true, false, false, false, false, false, false] rfl rfl (by kernel_rfl) (fun _ _ _ h => h) (Or.inl ⟨by rfl, ?_⟩) ?_ ?_
              rotate_left
              · intro w'; go_simp; with_reducible rfl
              rotate_left
              · simp only [Act.put, List.setIfInBounds_toArray, List.set_cons_zero, List.set_cons_succ, i64_w, i32_w]; rfl
              refine pure_ (i := 1) (N := some 100) (v := ?_) (a' := ?_) #[true, true, false, false, false, false, false] rfl rfl (by kernel_rfl) (fun _ _ _ h => h) (Or.inl ⟨by rfl, ?_⟩) ?_ ?_
              rotate_left
              · intro w'; go_simp; with_reducible rfl
              rotate_left
              · simp only [Act.put, List.setIfInBounds_toArray, List.set_cons_zero, List.set_cons_succ, i64_w, i32_w]; rfl
              refine pure_ (i := 2) (N := some 101) (v := ?_) (a' := ?_) #[true, true, true, false, false, false, false] rfl rfl (by kernel_rfl) (fun _ _ _ h => h) (Or.inl ⟨by rfl, ?_⟩) ?_ ?_
              rotate_left
              · intro w'; go_simp; with_reducible rfl
              rotate_left
              · simp only [Act.put, List.setIfInBounds_toArray, List.set_cons_zero, List.set_cons_succ, i64_w, i32_w]; rfl
              refine take_ (i := 3) (N := some 102) (v := ?_) (a' := ?_) #[true, true, true, true, false, false, false] rfl rfl (by kernel_rfl) (fun _ _ _ h => h) (Or.inl ⟨by rfl, ?_⟩) hHeld ?_ ?_
              rotate_left
              · rintro w' ⟨s0, s1, s2⟩; go_simp; with_reducible rfl
              rotate_left
              · simp only [Act.put, List.setIfInBounds_toArray, List.set_cons_zero, List.set_cons_succ, i64_w, i32_w]; rfl
              refine take_ (i := 4) (N := some 103) (v := ?_) (a' := ?_) #[true, true, true, true, true, false, false] rfl rfl (by kernel_rfl) (fun _ _ _ h => h) (Or.inl ⟨by rfl, ?_⟩) hHeld ?_ ?_
              rotate_left
              · rintro w' ⟨s0, s1, s2⟩; go_simp; with_reducible rfl
              rotate_left
              · simp only [Act.put, List.setIfInBounds_toArray, List.set_cons_zero, List.set_cons_succ, i64_w, i32_w]; rfl
              refine pure_ (i := 5) (N := some 104) (v := ?_) (a' := ?_) #[true, true, true, true, true, true, false] rfl rfl (by kernel_rfl) (fun _ _ _ h => h) (Or.inl ⟨by rfl, ?_⟩) ?_ ?_
              rotate_left
              · intro w'; go_simp; with_reducible rfl
              rotate_left
              · simp only [Act.put, List.setIfInBounds_toArray, List.set_cons_zero, List.set_cons_succ, i64_w, i32_w]; rfl
              clear b2 h0 h1
              refine last_ (i := 6) (N := some 105) #[true, true, true, true, true, true, true] rfl rfl (by kernel_rfl) (by decide) (fun K hK => ?_)
              refine goes_ Try.func31 (by kernel_rfl) rfl #[ptr gN, .agg #[.int .i64 (2 - (i : Int)), .int .i64 (1 + (i : Int))], .int .i64 k] (by rfl) rfl rfl (by first | rfl | (simp only [List.map_toArray, List.map_cons, List.map_nil]; rfl)) ?_
              refine (NW.lose_is HP6.out.drew.net HC.out (2 - (i : Int)) (1 + (i : Int)) k).mono ?_
              rintro e W9 ⟨rfl, hn9, hm9⟩
              have HP9 := Aside0.mk (HP6.out.drew.netAct (S' := popS S i k) hn9 hm9 (lose_of HI.out HK.out) (popS_same HI.out _))
              clear hn9 hm9
              refine ⟨_, rfl, hK.out _ _ ?_⟩
              clear hK K
              refine done_ (by kernel_rfl) ?_
              go_wp2
              go_ret
              exact ⟨rfl, va, sv, gv, _, by rw [HS.out]; exact HP9.out⟩
          · have e4 : (d.f0 == 4) = false := by simpa using k4
            have HS := Aside0.mk (show doS S d = S by
              unfold doS
              dsimp only
              rw [if_neg (by omega), if_neg (by omega), if_neg (by omega)])
            clear k0 k1 k2 k3 k4
            go_wp2
            go_ret
            exact ⟨rfl, va, sv, gv, ow, by rw [HS.out]; exact HP.out⟩
end
end Go.Proofs.Ytdibaeomepallaa.LK
