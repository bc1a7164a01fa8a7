/- A packet comes to an end of the pair (pair.come). By hand. -/
import Derived.Test.YtdibaeomepallaaLk
namespace Go.Proofs.Ytdibaeomepallaa.LK
open Go.RowKit Go.Proofs.YtdibaeomepallaaW.PrintWords Go.Proofs.YtdibaeomepallaaW.PrintLast Go.Proofs.YtdibaeomepallaaW.PrintMore Go.Proofs.Ytdibaeomepallaa.PAll Go.Proofs.Ytdibaeomepallaa.NW
set_option linter.unusedVariables false
set_option linter.unusedSimpArgs false
set_option maxRecDepth 100000
section
variable {w0 w : World} {bx gN : Nat} {ga ma : Nat → Nat} {va sv gv : Nat → Value} {ow : Nat → Nat} {S : Nat → Sd}
theorem hop_of {i : Nat} (hi : i < 2) (r0 r1 : List Pk) : hopB (2 - (i : Int)) (1 + (i : Int)) = true ∧ NW.rowAt (qOf r0 r1) (2 - (i : Int)) (1 + (i : Int)) = (if i = 0 then r0 else r1) ∧ ∀ x, (qOf r0 r1).set (at2 (2 - (i : Int)) (1 + (i : Int))) x = (if i = 0 then qOf x r1 else qOf r0 x) := by
  rcases two_cases hi with rfl | rfl
  · exact ⟨hop12.2, rowAt_0 r0 r1, qOf_set33 r0 r1⟩
  · exact ⟨hop12.1, rowAt_1 r0 r1, qOf_set18 r0 r1⟩
theorem rowAt_of {i : Nat} (hi : i < 2) : NW.rowAt (qOf (S 0).row (S 1).row) (2 - (i : Int)) (1 + (i : Int)) = (S i).row := by
  rw [(hop_of hi _ _).2.1]
  rcases two_cases hi with rfl | rfl <;> rfl
theorem setq_of {i : Nat} (hi : i < 2) (X : Sd) : (qOf (S 0).row (S 1).row).set (at2 (2 - (i : Int)) (1 + (i : Int))) X.row = qOf (upd S i X 0).row (upd S i X 1).row := by
  rw [(hop_of hi _ _).2.2]
  rcases two_cases hi with rfl | rfl <;> rfl
/-- What the net gives of the k-th packet to i. -/
theorem take_of {i : Nat} (hi : i < 2) (k : Nat) : match (S i).row[k]? with
    | none => takeE (qOf (S 0).row (S 1).row) az (2 - (i : Int)) (1 + (i : Int)) k = 4 ∧ takeQ (qOf (S 0).row (S 1).row) az (2 - (i : Int)) (1 + (i : Int)) k = qOf (S 0).row (S 1).row ∧ takeP (qOf (S 0).row (S 1).row) az (2 - (i : Int)) (1 + (i : Int)) k = pk0
    | some p => takeE (qOf (S 0).row (S 1).row) az (2 - (i : Int)) (1 + (i : Int)) k = 0 ∧ takeQ (qOf (S 0).row (S 1).row) az (2 - (i : Int)) (1 + (i : Int)) k = qOf (popS S i k 0).row (popS S i k 1).row ∧ takeP (qOf (S 0).row (S 1).row) az (2 - (i : Int)) (1 + (i : Int)) k = p := by
  obtain ⟨hb, _, _⟩ := hop_of hi (S 0).row (S 1).row
  have hrow := rowAt_of (S := S) hi
  have hset := setq_of (S := S) hi (popR (S i) k)
  cases hk : (S i).row[k]? with
  | none =>
    have hl : (S i).row.length ≤ k := List.getElem?_eq_none_iff.1 hk
    have ht : thereE (qOf (S 0).row (S 1).row) (2 - (i : Int)) (1 + (i : Int)) k = 4 := by unfold thereE; rw [if_pos hb, hrow, if_pos (.inr (by omega))]
    have hE : takeE (qOf (S 0).row (S 1).row) az (2 - (i : Int)) (1 + (i : Int)) k = 4 := by unfold takeE; rw [ht, if_neg (by decide)]
    exact ⟨hE, by unfold takeQ; rw [hE, if_neg (by decide)], by unfold takeP; rw [hE, if_neg (by decide)]⟩
  | some p =>
    have hl : k < (S i).row.length := (List.getElem?_eq_some_iff.1 hk).1
    have ht : thereE (qOf (S 0).row (S 1).row) (2 - (i : Int)) (1 + (i : Int)) k = 0 := by unfold thereE; rw [if_pos hb, hrow, if_neg (by omega)]
    have hE : takeE (qOf (S 0).row (S 1).row) az (2 - (i : Int)) (1 + (i : Int)) k = 0 := by unfold takeE; rw [if_pos ht, cut_az]; rfl
    refine ⟨hE, ?_, ?_⟩
    · unfold takeQ; rw [if_pos hE]; unfold delQ; rw [hrow, Int.toNat_natCast]; exact hset
    · unfold takeP; rw [if_pos hE, hrow, Int.toNat_natCast, List.getD_eq_getElem?_getD, hk]; rfl
theorem PS.tmp {w' : World} (h : PS w0 w bx gN ga ma va sv gv ow S) {b : Nat} (hb : ow b = 0) (hlo : w0.heap.size ≤ b) (hm : Mods (fun k => k = b) w w') (hs : w'.heap.size = w.heap.size) : PS w0 w' bx gN ga ma va sv gv ow S := by
  have ne : ∀ {k t : Nat}, ow k = t → t ≠ 0 → k ≠ b := fun hk ht e => ht (by rw [← hk, e, hb])
  exact ⟨(hm.block _ h.bxlt (ne h.obx (by decide))).trans h.box, fun i hi => (h.lk i hi).mods hm (fun k hk => ne (h.olk i hi k hk) (by omega)), h.net.mods hm (fun k _ hk => ne hk (by decide)), fun i hi => Kd.R_step (h.sent i hi) (fun k hk hlt => hm.block k hlt (ne hk (by omega))), fun i hi => Kd.R_step (h.got i hi) (fun k hk hlt => hm.block k hlt (ne hk (by omega))), h.olk, h.obx, h.low, fun k hk => h.new k (by omega), h.below.trans (hm.below h.below.size (fun k hk => by rw [hk]; exact hlo))⟩
theorem RowP.stay {w w' : World} {ok ok' : Nat → Prop} {A : Option Addr} {c : Nat} {xs : List Pk} (h : RowP w ok A c xs) (hm : ∀ k, ok k → k < w.heap.size → w'.heap[k]? = w.heap[k]?) (hk : ∀ k, ok k → k < w.heap.size → ok' k) : RowP w' ok' A c xs :=
  ⟨Kd.F_mono (Kd.F_step (Kd.F_bound h.1) (fun k hk hlt => hm k hk.1 hlt)) (fun k h2 => hk k h2.1 h2.2), h.2⟩
/-- The row of packets of an act of the end i stays while that end's texts are appended. -/
theorem RowP.got {w w1 : World} {i : Nat} {A : Option Addr} {c : Nat} {xs : List Pk} {v1 : Value} (h : PS w0 w bx gN ga ma va sv gv ow S) (hi : i < 2) (hr : RowP w (fun k => ow k = 1 + i) A c xs) (hg : w.grownBy w1 (gv i).ownBlock) :
    RowP (w1.setCell ⟨bx, 5 + i, none⟩ v1) (fun k => tg ow w w1 (6 + i) k ≠ 3) A c xs := by
  refine hr.stay (fun k hk hlt => ?_) (fun k hk hlt => by rw [tg_old hlt, hk]; omega)
  rw [Below.heap_setCell _ _ _ _ (fun e => by rw [e, h.obx] at hk; omega)]
  exact hg.block k hlt (fun e => by have := (h.got i hi).1 k e.symm; omega)
end
end Go.Proofs.Ytdibaeomepallaa.LK
