/- A pair of ends and the net between them in memory: to whom each block belongs, and what an act of one of them leaves of the others. -/
import Derived.Test.YtdibaeomepallaaLi
namespace Go.Proofs.Ytdibaeomepallaa.LK
open Go.RowKit Go.Proofs.YtdibaeomepallaaW.PrintWords Go.Proofs.YtdibaeomepallaaW.PrintLast Go.Proofs.YtdibaeomepallaaW.PrintMore Go.Proofs.Ytdibaeomepallaa.PAll Go.Proofs.Ytdibaeomepallaa.NW
set_option linter.unusedVariables false
set_option linter.unusedSimpArgs false
set_option maxRecDepth 100000
/-! ### the net of a pair: two rows -/
def qz : List (List Pk) := List.replicate 256 []
def az : List Bool := List.replicate 256 false
/-- The net whose row to the first end is r0, to the second r1. -/
def qOf (r0 r1 : List Pk) : List (List Pk) := (qz.set 33 r0).set 18 r1
theorem qOf_33 (r0 r1 : List Pk) : (qOf r0 r1).getD 33 [] = r0 := by
  have hl : (qz.set 33 r0).length = 256 := by simp [qz]
  have hz : qz.length = 256 := by simp [qz]
  unfold qOf
  rw [List.getD_eq_getElem?_getD, List.getElem?_set_ne (by decide), List.getElem?_set_self (by omega)]
  rfl
theorem qOf_18 (r0 r1 : List Pk) : (qOf r0 r1).getD 18 [] = r1 := by
  have hl : (qz.set 33 r0).length = 256 := by simp [qz]
  unfold qOf
  rw [List.getD_eq_getElem?_getD, List.getElem?_set_self (by omega)]
  rfl
theorem qOf_set33 (r0 r1 x : List Pk) : (qOf r0 r1).set 33 x = qOf x r1 := by
  unfold qOf
  rw [List.set_comm _ _ (by decide), List.set_set]
theorem qOf_set18 (r0 r1 x : List Pk) : (qOf r0 r1).set 18 x = qOf r0 x := by
  unfold qOf
  rw [List.set_set]
theorem hop12 : hopB 1 2 = true ∧ hopB 2 1 = true := ⟨by decide, by decide⟩
theorem rowAt_0 (r0 r1 : List Pk) : NW.rowAt (qOf r0 r1) 2 1 = r0 := by unfold NW.rowAt; rw [if_pos hop12.2]; exact qOf_33 r0 r1
theorem rowAt_1 (r0 r1 : List Pk) : NW.rowAt (qOf r0 r1) 1 2 = r1 := by unfold NW.rowAt; rw [if_pos hop12.1]; exact qOf_18 r0 r1
theorem cut_az (a b : Int) : cutB az a b = false := by
  unfold cutB
  have : az.getD (at2 a b) false = false := by
    rw [List.getD_eq_getElem?_getD]
    unfold az
    rw [List.getElem?_replicate]
    split <;> rfl
  rw [this, Bool.and_false]
/-! ### sides -/
def upd {α : Type} (S : Nat → α) (i : Nat) (X : α) : Nat → α := fun j => if j = i then X else S j
theorem upd_same {α : Type} (S : Nat → α) (i : Nat) (X : α) : upd S i X i = X := if_pos rfl
theorem upd_ne {α : Type} (S : Nat → α) {i j : Nat} (X : α) (h : j ≠ i) : upd S i X j = S j := if_neg h
/-- Packets go out of the end i. -/
def outS (S : Nat → Sd) (i : Nat) (ps : List Pk) : Nat → Sd := upd S (1 - i) (dOut (S i) (S (1 - i)) ps)
def InvS (f : Int) (S : Nat → Sd) : Prop := Inv f (S 0) (S 1)
theorem two_cases {i : Nat} (h : i < 2) : i = 0 ∨ i = 1 := by omega
theorem InvS.at {f : Int} {S : Nat → Sd} (h : InvS f S) {i : Nat} (hi : i < 2) : Inv f (S i) (S (1 - i)) := by
  rcases two_cases hi with rfl | rfl
  · exact h
  · exact h.swap
theorem InvS.mk {f : Int} {S : Nat → Sd} {i : Nat} (hi : i < 2) (h : Inv f (S i) (S (1 - i))) : InvS f S := by
  rcases two_cases hi with rfl | rfl
  · exact h
  · exact h.swap
/-- A packet from the end i. -/
def from_ (i : Nat) (p : Pk) : Prop := okP p = true ∧ p.f0 = 1 + (i : Int) ∧ p.f1 = 2 - (i : Int)
/-! ### the pair in memory -/
abbrev ptr (g : Nat) : Value := .pointer (some ⟨g, 0, none⟩)
def pairC (gN : Nat) (ga : Nat → Nat) (sv gv : Nat → Value) : Array Value := #[ptr (ga 0), ptr (ga 1), ptr gN, sv 0, sv 1, gv 0, gv 1]
/-- The pair in block bx. ow: to whom a block belongs: 1, 2 the ends, 3 the net, 4, 5 what was sent, 6, 7 what was handed on, 8 the pair itself, 0 nobody. -/
structure PS (w0 w : World) (bx gN : Nat) (ga ma : Nat → Nat) (va sv gv : Nat → Value) (ow : Nat → Nat) (S : Nat → Sd) : Prop where
  box : w.heap[bx]? = some (.cells (pairC gN ga sv gv) 103 (0, 0))
  lk : ∀ i, i < 2 → LkAt w (ga i) (S i).l (va i) (ma i)
  net : NetW w (fun k => ow k = 3) gN (qOf (S 0).row (S 1).row) az
  sent : ∀ i, i < 2 → Kd.string.R 9 w 0 (fun k => ow k = 4 + i) (sv i) (S i).sent
  got : ∀ i, i < 2 → Kd.string.R 9 w 0 (fun k => ow k = 6 + i) (gv i) (S i).got
  olk : ∀ i, i < 2 → ∀ k, lf (ga i) (va i) (ma i) k → ow k = 1 + i
  obx : ow bx = 8
  low : ∀ k, ow k ≠ 0 → w0.heap.size ≤ k
  new : ∀ k, w.heap.size ≤ k → ow k = 0
  below : Below w0.heap.size w0 w
/-- The owners when what is new is i's. -/
def tg (ow : Nat → Nat) (w w' : World) (i : Nat) : Nat → Nat := fun k => if k < w.heap.size then ow k else if k < w'.heap.size then i else 0
theorem tg_old {ow : Nat → Nat} {w w' : World} {i k : Nat} (h : k < w.heap.size) : tg ow w w' i k = ow k := if_pos h
section
variable {w0 w w' : World} {bx gN : Nat} {ga ma : Nat → Nat} {va sv gv : Nat → Value} {ow : Nat → Nat} {S : Nat → Sd}
theorem PS.bxlt (h : PS w0 w bx gN ga ma va sv gv ow S) : bx < w.heap.size := blk_lt h.box
theorem PS.bel (h : PS w0 w bx gN ga ma va sv gv ow S) (hb : Below w.heap.size w w') : PS w0 w' bx gN ga ma va sv gv ow S :=
  ⟨keepB h.box hb, fun i hi => (h.lk i hi).below hb, h.net.below hb, fun i hi => Kd.R_below (h.sent i hi) hb, fun i hi => Kd.R_below (h.got i hi) hb, h.olk, h.obx, h.low, fun k hk => h.new k (Nat.le_trans hb.size hk), h.below.trans (hb.mono h.below.size)⟩
theorem PS.drew (h : PS w0 w bx gN ga ma va sv gv ow S) : PS w0 w.drew bx gN ga ma va sv gv ow S := h.bel (below_drew1 (Below.refl _ _))
theorem PS.drewN (h : PS w0 w bx gN ga ma va sv gv ow S) (n : Nat) : PS w0 (w.drewN n) bx gN ga ma va sv gv ow S := h.bel (pw_below_drewN (Below.refl _ _) n)
theorem PS.alloc (h : PS w0 w bx gN ga ma va sv gv ow S) (o : Obj) : PS w0 (w.alloc o) bx gN ga ma va sv gv ow S := h.bel (below_alloc (Below.refl _ _) o)
end
end Go.Proofs.Ytdibaeomepallaa.LK
