/- A deed of the pair (pair.do). By hand. -/
import Derived.Test.YtdibaeomepallaaLl
namespace Go.Proofs.Ytdibaeomepallaa.LK
open Go.RowKit Go.Proofs.YtdibaeomepallaaW.PrintWords Go.Proofs.YtdibaeomepallaaW.PrintLast Go.Proofs.YtdibaeomepallaaW.PrintMore Go.Proofs.Ytdibaeomepallaa.PAll Go.Proofs.Ytdibaeomepallaa.NW
set_option linter.unusedVariables false
set_option linter.unusedSimpArgs false
set_option maxRecDepth 100000
section
variable {w0 w : World} {bx gN : Nat} {ga ma : Nat → Nat} {va sv gv : Nat → Value} {ow : Nat → Nat} {S : Nat → Sd}
theorem RowP.sent {w1 : World} {i : Nat} {A : Option Addr} {c : Nat} {xs : List Pk} {v1 : Value} (h : PS w0 w bx gN ga ma va sv gv ow S) (hi : i < 2) (hr : RowP w (fun k => ow k = 1 + i) A c xs) (hg : w.grownBy w1 (sv i).ownBlock) :
    RowP (w1.setCell ⟨bx, 3 + i, none⟩ v1) (fun k => tg ow w w1 (4 + i) k ≠ 3) A c xs := by
  refine hr.stay (fun k hk hlt => ?_) (fun k hk hlt => by rw [tg_old hlt, hk]; omega)
  rw [Below.heap_setCell _ _ _ _ (fun e => by rw [e, h.obx] at hk; omega)]
  exact hg.block k hlt (fun e => by have := (h.sent i hi).1 k e.symm; omega)
theorem sdP_len (l : Lk) (s : ByteArray) : (sdP l s).length ≤ 8 := by
  unfold sdP
  split
  · unfold goP; rw [outs_len]; omega
  · simp
end
end Go.Proofs.Ytdibaeomepallaa.LK
