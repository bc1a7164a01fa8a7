/- What each end handed on is right (pair.right). By hand. -/
import Derived.Test.YtdibaeomepallaaLm
import Derived.Test.YtdibaeomepallaaPAllx10
namespace Go.Proofs.Ytdibaeomepallaa.LK
open Go.RowKit Go.Proofs.YtdibaeomepallaaW.PrintWords Go.Proofs.YtdibaeomepallaaW.PrintLast Go.Proofs.YtdibaeomepallaaW.PrintMore Go.Proofs.Ytdibaeomepallaa.PAll Go.Proofs.Ytdibaeomepallaa.NW
set_option linter.unusedVariables false
set_option linter.unusedSimpArgs false
set_option maxRecDepth 100000
theorem same_l (l : List ByteArray) (hl : l.length ≤ 1000000) : ∀ (n i k : Nat), i + n = l.length → n < k → caduceusref01_SameTexts.l0 k l l i = some true := by
  intro n
  induction n with
  | zero =>
    intro i k h hk
    cases k with
    | zero => omega
    | succ k =>
      unfold caduceusref01_SameTexts.l0
      rw [if_neg (by omega)]
  | succ n ih =>
    intro i k h hk
    cases k with
    | zero => omega
    | succ k =>
      unfold caduceusref01_SameTexts.l0
      rw [if_pos (by omega), if_pos (by omega), if_pos (by omega), if_pos rfl, wrapId (by omega) (by omega)]
      have := ih (i + 1) k (by omega) (by omega)
      rwa [Int.natCast_add] at this
theorem same_f (l : List ByteArray) (hl : l.length ≤ 1000000) : caduceusref01_SameTexts.f 1000001 l l = some true := by
  unfold caduceusref01_SameTexts.f
  rw [if_pos rfl]
  exact same_l l hl l.length 0 _ (by omega) (by omega)
section
variable {w0 w : World} {bx gN : Nat} {ga ma : Nat → Nat} {va sv gv : Nat → Value} {ow : Nat → Nat} {S : Nat → Sd}
end
end Go.Proofs.Ytdibaeomepallaa.LK
