import Derived.Test.YtdibaeomepallaaLp
namespace Go.Proofs.Ytdibaeomepallaa.LK
open Go.RowKit Go.Proofs.YtdibaeomepallaaW.PrintWords Go.Proofs.YtdibaeomepallaaW.PrintLast Go.Proofs.YtdibaeomepallaaW.PrintMore Go.Proofs.Ytdibaeomepallaa.PAll Go.Proofs.Ytdibaeomepallaa.NW
set_option linter.unusedVariables false
set_option linter.unusedSimpArgs false
set_option maxRecDepth 100000
theorem may_f (x : S65) : caduceusref13_May.f x.f0 x.f1 x.f2 x.f3 x.f4 = some (mayL x) := by
  unfold caduceusref13_May.f mayL
  repeat' split
  all_goals (congr 1; first | (rw [eq_comm]; simp only [Bool.and_eq_false_iff, decide_eq_false_iff_not]; omega) | skip)
  rw [Bool.eq_iff_iff]
  simp only [Bool.and_eq_true, decide_eq_true_eq]
  omega
end Go.Proofs.Ytdibaeomepallaa.LK
