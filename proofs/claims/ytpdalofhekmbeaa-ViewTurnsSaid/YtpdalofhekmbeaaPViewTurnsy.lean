/- The plain statement of the law ViewTurns: numbers and lists alone. Written by a program of this session. -/
import Derived.Test.YtpdalofhekmbeaaPViewTurnsx11
namespace Go.Proofs.Ytpdalofhekmbeaa.PViewTurns
open Go.RowKit Go.Proofs.YtpdalofhekmbeaaW.PrintWords Go.Proofs.YtpdalofhekmbeaaW.PrintLast Go.Proofs.YtpdalofhekmbeaaW.PrintMore
set_option linter.unusedVariables false
set_option linter.unusedSimpArgs false

def caduceuslaw14_ViewTurns.Pure : Prop := ∀ (a0 : S24) (a1 : Int), (((Lit.int .i64 a0.f0).wf = true) ∧ (∀ y0 ∈ a0.f1, ((Lit.int .i64 y0.f0).wf = true) ∧ ((Lit.int .i64 y0.f1).wf = true) ∧ (True))) → (Lit.int .i64 a1).wf = true → ∃ k, caduceuslaw14_ViewTurns.f k a0.f0 a0.f1 a1 = some true
end Go.Proofs.Ytpdalofhekmbeaa.PViewTurns
