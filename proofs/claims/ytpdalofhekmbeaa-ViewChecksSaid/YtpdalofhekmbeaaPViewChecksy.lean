/- The plain statement of the law ViewChecks: numbers and lists alone. Written by a program of this session. -/
import Derived.Test.YtpdalofhekmbeaaPViewChecksx11
namespace Go.Proofs.Ytpdalofhekmbeaa.PViewChecks
open Go.RowKit Go.Proofs.YtpdalofhekmbeaaW.PrintWords Go.Proofs.YtpdalofhekmbeaaW.PrintLast Go.Proofs.YtpdalofhekmbeaaW.PrintMore
set_option linter.unusedVariables false
set_option linter.unusedSimpArgs false

def caduceuslaw14_ViewChecks.Pure : Prop := ∀ (a0 : S24) (l1 : List Int) (a2 : Int), (((Lit.int .i64 a0.f0).wf = true) ∧ (∀ y0 ∈ a0.f1, ((Lit.int .i64 y0.f0).wf = true) ∧ ((Lit.int .i64 y0.f1).wf = true) ∧ (True))) → (∀ y1 ∈ l1, (Lit.int .i64 y1).wf = true) → l1.length ≤ maxLen → (Lit.int .i64 a2).wf = true → ∃ k, caduceuslaw14_ViewChecks.f k a0.f0 a0.f1 l1 a2 = some true
end Go.Proofs.Ytpdalofhekmbeaa.PViewChecks
