/- The plain statement of the law ViewRises: numbers and lists alone. Written by a program of this session. -/
import Derived.Test.YtpdalofhekmbeaaPViewRisesx9
namespace Go.Proofs.Ytpdalofhekmbeaa.PViewRises
open Go.RowKit Go.Proofs.YtpdalofhekmbeaaW.PrintWords Go.Proofs.YtpdalofhekmbeaaW.PrintLast Go.Proofs.YtpdalofhekmbeaaW.PrintMore
set_option linter.unusedVariables false
set_option linter.unusedSimpArgs false

def caduceuslaw14_ViewRises.Pure : Prop := ∀ (l0 : List Int) (l1 : List (S51)), (∀ y0 ∈ l0, (Lit.int .i64 y0).wf = true) → l0.length ≤ maxLen → (∀ y1 ∈ l1, ((Lit.int .i64 y1.f0).wf = true) ∧ (True)) → l1.length ≤ maxLen → ∃ k, caduceuslaw14_ViewRises.f k l0 l1 = some true
end Go.Proofs.Ytpdalofhekmbeaa.PViewRises
