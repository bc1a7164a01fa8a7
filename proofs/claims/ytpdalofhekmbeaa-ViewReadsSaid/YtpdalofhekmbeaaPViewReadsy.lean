/- The plain statement of the law ViewReads: numbers and lists alone. Written by a program of this session. -/
import Derived.Test.YtpdalofhekmbeaaPViewReadsx15
namespace Go.Proofs.Ytpdalofhekmbeaa.PViewReads
open Go.RowKit Go.Proofs.YtpdalofhekmbeaaW.PrintWords Go.Proofs.YtpdalofhekmbeaaW.PrintLast Go.Proofs.YtpdalofhekmbeaaW.PrintMore
set_option linter.unusedVariables false
set_option linter.unusedSimpArgs false

def caduceuslaw14_ViewReads.Pure : Prop := ∀ (a0 : S24) (a1 : ByteArray), (((Lit.int .i64 a0.f0).wf = true) ∧ (∀ y0 ∈ a0.f1, ((Lit.int .i64 y0.f0).wf = true) ∧ ((Lit.int .i64 y0.f1).wf = true) ∧ (True))) → a1.size ≤ 140737488351232 → ∃ k, caduceuslaw14_ViewReads.f k a0.f0 a0.f1 a1 = some true
end Go.Proofs.Ytpdalofhekmbeaa.PViewReads
