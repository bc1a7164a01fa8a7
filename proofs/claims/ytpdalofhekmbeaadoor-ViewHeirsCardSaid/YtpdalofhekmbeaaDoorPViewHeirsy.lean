/- The plain statement of the law ViewHeirs: numbers and lists alone. Written by a program of this session. -/
import Derived.Test.YtpdalofhekmbeaaDoorPViewHeirsx9
namespace Go.Proofs.YtpdalofhekmbeaaDoor.PViewHeirs
open Go.RowKit Go.Proofs.YtpdalofhekmbeaaDoorW.PrintWords Go.Proofs.YtpdalofhekmbeaaDoorW.PrintLast Go.Proofs.YtpdalofhekmbeaaDoorW.PrintMore
set_option linter.unusedVariables false
set_option linter.unusedSimpArgs false

def caduceuslaw14_ViewHeirs.Pure : Prop := ∀ (a0 : S24) (a1 : ByteArray) (a2 : Int), (((Lit.int .i64 a0.f0).wf = true) ∧ (∀ y0 ∈ a0.f1, ((Lit.int .i64 y0.f0).wf = true) ∧ ((Lit.int .i64 y0.f1).wf = true) ∧ (True))) → a1.size ≤ 140737488351232 → (Lit.int .i64 a2).wf = true → ∃ k, caduceuslaw14_ViewHeirs.f k a0.f0 a0.f1 a1 a2 = some true
end Go.Proofs.YtpdalofhekmbeaaDoor.PViewHeirs
