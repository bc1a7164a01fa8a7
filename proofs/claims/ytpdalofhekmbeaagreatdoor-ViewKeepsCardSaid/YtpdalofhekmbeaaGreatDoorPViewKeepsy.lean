/- The plain statement of the law ViewKeeps: numbers and lists alone. Written by a program of this session. -/
import Derived.Test.YtpdalofhekmbeaaGreatDoorPViewKeepsx18
namespace Go.Proofs.YtpdalofhekmbeaaGreatDoor.PViewKeeps
open Go.RowKit Go.Proofs.YtpdalofhekmbeaaGreatDoorW.PrintWords Go.Proofs.YtpdalofhekmbeaaGreatDoorW.PrintLast Go.Proofs.YtpdalofhekmbeaaGreatDoorW.PrintMore
set_option linter.unusedVariables false
set_option linter.unusedSimpArgs false

def caduceuslaw14_ViewKeeps.Pure : Prop := ∀ (a0 : S24) (a1 : S24) (a2 : ByteArray), (((Lit.int .i64 a0.f0).wf = true) ∧ (∀ y0 ∈ a0.f1, ((Lit.int .i64 y0.f0).wf = true) ∧ ((Lit.int .i64 y0.f1).wf = true) ∧ (True))) → (((Lit.int .i64 a1.f0).wf = true) ∧ (∀ y1 ∈ a1.f1, ((Lit.int .i64 y1.f0).wf = true) ∧ ((Lit.int .i64 y1.f1).wf = true) ∧ (True))) → a2.size ≤ 140737488351232 → ∃ k, caduceuslaw14_ViewKeeps.f k a0.f0 a0.f1 a1.f0 a1.f1 a2 = some true
end Go.Proofs.YtpdalofhekmbeaaGreatDoor.PViewKeeps
