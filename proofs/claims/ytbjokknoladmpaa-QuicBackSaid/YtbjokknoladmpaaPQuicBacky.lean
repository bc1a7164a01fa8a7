/- The plain statement of the law QuicBack: numbers and lists alone. Written by a program of this session. -/
import Derived.Test.YtbjokknoladmpaaPQuicBackx7
namespace Go.Proofs.Ytbjokknoladmpaa.PQuicBack
open Go.RowKit Go.Proofs.YtbjokknoladmpaaW.PrintWords Go.Proofs.YtbjokknoladmpaaW.PrintLast Go.Proofs.YtbjokknoladmpaaW.PrintMore
set_option linter.unusedVariables false
set_option linter.unusedSimpArgs false

def caduceuslaw01_QuicBack.Pure : Prop := ∀ (l0 : List (S62)) (l1 : List ByteArray) (a2 : ByteArray), (∀ y0 ∈ l0, ((Lit.int .i64 y0.f0).wf = true) ∧ ((Lit.int .i64 y0.f1).wf = true) ∧ (y0.f2.size ≤ maxLen)) → l0.length ≤ maxLen → (∀ y1 ∈ l1, y1.size ≤ maxLen) → l1.length ≤ maxLen → a2.size ≤ 140737488351232 → ∃ k, caduceuslaw01_QuicBack.f k l0 l1 a2 = some true
end Go.Proofs.Ytbjokknoladmpaa.PQuicBack
