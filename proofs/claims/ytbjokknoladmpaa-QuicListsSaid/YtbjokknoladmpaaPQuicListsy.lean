/- The plain statement of the law QuicLists: numbers and lists alone. Written by a program of this session. -/
import Derived.Test.YtbjokknoladmpaaPQuicListsx5
namespace Go.Proofs.Ytbjokknoladmpaa.PQuicLists
open Go.RowKit Go.Proofs.YtbjokknoladmpaaW.PrintWords Go.Proofs.YtbjokknoladmpaaW.PrintLast Go.Proofs.YtbjokknoladmpaaW.PrintMore
set_option linter.unusedVariables false
set_option linter.unusedSimpArgs false

def caduceuslaw01_QuicLists.Pure : Prop := ∀ (l0 : List ByteArray) (a1 : ByteArray), (∀ y0 ∈ l0, y0.size ≤ maxLen) → l0.length ≤ maxLen → a1.size ≤ 140737488351232 → ∃ k, caduceuslaw01_QuicLists.f k l0 a1 = some true
end Go.Proofs.Ytbjokknoladmpaa.PQuicLists
