/- The plain statement of the law QuicPuts: numbers and lists alone. Written by a program of this session. -/
import Derived.Test.YtbjokknoladmpaaPQuicPutsx6
namespace Go.Proofs.Ytbjokknoladmpaa.PQuicPuts
open Go.RowKit Go.Proofs.YtbjokknoladmpaaW.PrintWords Go.Proofs.YtbjokknoladmpaaW.PrintLast Go.Proofs.YtbjokknoladmpaaW.PrintMore
set_option linter.unusedVariables false
set_option linter.unusedSimpArgs false

def caduceuslaw01_QuicPuts.Pure : Prop := ∀ (l0 : List (S62)), (∀ y0 ∈ l0, ((Lit.int .i64 y0.f0).wf = true) ∧ ((Lit.int .i64 y0.f1).wf = true) ∧ (y0.f2.size ≤ maxLen)) → l0.length ≤ maxLen → ∃ k, caduceuslaw01_QuicPuts.f k l0 = some true
end Go.Proofs.Ytbjokknoladmpaa.PQuicPuts
