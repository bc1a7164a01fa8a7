/- The law NetNil's walk. -/
import Derived.Test.YtdibaeomepallaaNO
import Derived.Test.YtdibaeomepallaaNM
import Derived.Test.YtdibaeomepallaaKD
namespace Go.Proofs.Ytdibaeomepallaa.NW
open Go.RowKit Go.Proofs.YtdibaeomepallaaW.PrintWords Go.Proofs.YtdibaeomepallaaW.PrintLast Go.Proofs.YtdibaeomepallaaW.PrintMore Go.Proofs.Ytdibaeomepallaa.PAll
set_option linter.unusedVariables false
set_option linter.unusedSimpArgs false
theorem netNil_walk (p : S28) (h : S32) (i : Int) (W : World) {G0 G1 G2 : Prop} (g0 : G0) (g1 : G1) (w2 : G2) :
    Calls Try.prog 7 #[.agg #[.int .i64 p.f0, .int .i64 p.f1, .int .i64 p.f2, .int .i64 p.f3, .int .i64 p.f4, .int .i64 p.f5, .string p.f6], .agg #[.int .i64 h.f0, .int .i64 h.f1], .int .i64 i] W fun e w' => e = .returned (.bool true) ∧ Below W.heap.size W w' := nil_walk awake_is p h.f0 h.f1 i W
end Go.Proofs.Ytdibaeomepallaa.NW
