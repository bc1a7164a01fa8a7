/- What is done (Act), as a kind. By hand. -/
import Derived.Test.YtmcochnofkjhaaaDoorQn
namespace Go.Proofs.YtmcochnofkjhaaaDoor.QU
open Go.RowKit Go.Proofs.YtmcochnofkjhaaaDoorW.PrintWords Go.Proofs.YtmcochnofkjhaaaDoorW.PrintLast Go.Proofs.YtmcochnofkjhaaaDoorW.PrintMore Go.Proofs.YtmcochnofkjhaaaDoor.PAll
set_option linter.unusedVariables false
structure S51 where
  f0 : Int
  f1 : Int
  f2 : S36
def k51 : Kd S51 := Kd.iso (Kd.pair (Kd.int .i64) (Kd.pair (Kd.int .i64) k36)) (fun x : S51 => (x.f0, x.f1, x.f2))
theorem k51_open {w : World} {x : S51} {cs : List Value} (h : k51.K w x cs) : ∃ A8 c8, cs = [.int .i64 x.f0, .int .i64 x.f1, .int .i64 x.f2.f0, .string x.f2.f1, .int .i64 x.f2.f2.f0.f0, .int .i64 x.f2.f2.f0.f1, .int .i64 x.f2.f2.f0.f2, .string x.f2.f2.f1, .slice A8 x.f2.f2.f2.length c8] ∧ x.f2.f2.f2.length ≤ c8 ∧ k87.C w A8 x.f2.f2.f2.length x.f2.f2.f2 := by
  obtain ⟨_, _, rfl, rfl, ⟨_, _, rfl, rfl, s2⟩⟩ := h
  obtain ⟨A6, c6, rfl, l6, g6⟩ := k36_open s2
  exact ⟨A6, c6, rfl, l6, g6⟩
end Go.Proofs.YtmcochnofkjhaaaDoor.QU
