/- The kinds of the laws' struct parameters. Written by a program of this session. -/
import Derived.Test.YtdibaeomepallaaPAllx3
namespace Go.Proofs.Ytdibaeomepallaa.PAll
open Go.RowKit Go.Proofs.YtdibaeomepallaaW.PrintWords Go.Proofs.YtdibaeomepallaaW.PrintLast Go.Proofs.YtdibaeomepallaaW.PrintMore
set_option linter.unusedVariables false
set_option linter.unusedSimpArgs false
structure S109 where
  f0 : Int
  f1 : Int
  f2 : Int
  f3 : ByteArray
structure S65 where
  f0 : Int
  f1 : Int
  f2 : Int
  f3 : Int
  f4 : Int
def k65 : Kd S65 := Kd.iso (Kd.pair (Kd.int .i64) (Kd.pair (Kd.int .i64) (Kd.pair (Kd.int .i64) (Kd.pair (Kd.int .i64) (Kd.int .i64))))) (fun x : S65 => (x.f0, x.f1, x.f2, x.f3, x.f4))
theorem k65_open {w : World} {x : S65} {cs : List Value} (h : k65.K w x cs) : cs = [.int .i64 x.f0, .int .i64 x.f1, .int .i64 x.f2, .int .i64 x.f3, .int .i64 x.f4] := by
  obtain ⟨c0, d0, e0, h0, ⟨c1, d1, e1, h1, ⟨c2, d2, e2, h2, ⟨c3, d3, e3, h3, h4⟩⟩⟩⟩ := h
  have g0 := h0
  have g1 := h1
  have g2 := h2
  have g3 := h3
  have g4 := h4
  subst e0; subst e1; subst e2; subst e3
  rw [show c0 = _ from g0]
  rw [show c1 = _ from g1]
  rw [show c2 = _ from g2]
  rw [show c3 = _ from g3]
  rw [show d3 = _ from g4]
  rfl
end Go.Proofs.Ytdibaeomepallaa.PAll
