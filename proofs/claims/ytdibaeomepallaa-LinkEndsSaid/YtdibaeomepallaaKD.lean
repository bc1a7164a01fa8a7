/- The kinds of the laws' struct parameters. Written by a program of this session. -/
import Derived.Test.YtdibaeomepallaaPAllx3
namespace Go.Proofs.Ytdibaeomepallaa.PAll
open Go.RowKit Go.Proofs.YtdibaeomepallaaW.PrintWords Go.Proofs.YtdibaeomepallaaW.PrintLast Go.Proofs.YtdibaeomepallaaW.PrintMore
set_option linter.unusedVariables false
set_option linter.unusedSimpArgs false
structure S109 where
  f0 : Int
  f1 : Int
  f2 : Int
  f3 : ByteArray
structure S65 where
  f0 : Int
  f1 : Int
  f2 : Int
  f3 : Int
  f4 : Int
end Go.Proofs.Ytdibaeomepallaa.PAll
