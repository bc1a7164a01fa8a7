/- Plain facts on how arguments read: what reads as a datum of a type is a Lean value of its kind. No program in sight. -/
import Derived.Test.YtdibaeomepallaaWMore
import Derived.Deep.Slices
import Derived.Deep.Fields
import Derived.ChangeSame
namespace Go.Proofs.Ytdibaeomepallaa.OP
open Go.ChangeShapes Go.WideShapes Go.Deep Go.Proofs.YtdibaeomepallaaW.PrintWords

variable {P : Program}
end Go.Proofs.Ytdibaeomepallaa.OP
