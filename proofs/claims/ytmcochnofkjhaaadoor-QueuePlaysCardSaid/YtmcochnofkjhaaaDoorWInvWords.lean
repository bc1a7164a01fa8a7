-- Cut by a program of this session (wip/tool/cutclaim.py) out of the words that the kit's print.sh wrote for this seat: what this claim uses.
import Derived.Test.YtmcochnofkjhaaaDoorWInv
import Derived.Test.YtmcochnofkjhaaaDoorWFootNe
namespace Go.Proofs.YtmcochnofkjhaaaDoorW.PrintWords
open Go.RowKit
end Go.Proofs.YtmcochnofkjhaaaDoorW.PrintWords
namespace Go.Proofs.YtmcochnofkjhaaaDoorW.PrintLast
section
variable {ops : Array Oper} {a : Act} {o og : Oper} {g : Nat} {t : Tmp} {u : Bool}
end
end Go.Proofs.YtmcochnofkjhaaaDoorW.PrintLast
