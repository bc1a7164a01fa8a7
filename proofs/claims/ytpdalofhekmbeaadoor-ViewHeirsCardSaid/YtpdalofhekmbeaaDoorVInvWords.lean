-- Out of the words that the kit's print.sh wrote for this seat: what this seat's texts use (wip/tool/prune.py).
import Derived.Test.YtpdalofhekmbeaaDoorVInv
import Derived.Test.YtpdalofhekmbeaaDoorVFootNe
namespace Go.Proofs.YtpdalofhekmbeaaDoorW.PrintWords
open Go.RowKit
end Go.Proofs.YtpdalofhekmbeaaDoorW.PrintWords
namespace Go.Proofs.YtpdalofhekmbeaaDoorW.PrintLast
section
variable {ops : Array Oper} {a : Act} {o og : Oper} {g : Nat} {t : Tmp} {u : Bool}
end
end Go.Proofs.YtpdalofhekmbeaaDoorW.PrintLast
