-- Out of the words that the kit's print.sh wrote for this seat: what this seat's texts use (wip/tool/prune.py).
import Derived.Test.YtpdalofhekmbeaaVInv
import Derived.Test.YtpdalofhekmbeaaVFootNe
namespace Go.Proofs.YtpdalofhekmbeaaW.PrintWords
open Go.RowKit
end Go.Proofs.YtpdalofhekmbeaaW.PrintWords
namespace Go.Proofs.YtpdalofhekmbeaaW.PrintLast
section
variable {ops : Array Oper} {a : Act} {o og : Oper} {g : Nat} {t : Tmp} {u : Bool}
end
end Go.Proofs.YtpdalofhekmbeaaW.PrintLast
