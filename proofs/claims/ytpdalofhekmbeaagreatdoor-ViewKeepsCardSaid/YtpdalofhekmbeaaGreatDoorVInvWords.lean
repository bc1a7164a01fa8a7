-- Out of the words that the kit's print.sh wrote for this seat: what this seat's texts use (wip/tool/prune.py).
import Derived.Test.YtpdalofhekmbeaaGreatDoorVInv
import Derived.Test.YtpdalofhekmbeaaGreatDoorVFootNe
namespace Go.Proofs.YtpdalofhekmbeaaGreatDoorW.PrintWords
open Go.RowKit
end Go.Proofs.YtpdalofhekmbeaaGreatDoorW.PrintWords
namespace Go.Proofs.YtpdalofhekmbeaaGreatDoorW.PrintLast
section
variable {ops : Array Oper} {a : Act} {o og : Oper} {g : Nat} {t : Tmp} {u : Bool}
end
end Go.Proofs.YtpdalofhekmbeaaGreatDoorW.PrintLast
