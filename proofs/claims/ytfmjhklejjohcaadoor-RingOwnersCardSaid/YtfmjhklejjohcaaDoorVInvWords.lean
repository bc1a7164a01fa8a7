-- Out of the words that the kit's print.sh wrote for this seat: what this seat's texts use (wip/tool/prune.py).
import Derived.Test.YtfmjhklejjohcaaDoorVInv
import Derived.Test.YtfmjhklejjohcaaDoorVFootNe
namespace Go.Proofs.YtfmjhklejjohcaaDoorW.PrintWords
open Go.RowKit
end Go.Proofs.YtfmjhklejjohcaaDoorW.PrintWords
namespace Go.Proofs.YtfmjhklejjohcaaDoorW.PrintLast
section
variable {ops : Array Oper} {a : Act} {o og : Oper} {g : Nat} {t : Tmp} {u : Bool}
end
end Go.Proofs.YtfmjhklejjohcaaDoorW.PrintLast
