-- Out of the words that the kit's print.sh wrote for this seat: what this seat's texts use (wip/tool/prune.py).
import Derived.Test.YtiaacpjibhnhiaaDoorVInv
import Derived.Test.YtiaacpjibhnhiaaDoorVFootNe
namespace Go.Proofs.YtiaacpjibhnhiaaDoorW.PrintWords
open Go.RowKit
end Go.Proofs.YtiaacpjibhnhiaaDoorW.PrintWords
namespace Go.Proofs.YtiaacpjibhnhiaaDoorW.PrintLast
section
variable {ops : Array Oper} {a : Act} {o og : Oper} {g : Nat} {t : Tmp} {u : Bool}
end
end Go.Proofs.YtiaacpjibhnhiaaDoorW.PrintLast
