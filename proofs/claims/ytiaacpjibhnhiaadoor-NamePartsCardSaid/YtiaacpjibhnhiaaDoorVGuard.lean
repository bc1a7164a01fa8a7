-- Out of the words that the kit's print.sh wrote for this seat: what this seat's texts use (wip/tool/prune.py).
import Derived.Test.YtiaacpjibhnhiaaDoorVWords
namespace Go.Proofs.YtiaacpjibhnhiaaDoorW.PrintWords
open Go.RowKit
section
variable {P : Program} {ops : Array Oper} {rest : List Oper} {o : Oper} {a : Act} {Q : Exit → Act → World → Prop} {W : World}
end
end Go.Proofs.YtiaacpjibhnhiaaDoorW.PrintWords
