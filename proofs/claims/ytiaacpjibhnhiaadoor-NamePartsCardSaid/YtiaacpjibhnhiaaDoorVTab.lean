-- Out of the words that the kit's print.sh wrote for this seat: what this seat's texts use (wip/tool/prune.py).
import Derived.Test.YtiaacpjibhnhiaaDoorVLast
import Derived.Test.YtiaacpjibhnhiaaDoorVWords
namespace Go.Proofs.YtiaacpjibhnhiaaDoorW.PrintLast
open Go.Proofs.YtiaacpjibhnhiaaDoorW.PrintWords (Aside0)
section
variable {md : Region.Mode} {ops : Array Oper} {T : Bool × List (List Nat × List Nat)} {l l' li lj lk : Array Bool} {ds : List Nat} {i j k : Nat}
end
end Go.Proofs.YtiaacpjibhnhiaaDoorW.PrintLast
