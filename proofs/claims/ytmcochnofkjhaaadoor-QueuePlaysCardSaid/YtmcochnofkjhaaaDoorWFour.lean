-- Cut by a program of this session (wip/tool/cutclaim.py) out of the words that the kit's print.sh wrote for this seat: what this claim uses.
import Derived.Test.YtmcochnofkjhaaaDoorWTab
/-! ### 56. Four, five, six operations that may come up next, in any order -/
namespace Go.Proofs.YtmcochnofkjhaaaDoorW.PrintLast
section
variable {P : Program} {ops : Array Oper} {Q : Exit → Act → World → Prop} {md : Region.Mode} {S : World → Prop} {ds : List Nat} {T : Bool × List (List Nat × List Nat)}
end
end Go.Proofs.YtmcochnofkjhaaaDoorW.PrintLast
