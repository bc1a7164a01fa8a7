-- Written by a program of this session over the kit's printer (with contracts of the session's own).
import Derived.Test.YtbjokknoladmpaaProg
import Derived.Below
import Derived.Deep.Draws
import Derived.Deep.AppendLies
import Derived.Maps.AppendAt
import Derived.OwnWalk
import Derived.Laws.BytesArg
import Derived.Laws.MakeOwn
import Derived.Laws.OwnMore
import Derived.Deep.OwnRows
import Derived.Tactics
import Derived.Lib.ConvBytes
import Derived.Laws.Slices
import Derived.WalkKit
import Derived.KernelRfl
import Derived.RowKit3
import Derived.Deep.LoopGhost
import Derived.Deep.QuietTactic
import Derived.BigQuiet
import Derived.WideLaws
import Derived.Deep.DeepCutAuto
import Derived.Deep.CutBlock
import Derived.Deep.RegionHeld3
import Derived.Laws.Rows
import Derived.Lib.AppendStr
import Derived.ArgAppend
import Derived.Laws.IdiomCopy
import Derived.OrdersHeld
import Derived.Laws.BitsLemmas
import Derived.RowKit
import Derived.Test.YtbjokknoladmpaaWWords
import Derived.Test.YtbjokknoladmpaaWLast
import Derived.Test.YtbjokknoladmpaaWTab
import Derived.Test.YtbjokknoladmpaaWFour
import Derived.Test.YtbjokknoladmpaaWQPut
import Derived.Test.YtbjokknoladmpaaWApart
import Derived.Test.YtbjokknoladmpaaWArr
import Derived.Test.YtbjokknoladmpaaWZeros
import Derived.Test.YtbjokknoladmpaaWFoot
import Derived.Test.YtbjokknoladmpaaWKept
import Derived.Test.YtbjokknoladmpaaWShare
import Derived.Test.YtbjokknoladmpaaWN
import Derived.Test.YtbjokknoladmpaaWFootNe
import Derived.Test.YtbjokknoladmpaaWAt
import Derived.Test.YtbjokknoladmpaaWEqStruct
import Derived.Test.YtbjokknoladmpaaWRepsOne
import Derived.Test.YtbjokknoladmpaaWInv
import Derived.Test.YtbjokknoladmpaaWInvWords
import Derived.Test.YtbjokknoladmpaaWGuard
import Derived.Test.YtbjokknoladmpaaWNEv
import Derived.Test.YtbjokknoladmpaaWMore
namespace Go.Proofs.Ytbjokknoladmpaa.PQuicGets
open Go.RowKit Go.Proofs.YtbjokknoladmpaaW.PrintWords Go.Proofs.YtbjokknoladmpaaW.PrintLast Go.Proofs.YtbjokknoladmpaaW.PrintMore
attribute [local go_sem] max2_int min2_int max_two min_two max_three min_three max_four min_four   -- for this text's walks alone
set_option linter.unusedVariables false
set_option linter.unusedSimpArgs false



def errW : Option Int → Value
  | none => .nilIface
  | some c => .iface 0 (.int .i64 c)
theorem errW_none : errW none = .nilIface := rfl
theorem errW_some (c : Int) : errW (some c) = .iface 0 (.int .i64 c) := rfl

theorem info5 : (Try.prog.info? 5).map (fun i => (i.zero, i.size, i.bytes)) = some (some (.int .u8 0), 1, 1) := by kernel_rfl
-- the values' own types

end Go.Proofs.Ytbjokknoladmpaa.PQuicGets
