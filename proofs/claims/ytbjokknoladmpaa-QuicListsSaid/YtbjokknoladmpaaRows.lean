/-
  No cell of these rows narrows 'for every input' (looked for: loops, veiled, ifaces, maps, wideKeys, modest, calm, conditions, laid).
  DERIVED. THE GIVEN ROWS OF THIS SEAT. 8 by the template 'for every input the law returns true; each argument reads behind the call as it read before'; 0 by the template 'total and deterministic' (their statements: YtbjokknoladmpaaTotals.lean).
  GIVEN WITH THE SEED: the statements are not yours to turn. If you find one false, say at which input.
  Laid BY PROGRAM, IN A SANDBOX (cutbox-rows.mjs): the forced cells as the released guide's own fill.sh prints them over the translation 1f648c3de9437624… (all of the seat's roots in one cut). By AI agents, Wed Nov 11 2026. No macro, syntax, notation, axiom, sorry.
-/
import Derived.Test.YtbjokknoladmpaaChecked
import GoSem.Claim
import GoSem.ClaimJoined
import GoSem.ClaimMapViews
import Derived.JoinedTies
import Derived.KernelRfl
namespace Go.Proofs.Ytbjokknoladmpaa
/- THE CELL 'sum', in the pinned program and in every row, IS THE sha256 OF THE DUMP (.gsa) THAT YtbjokknoladmpaaProg.lean LOADS. Nothing in Lean hashes anything: it is a label: what it is worth is what the hold of that sum in a sandbox is worth. -/
noncomputable def Try.pinned : Pinned := { name := "ytbjokknoladmpaa", sum := "1f648c3de9437624649c60c569f69e5d5e24d335dafcb08b1a4f74852af1767b", checked := Try.checked }
namespace Rows
def none {H : Type} : Left H := { results := [], args := [] }

/-- 'caduceuslaw01.QuicGets': WHATEVER THE INPUT: true; the input reads as it did. -/
def quicGetsSpec : ChangeSpec := { name := "quicGets", fn := fun _ => fun
  | [d] => { results := [.lit (.bool true)], args := [d] }
  | _ => none }
def quicGetsRow : OpenClaim := { program := "ytbjokknoladmpaa", sum := "1f648c3de9437624649c60c569f69e5d5e24d335dafcb08b1a4f74852af1767b", func := "caduceus/caduceuslaw01.QuicGets", spec := "quicGets", apart := false }
def QuicGetsSaid : Prop := quicGetsRow.holds Try.pinned (OpenSpec.ofChange quicGetsSpec)

/-- ITS FALSE NEIGHBOUR: 'it returns false'. Refute it at one input. -/
def quicGetsWrong : ChangeSpec := { name := "quicGets", fn := fun _ => fun
  | [d] => { results := [.lit (.bool false)], args := [d] }
  | _ => none }
def QuicGetsWrongFalsely : Prop := quicGetsRow.holds Try.pinned (OpenSpec.ofChange quicGetsWrong)

/-- 'caduceuslaw01.QuicRises': WHATEVER THE INPUT: true; the input reads as it did. -/
def quicRisesSpec : ChangeSpec := { name := "quicRises", fn := fun _ => fun
  | [d1, d2] => { results := [.lit (.bool true)], args := [d1, d2] }
  | _ => none }
def quicRisesRow : OpenClaim := { program := "ytbjokknoladmpaa", sum := "1f648c3de9437624649c60c569f69e5d5e24d335dafcb08b1a4f74852af1767b", func := "caduceus/caduceuslaw01.QuicRises", spec := "quicRises", apart := false }
def QuicRisesSaid : Prop := quicRisesRow.holds Try.pinned (OpenSpec.ofChange quicRisesSpec)

/-- ITS FALSE NEIGHBOUR: 'it returns false'. Refute it at one input. -/
def quicRisesWrong : ChangeSpec := { name := "quicRises", fn := fun _ => fun
  | [d1, d2] => { results := [.lit (.bool false)], args := [d1, d2] }
  | _ => none }
def QuicRisesWrongFalsely : Prop := quicRisesRow.holds Try.pinned (OpenSpec.ofChange quicRisesWrong)

/-- 'caduceuslaw01.QuicNums': WHATEVER THE INPUT: true; the input reads as it did. -/
def quicNumsSpec : ChangeSpec := { name := "quicNums", fn := fun _ => fun
  | [d1, d2] => { results := [.lit (.bool true)], args := [d1, d2] }
  | _ => none }
def quicNumsRow : OpenClaim := { program := "ytbjokknoladmpaa", sum := "1f648c3de9437624649c60c569f69e5d5e24d335dafcb08b1a4f74852af1767b", func := "caduceus/caduceuslaw01.QuicNums", spec := "quicNums", apart := false }
def QuicNumsSaid : Prop := quicNumsRow.holds Try.pinned (OpenSpec.ofChange quicNumsSpec)

/-- ITS FALSE NEIGHBOUR: 'it returns false'. Refute it at one input. -/
def quicNumsWrong : ChangeSpec := { name := "quicNums", fn := fun _ => fun
  | [d1, d2] => { results := [.lit (.bool false)], args := [d1, d2] }
  | _ => none }
def QuicNumsWrongFalsely : Prop := quicNumsRow.holds Try.pinned (OpenSpec.ofChange quicNumsWrong)

/-- 'caduceuslaw01.QuicPuts': WHATEVER THE INPUT: true; the input reads as it did. -/
def quicPutsSpec : ChangeSpec := { name := "quicPuts", fn := fun _ => fun
  | [d] => { results := [.lit (.bool true)], args := [d] }
  | _ => none }
def quicPutsRow : OpenClaim := { program := "ytbjokknoladmpaa", sum := "1f648c3de9437624649c60c569f69e5d5e24d335dafcb08b1a4f74852af1767b", func := "caduceus/caduceuslaw01.QuicPuts", spec := "quicPuts", inPlace := ["internal/abi.NoEscape"], apart := false }
def QuicPutsSaid : Prop := quicPutsRow.holds Try.pinned (OpenSpec.ofChange quicPutsSpec)

/-- ITS FALSE NEIGHBOUR: 'it returns false'. Refute it at one input. -/
def quicPutsWrong : ChangeSpec := { name := "quicPuts", fn := fun _ => fun
  | [d] => { results := [.lit (.bool false)], args := [d] }
  | _ => none }
def QuicPutsWrongFalsely : Prop := quicPutsRow.holds Try.pinned (OpenSpec.ofChange quicPutsWrong)

/-- 'caduceuslaw01.QuicLists': WHATEVER THE INPUT: true; the input reads as it did. -/
def quicListsSpec : ChangeSpec := { name := "quicLists", fn := fun _ => fun
  | [d1, d2] => { results := [.lit (.bool true)], args := [d1, d2] }
  | _ => none }
def quicListsRow : OpenClaim := { program := "ytbjokknoladmpaa", sum := "1f648c3de9437624649c60c569f69e5d5e24d335dafcb08b1a4f74852af1767b", func := "caduceus/caduceuslaw01.QuicLists", spec := "quicLists", inPlace := ["internal/abi.NoEscape"], apart := false }
def QuicListsSaid : Prop := quicListsRow.holds Try.pinned (OpenSpec.ofChange quicListsSpec)

/-- ITS FALSE NEIGHBOUR: 'it returns false'. Refute it at one input. -/
def quicListsWrong : ChangeSpec := { name := "quicLists", fn := fun _ => fun
  | [d1, d2] => { results := [.lit (.bool false)], args := [d1, d2] }
  | _ => none }
def QuicListsWrongFalsely : Prop := quicListsRow.holds Try.pinned (OpenSpec.ofChange quicListsWrong)

/-- 'caduceuslaw01.QuicTakes': WHATEVER THE INPUT: true; the input reads as it did. -/
def quicTakesSpec : ChangeSpec := { name := "quicTakes", fn := fun _ => fun
  | [d1, d2] => { results := [.lit (.bool true)], args := [d1, d2] }
  | _ => none }
def quicTakesRow : OpenClaim := { program := "ytbjokknoladmpaa", sum := "1f648c3de9437624649c60c569f69e5d5e24d335dafcb08b1a4f74852af1767b", func := "caduceus/caduceuslaw01.QuicTakes", spec := "quicTakes", apart := false }
def QuicTakesSaid : Prop := quicTakesRow.holds Try.pinned (OpenSpec.ofChange quicTakesSpec)

/-- ITS FALSE NEIGHBOUR: 'it returns false'. Refute it at one input. -/
def quicTakesWrong : ChangeSpec := { name := "quicTakes", fn := fun _ => fun
  | [d1, d2] => { results := [.lit (.bool false)], args := [d1, d2] }
  | _ => none }
def QuicTakesWrongFalsely : Prop := quicTakesRow.holds Try.pinned (OpenSpec.ofChange quicTakesWrong)

/-- 'caduceuslaw01.QuicBack': WHATEVER THE INPUT: true; the input reads as it did. -/
def quicBackSpec : ChangeSpec := { name := "quicBack", fn := fun _ => fun
  | [d1, d2, d3] => { results := [.lit (.bool true)], args := [d1, d2, d3] }
  | _ => none }
def quicBackRow : OpenClaim := { program := "ytbjokknoladmpaa", sum := "1f648c3de9437624649c60c569f69e5d5e24d335dafcb08b1a4f74852af1767b", func := "caduceus/caduceuslaw01.QuicBack", spec := "quicBack", inPlace := ["internal/abi.NoEscape"], apart := false }
def QuicBackSaid : Prop := quicBackRow.holds Try.pinned (OpenSpec.ofChange quicBackSpec)

/-- ITS FALSE NEIGHBOUR: 'it returns false'. Refute it at one input. -/
def quicBackWrong : ChangeSpec := { name := "quicBack", fn := fun _ => fun
  | [d1, d2, d3] => { results := [.lit (.bool false)], args := [d1, d2, d3] }
  | _ => none }
def QuicBackWrongFalsely : Prop := quicBackRow.holds Try.pinned (OpenSpec.ofChange quicBackWrong)

/-- 'caduceuslaw01.QuicOnce': WHATEVER THE INPUT: true; the input reads as it did. -/
def quicOnceSpec : ChangeSpec := { name := "quicOnce", fn := fun _ => fun
  | [d1, d2] => { results := [.lit (.bool true)], args := [d1, d2] }
  | _ => none }
def quicOnceRow : OpenClaim := { program := "ytbjokknoladmpaa", sum := "1f648c3de9437624649c60c569f69e5d5e24d335dafcb08b1a4f74852af1767b", func := "caduceus/caduceuslaw01.QuicOnce", spec := "quicOnce", inPlace := ["internal/abi.NoEscape"], apart := false }
def QuicOnceSaid : Prop := quicOnceRow.holds Try.pinned (OpenSpec.ofChange quicOnceSpec)

/-- ITS FALSE NEIGHBOUR: 'it returns false'. Refute it at one input. -/
def quicOnceWrong : ChangeSpec := { name := "quicOnce", fn := fun _ => fun
  | [d1, d2] => { results := [.lit (.bool false)], args := [d1, d2] }
  | _ => none }
def QuicOnceWrongFalsely : Prop := quicOnceRow.holds Try.pinned (OpenSpec.ofChange quicOnceWrong)

/- THE SECOND FORM. 'bulk': how many values and letters a reading holds, each counted each time it is reached (what is shared counts as often as it is met; a slice's spare places count too). A statement '..UptoSaid' is the law's where the arguments, and the package variables that the reading takes, are together of bulk at most 1048576: NARROWER than '..Said'. Prove '..Said' where nothing that the law and all that it calls make is longer than what came in: it says more and counts as full. Else prove '..UptoSaid'. A law counts once. -/
mutual
def uptoBulk {H : Type} : DataW H → Nat
  | .lit (.string bytes) => bytes.length + 1
  | .lit _ => 1
  | .nil => 1
  | .ptr d => uptoBulk d + 1
  | .slice elems spare => uptoBulkAll elems + uptoBulkAll spare + 1
  | .agg parts => uptoBulkAll parts + 1
  | .iface _ d => uptoBulk d + 1
  | .map entries => uptoBulkEntries entries + 1
  | .held _ => 1
def uptoBulkAll {H : Type} : List (DataW H) → Nat
  | [] => 0
  | d :: r => uptoBulk d + uptoBulkAll r
def uptoBulkEntries {H : Type} : List (Lit × DataW H) → Nat
  | [] => 0
  | x :: r => uptoBulkEntry x + uptoBulkEntries r
def uptoBulkEntry {H : Type} : Lit × DataW H → Nat
  | (.string bytes, d) => bytes.length + uptoBulk d + 1
  | (_, d) => uptoBulk d + 1
 end
def uptoSmall : (H : Type) → List (DataW H) → Bool := fun _ ds => decide (uptoBulkAll ds ≤ 1048576)
def OpenSpec.upto (s : _root_.Go.ChangeSpec) : _root_.Go.OpenSpec := { _root_.Go.OpenSpec.ofChange s with cond := some uptoSmall }

/-- 'caduceuslaw01.QuicGets', WHERE WHAT IT READS IS OF BULK AT MOST 1048576: true; the input reads as it did. -/
def quicGetsUptoRow : OpenClaim := { program := "ytbjokknoladmpaa", sum := "1f648c3de9437624649c60c569f69e5d5e24d335dafcb08b1a4f74852af1767b", func := "caduceus/caduceuslaw01.QuicGets", spec := "quicGets", apart := false, narrowed := true }
def QuicGetsUptoSaid : Prop := quicGetsUptoRow.holds Try.pinned (OpenSpec.upto quicGetsSpec)

/-- 'caduceuslaw01.QuicRises', WHERE WHAT IT READS IS OF BULK AT MOST 1048576: true; the input reads as it did. -/
def quicRisesUptoRow : OpenClaim := { program := "ytbjokknoladmpaa", sum := "1f648c3de9437624649c60c569f69e5d5e24d335dafcb08b1a4f74852af1767b", func := "caduceus/caduceuslaw01.QuicRises", spec := "quicRises", apart := false, narrowed := true }
def QuicRisesUptoSaid : Prop := quicRisesUptoRow.holds Try.pinned (OpenSpec.upto quicRisesSpec)

/-- 'caduceuslaw01.QuicNums', WHERE WHAT IT READS IS OF BULK AT MOST 1048576: true; the input reads as it did. -/
def quicNumsUptoRow : OpenClaim := { program := "ytbjokknoladmpaa", sum := "1f648c3de9437624649c60c569f69e5d5e24d335dafcb08b1a4f74852af1767b", func := "caduceus/caduceuslaw01.QuicNums", spec := "quicNums", apart := false, narrowed := true }
def QuicNumsUptoSaid : Prop := quicNumsUptoRow.holds Try.pinned (OpenSpec.upto quicNumsSpec)

/-- 'caduceuslaw01.QuicPuts', WHERE WHAT IT READS IS OF BULK AT MOST 1048576: true; the input reads as it did. -/
def quicPutsUptoRow : OpenClaim := { program := "ytbjokknoladmpaa", sum := "1f648c3de9437624649c60c569f69e5d5e24d335dafcb08b1a4f74852af1767b", func := "caduceus/caduceuslaw01.QuicPuts", spec := "quicPuts", inPlace := ["internal/abi.NoEscape"], apart := false, narrowed := true }
def QuicPutsUptoSaid : Prop := quicPutsUptoRow.holds Try.pinned (OpenSpec.upto quicPutsSpec)

/-- 'caduceuslaw01.QuicLists', WHERE WHAT IT READS IS OF BULK AT MOST 1048576: true; the input reads as it did. -/
def quicListsUptoRow : OpenClaim := { program := "ytbjokknoladmpaa", sum := "1f648c3de9437624649c60c569f69e5d5e24d335dafcb08b1a4f74852af1767b", func := "caduceus/caduceuslaw01.QuicLists", spec := "quicLists", inPlace := ["internal/abi.NoEscape"], apart := false, narrowed := true }
def QuicListsUptoSaid : Prop := quicListsUptoRow.holds Try.pinned (OpenSpec.upto quicListsSpec)

/-- 'caduceuslaw01.QuicTakes', WHERE WHAT IT READS IS OF BULK AT MOST 1048576: true; the input reads as it did. -/
def quicTakesUptoRow : OpenClaim := { program := "ytbjokknoladmpaa", sum := "1f648c3de9437624649c60c569f69e5d5e24d335dafcb08b1a4f74852af1767b", func := "caduceus/caduceuslaw01.QuicTakes", spec := "quicTakes", apart := false, narrowed := true }
def QuicTakesUptoSaid : Prop := quicTakesUptoRow.holds Try.pinned (OpenSpec.upto quicTakesSpec)

/-- 'caduceuslaw01.QuicBack', WHERE WHAT IT READS IS OF BULK AT MOST 1048576: true; the input reads as it did. -/
def quicBackUptoRow : OpenClaim := { program := "ytbjokknoladmpaa", sum := "1f648c3de9437624649c60c569f69e5d5e24d335dafcb08b1a4f74852af1767b", func := "caduceus/caduceuslaw01.QuicBack", spec := "quicBack", inPlace := ["internal/abi.NoEscape"], apart := false, narrowed := true }
def QuicBackUptoSaid : Prop := quicBackUptoRow.holds Try.pinned (OpenSpec.upto quicBackSpec)

/-- 'caduceuslaw01.QuicOnce', WHERE WHAT IT READS IS OF BULK AT MOST 1048576: true; the input reads as it did. -/
def quicOnceUptoRow : OpenClaim := { program := "ytbjokknoladmpaa", sum := "1f648c3de9437624649c60c569f69e5d5e24d335dafcb08b1a4f74852af1767b", func := "caduceus/caduceuslaw01.QuicOnce", spec := "quicOnce", inPlace := ["internal/abi.NoEscape"], apart := false, narrowed := true }
def QuicOnceUptoSaid : Prop := quicOnceUptoRow.holds Try.pinned (OpenSpec.upto quicOnceSpec)

end Rows
end Go.Proofs.Ytbjokknoladmpaa
