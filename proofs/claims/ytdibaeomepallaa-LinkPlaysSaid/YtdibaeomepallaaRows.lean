/-
  No cell of these rows narrows 'for every input' (looked for: loops, veiled, ifaces, maps, wideKeys, modest, calm, conditions, laid).
  DERIVED. THE GIVEN ROWS OF THIS SEAT. 12 by the template 'for every input the law returns true; each argument reads behind the call as it read before'; 0 by the template 'total and deterministic' (their statements: YtdibaeomepallaaTotals.lean).
  GIVEN WITH THE SEED: the statements are not yours to turn. If you find one false, say at which input.
  Laid BY PROGRAM, IN A SANDBOX (cutbox-rows.mjs): the forced cells as the released guide's own fill.sh prints them over the translation 5806f2870e4787d4… (all of the seat's roots in one cut). By AI agents, Wed Nov 11 2026. No macro, syntax, notation, axiom, sorry.
-/
import Derived.Test.YtdibaeomepallaaChecked
import GoSem.Claim
import GoSem.ClaimJoined
import GoSem.ClaimMapViews
import Derived.JoinedTies
import Derived.KernelRfl
namespace Go.Proofs.Ytdibaeomepallaa
/- THE CELL 'sum', in the pinned program and in every row, IS THE sha256 OF THE DUMP (.gsa) THAT YtdibaeomepallaaProg.lean LOADS. Nothing in Lean hashes anything: it is a label: what it is worth is what the hold of that sum in a sandbox is worth. -/
noncomputable def Try.pinned : Pinned := { name := "ytdibaeomepallaa", sum := "5806f2870e4787d4f27640232d7f13c8d2c0fb73698ddbff2e024e16145bd082", checked := Try.checked }
namespace Rows
def none {H : Type} : Left H := { results := [], args := [] }

/-- 'caduceuslaw12.NetLimits': WHATEVER THE INPUT: true; the input reads as it did. -/
def netLimitsSpec : ChangeSpec := { name := "netLimits", fn := fun _ => fun
  | [d] => { results := [.lit (.bool true)], args := [d] }
  | _ => none }
def netLimitsRow : OpenClaim := { program := "ytdibaeomepallaa", sum := "5806f2870e4787d4f27640232d7f13c8d2c0fb73698ddbff2e024e16145bd082", func := "caduceus/caduceuslaw12.NetLimits", spec := "netLimits", apart := false }
def NetLimitsSaid : Prop := netLimitsRow.holds Try.pinned (OpenSpec.ofChange netLimitsSpec)

/-- ITS FALSE NEIGHBOUR: 'it returns false'. Refute it at one input. -/
def netLimitsWrong : ChangeSpec := { name := "netLimits", fn := fun _ => fun
  | [d] => { results := [.lit (.bool false)], args := [d] }
  | _ => none }
def NetLimitsWrongFalsely : Prop := netLimitsRow.holds Try.pinned (OpenSpec.ofChange netLimitsWrong)

/-- 'caduceuslaw12.NetPlays': WHATEVER THE INPUT: true; the input reads as it did. -/
def netPlaysSpec : ChangeSpec := { name := "netPlays", fn := fun _ => fun
  | [d] => { results := [.lit (.bool true)], args := [d] }
  | _ => none }
def netPlaysRow : OpenClaim := { program := "ytdibaeomepallaa", sum := "5806f2870e4787d4f27640232d7f13c8d2c0fb73698ddbff2e024e16145bd082", func := "caduceus/caduceuslaw12.NetPlays", spec := "netPlays", apart := false }
def NetPlaysSaid : Prop := netPlaysRow.holds Try.pinned (OpenSpec.ofChange netPlaysSpec)

/-- ITS FALSE NEIGHBOUR: 'it returns false'. Refute it at one input. -/
def netPlaysWrong : ChangeSpec := { name := "netPlays", fn := fun _ => fun
  | [d] => { results := [.lit (.bool false)], args := [d] }
  | _ => none }
def NetPlaysWrongFalsely : Prop := netPlaysRow.holds Try.pinned (OpenSpec.ofChange netPlaysWrong)

/-- 'caduceuslaw12.NetOnce': WHATEVER THE INPUT: true; the input reads as it did. -/
def netOnceSpec : ChangeSpec := { name := "netOnce", fn := fun _ => fun
  | [d] => { results := [.lit (.bool true)], args := [d] }
  | _ => none }
def netOnceRow : OpenClaim := { program := "ytdibaeomepallaa", sum := "5806f2870e4787d4f27640232d7f13c8d2c0fb73698ddbff2e024e16145bd082", func := "caduceus/caduceuslaw12.NetOnce", spec := "netOnce", apart := false }
def NetOnceSaid : Prop := netOnceRow.holds Try.pinned (OpenSpec.ofChange netOnceSpec)

/-- ITS FALSE NEIGHBOUR: 'it returns false'. Refute it at one input. -/
def netOnceWrong : ChangeSpec := { name := "netOnce", fn := fun _ => fun
  | [d] => { results := [.lit (.bool false)], args := [d] }
  | _ => none }
def NetOnceWrongFalsely : Prop := netOnceRow.holds Try.pinned (OpenSpec.ofChange netOnceWrong)

/-- 'caduceuslaw12.NetRows': WHATEVER THE INPUT: true; the input reads as it did. -/
def netRowsSpec : ChangeSpec := { name := "netRows", fn := fun _ => fun
  | [d1, d2] => { results := [.lit (.bool true)], args := [d1, d2] }
  | _ => none }
def netRowsRow : OpenClaim := { program := "ytdibaeomepallaa", sum := "5806f2870e4787d4f27640232d7f13c8d2c0fb73698ddbff2e024e16145bd082", func := "caduceus/caduceuslaw12.NetRows", spec := "netRows", apart := false }
def NetRowsSaid : Prop := netRowsRow.holds Try.pinned (OpenSpec.ofChange netRowsSpec)

/-- ITS FALSE NEIGHBOUR: 'it returns false'. Refute it at one input. -/
def netRowsWrong : ChangeSpec := { name := "netRows", fn := fun _ => fun
  | [d1, d2] => { results := [.lit (.bool false)], args := [d1, d2] }
  | _ => none }
def NetRowsWrongFalsely : Prop := netRowsRow.holds Try.pinned (OpenSpec.ofChange netRowsWrong)

/-- 'caduceuslaw12.NetNil': WHATEVER THE INPUT: true; the input reads as it did. -/
def netNilSpec : ChangeSpec := { name := "netNil", fn := fun _ => fun
  | [d1, d2, d3] => { results := [.lit (.bool true)], args := [d1, d2, d3] }
  | _ => none }
def netNilRow : OpenClaim := { program := "ytdibaeomepallaa", sum := "5806f2870e4787d4f27640232d7f13c8d2c0fb73698ddbff2e024e16145bd082", func := "caduceus/caduceuslaw12.NetNil", spec := "netNil", apart := false }
def NetNilSaid : Prop := netNilRow.holds Try.pinned (OpenSpec.ofChange netNilSpec)

/-- ITS FALSE NEIGHBOUR: 'it returns false'. Refute it at one input. -/
def netNilWrong : ChangeSpec := { name := "netNil", fn := fun _ => fun
  | [d1, d2, d3] => { results := [.lit (.bool false)], args := [d1, d2, d3] }
  | _ => none }
def NetNilWrongFalsely : Prop := netNilRow.holds Try.pinned (OpenSpec.ofChange netNilWrong)

/-- 'caduceuslaw13.LinkFull': WHATEVER THE INPUT: true; the input reads as it did. -/
def linkFullSpec : ChangeSpec := { name := "linkFull", fn := fun _ => fun
  | [d1, d2] => { results := [.lit (.bool true)], args := [d1, d2] }
  | _ => none }
def linkFullRow : OpenClaim := { program := "ytdibaeomepallaa", sum := "5806f2870e4787d4f27640232d7f13c8d2c0fb73698ddbff2e024e16145bd082", func := "caduceus/caduceuslaw13.LinkFull", spec := "linkFull", apart := false }
def LinkFullSaid : Prop := linkFullRow.holds Try.pinned (OpenSpec.ofChange linkFullSpec)

/-- ITS FALSE NEIGHBOUR: 'it returns false'. Refute it at one input. -/
def linkFullWrong : ChangeSpec := { name := "linkFull", fn := fun _ => fun
  | [d1, d2] => { results := [.lit (.bool false)], args := [d1, d2] }
  | _ => none }
def LinkFullWrongFalsely : Prop := linkFullRow.holds Try.pinned (OpenSpec.ofChange linkFullWrong)

/-- 'caduceuslaw13.LinkPlays': WHATEVER THE INPUT: true; the input reads as it did. -/
def linkPlaysSpec : ChangeSpec := { name := "linkPlays", fn := fun _ => fun
  | [d1, d2] => { results := [.lit (.bool true)], args := [d1, d2] }
  | _ => none }
def linkPlaysRow : OpenClaim := { program := "ytdibaeomepallaa", sum := "5806f2870e4787d4f27640232d7f13c8d2c0fb73698ddbff2e024e16145bd082", func := "caduceus/caduceuslaw13.LinkPlays", spec := "linkPlays", apart := false }
def LinkPlaysSaid : Prop := linkPlaysRow.holds Try.pinned (OpenSpec.ofChange linkPlaysSpec)

/-- ITS FALSE NEIGHBOUR: 'it returns false'. Refute it at one input. -/
def linkPlaysWrong : ChangeSpec := { name := "linkPlays", fn := fun _ => fun
  | [d1, d2] => { results := [.lit (.bool false)], args := [d1, d2] }
  | _ => none }
def LinkPlaysWrongFalsely : Prop := linkPlaysRow.holds Try.pinned (OpenSpec.ofChange linkPlaysWrong)

/-- 'caduceuslaw13.LinkNil': WHATEVER THE INPUT: true; the input reads as it did. -/
def linkNilSpec : ChangeSpec := { name := "linkNil", fn := fun _ => fun
  | [d1, d2, d3] => { results := [.lit (.bool true)], args := [d1, d2, d3] }
  | _ => none }
def linkNilRow : OpenClaim := { program := "ytdibaeomepallaa", sum := "5806f2870e4787d4f27640232d7f13c8d2c0fb73698ddbff2e024e16145bd082", func := "caduceus/caduceuslaw13.LinkNil", spec := "linkNil", apart := false }
def LinkNilSaid : Prop := linkNilRow.holds Try.pinned (OpenSpec.ofChange linkNilSpec)

/-- ITS FALSE NEIGHBOUR: 'it returns false'. Refute it at one input. -/
def linkNilWrong : ChangeSpec := { name := "linkNil", fn := fun _ => fun
  | [d1, d2, d3] => { results := [.lit (.bool false)], args := [d1, d2, d3] }
  | _ => none }
def LinkNilWrongFalsely : Prop := linkNilRow.holds Try.pinned (OpenSpec.ofChange linkNilWrong)

/-- 'caduceuslaw13.LinkEnds': WHATEVER THE INPUT: true; the input reads as it did. -/
def linkEndsSpec : ChangeSpec := { name := "linkEnds", fn := fun _ => fun
  | [d1, d2] => { results := [.lit (.bool true)], args := [d1, d2] }
  | _ => none }
def linkEndsRow : OpenClaim := { program := "ytdibaeomepallaa", sum := "5806f2870e4787d4f27640232d7f13c8d2c0fb73698ddbff2e024e16145bd082", func := "caduceus/caduceuslaw13.LinkEnds", spec := "linkEnds", apart := false }
def LinkEndsSaid : Prop := linkEndsRow.holds Try.pinned (OpenSpec.ofChange linkEndsSpec)

/-- ITS FALSE NEIGHBOUR: 'it returns false'. Refute it at one input. -/
def linkEndsWrong : ChangeSpec := { name := "linkEnds", fn := fun _ => fun
  | [d1, d2] => { results := [.lit (.bool false)], args := [d1, d2] }
  | _ => none }
def LinkEndsWrongFalsely : Prop := linkEndsRow.holds Try.pinned (OpenSpec.ofChange linkEndsWrong)

/-- 'caduceuslaw13.LinkOrder': WHATEVER THE INPUT: true; the input reads as it did. -/
def linkOrderSpec : ChangeSpec := { name := "linkOrder", fn := fun _ => fun
  | [d] => { results := [.lit (.bool true)], args := [d] }
  | _ => none }
def linkOrderRow : OpenClaim := { program := "ytdibaeomepallaa", sum := "5806f2870e4787d4f27640232d7f13c8d2c0fb73698ddbff2e024e16145bd082", func := "caduceus/caduceuslaw13.LinkOrder", spec := "linkOrder", apart := false }
def LinkOrderSaid : Prop := linkOrderRow.holds Try.pinned (OpenSpec.ofChange linkOrderSpec)

/-- ITS FALSE NEIGHBOUR: 'it returns false'. Refute it at one input. -/
def linkOrderWrong : ChangeSpec := { name := "linkOrder", fn := fun _ => fun
  | [d] => { results := [.lit (.bool false)], args := [d] }
  | _ => none }
def LinkOrderWrongFalsely : Prop := linkOrderRow.holds Try.pinned (OpenSpec.ofChange linkOrderWrong)

/-- 'caduceuslaw13.LinkGoes': WHATEVER THE INPUT: true; the input reads as it did. -/
def linkGoesSpec : ChangeSpec := { name := "linkGoes", fn := fun _ => fun
  | [d] => { results := [.lit (.bool true)], args := [d] }
  | _ => none }
def linkGoesRow : OpenClaim := { program := "ytdibaeomepallaa", sum := "5806f2870e4787d4f27640232d7f13c8d2c0fb73698ddbff2e024e16145bd082", func := "caduceus/caduceuslaw13.LinkGoes", spec := "linkGoes", apart := false }
def LinkGoesSaid : Prop := linkGoesRow.holds Try.pinned (OpenSpec.ofChange linkGoesSpec)

/-- ITS FALSE NEIGHBOUR: 'it returns false'. Refute it at one input. -/
def linkGoesWrong : ChangeSpec := { name := "linkGoes", fn := fun _ => fun
  | [d] => { results := [.lit (.bool false)], args := [d] }
  | _ => none }
def LinkGoesWrongFalsely : Prop := linkGoesRow.holds Try.pinned (OpenSpec.ofChange linkGoesWrong)

/-- 'caduceuslaw13.LinkOld': WHATEVER THE INPUT: true; the input reads as it did. -/
def linkOldSpec : ChangeSpec := { name := "linkOld", fn := fun _ => fun
  | [d1, d2] => { results := [.lit (.bool true)], args := [d1, d2] }
  | _ => none }
def linkOldRow : OpenClaim := { program := "ytdibaeomepallaa", sum := "5806f2870e4787d4f27640232d7f13c8d2c0fb73698ddbff2e024e16145bd082", func := "caduceus/caduceuslaw13.LinkOld", spec := "linkOld", apart := false }
def LinkOldSaid : Prop := linkOldRow.holds Try.pinned (OpenSpec.ofChange linkOldSpec)

/-- ITS FALSE NEIGHBOUR: 'it returns false'. Refute it at one input. -/
def linkOldWrong : ChangeSpec := { name := "linkOld", fn := fun _ => fun
  | [d1, d2] => { results := [.lit (.bool false)], args := [d1, d2] }
  | _ => none }
def LinkOldWrongFalsely : Prop := linkOldRow.holds Try.pinned (OpenSpec.ofChange linkOldWrong)

/- THE SECOND FORM. 'bulk': how many values and letters a reading holds, each counted each time it is reached (what is shared counts as often as it is met; a slice's spare places count too). A statement '..UptoSaid' is the law's where the arguments, and the package variables that the reading takes, are together of bulk at most 1048576: NARROWER than '..Said'. Prove '..Said' where nothing that the law and all that it calls make is longer than what came in: it says more and counts as full. Else prove '..UptoSaid'. A law counts once. -/
mutual
def uptoBulk {H : Type} : DataW H → Nat
  | .lit (.string bytes) => bytes.length + 1
  | .lit _ => 1
  | .nil => 1
  | .ptr d => uptoBulk d + 1
  | .slice elems spare => uptoBulkAll elems + uptoBulkAll spare + 1
  | .agg parts => uptoBulkAll parts + 1
  | .iface _ d => uptoBulk d + 1
  | .map entries => uptoBulkEntries entries + 1
  | .held _ => 1
def uptoBulkAll {H : Type} : List (DataW H) → Nat
  | [] => 0
  | d :: r => uptoBulk d + uptoBulkAll r
def uptoBulkEntries {H : Type} : List (Lit × DataW H) → Nat
  | [] => 0
  | x :: r => uptoBulkEntry x + uptoBulkEntries r
def uptoBulkEntry {H : Type} : Lit × DataW H → Nat
  | (.string bytes, d) => bytes.length + uptoBulk d + 1
  | (_, d) => uptoBulk d + 1
 end
def uptoSmall : (H : Type) → List (DataW H) → Bool := fun _ ds => decide (uptoBulkAll ds ≤ 1048576)
def OpenSpec.upto (s : _root_.Go.ChangeSpec) : _root_.Go.OpenSpec := { _root_.Go.OpenSpec.ofChange s with cond := some uptoSmall }

/-- 'caduceuslaw12.NetLimits', WHERE WHAT IT READS IS OF BULK AT MOST 1048576: true; the input reads as it did. -/
def netLimitsUptoRow : OpenClaim := { program := "ytdibaeomepallaa", sum := "5806f2870e4787d4f27640232d7f13c8d2c0fb73698ddbff2e024e16145bd082", func := "caduceus/caduceuslaw12.NetLimits", spec := "netLimits", apart := false, narrowed := true }
def NetLimitsUptoSaid : Prop := netLimitsUptoRow.holds Try.pinned (OpenSpec.upto netLimitsSpec)

/-- 'caduceuslaw12.NetPlays', WHERE WHAT IT READS IS OF BULK AT MOST 1048576: true; the input reads as it did. -/
def netPlaysUptoRow : OpenClaim := { program := "ytdibaeomepallaa", sum := "5806f2870e4787d4f27640232d7f13c8d2c0fb73698ddbff2e024e16145bd082", func := "caduceus/caduceuslaw12.NetPlays", spec := "netPlays", apart := false, narrowed := true }
def NetPlaysUptoSaid : Prop := netPlaysUptoRow.holds Try.pinned (OpenSpec.upto netPlaysSpec)

/-- 'caduceuslaw12.NetOnce', WHERE WHAT IT READS IS OF BULK AT MOST 1048576: true; the input reads as it did. -/
def netOnceUptoRow : OpenClaim := { program := "ytdibaeomepallaa", sum := "5806f2870e4787d4f27640232d7f13c8d2c0fb73698ddbff2e024e16145bd082", func := "caduceus/caduceuslaw12.NetOnce", spec := "netOnce", apart := false, narrowed := true }
def NetOnceUptoSaid : Prop := netOnceUptoRow.holds Try.pinned (OpenSpec.upto netOnceSpec)

/-- 'caduceuslaw12.NetRows', WHERE WHAT IT READS IS OF BULK AT MOST 1048576: true; the input reads as it did. -/
def netRowsUptoRow : OpenClaim := { program := "ytdibaeomepallaa", sum := "5806f2870e4787d4f27640232d7f13c8d2c0fb73698ddbff2e024e16145bd082", func := "caduceus/caduceuslaw12.NetRows", spec := "netRows", apart := false, narrowed := true }
def NetRowsUptoSaid : Prop := netRowsUptoRow.holds Try.pinned (OpenSpec.upto netRowsSpec)

/-- 'caduceuslaw12.NetNil', WHERE WHAT IT READS IS OF BULK AT MOST 1048576: true; the input reads as it did. -/
def netNilUptoRow : OpenClaim := { program := "ytdibaeomepallaa", sum := "5806f2870e4787d4f27640232d7f13c8d2c0fb73698ddbff2e024e16145bd082", func := "caduceus/caduceuslaw12.NetNil", spec := "netNil", apart := false, narrowed := true }
def NetNilUptoSaid : Prop := netNilUptoRow.holds Try.pinned (OpenSpec.upto netNilSpec)

/-- 'caduceuslaw13.LinkFull', WHERE WHAT IT READS IS OF BULK AT MOST 1048576: true; the input reads as it did. -/
def linkFullUptoRow : OpenClaim := { program := "ytdibaeomepallaa", sum := "5806f2870e4787d4f27640232d7f13c8d2c0fb73698ddbff2e024e16145bd082", func := "caduceus/caduceuslaw13.LinkFull", spec := "linkFull", apart := false, narrowed := true }
def LinkFullUptoSaid : Prop := linkFullUptoRow.holds Try.pinned (OpenSpec.upto linkFullSpec)

/-- 'caduceuslaw13.LinkPlays', WHERE WHAT IT READS IS OF BULK AT MOST 1048576: true; the input reads as it did. -/
def linkPlaysUptoRow : OpenClaim := { program := "ytdibaeomepallaa", sum := "5806f2870e4787d4f27640232d7f13c8d2c0fb73698ddbff2e024e16145bd082", func := "caduceus/caduceuslaw13.LinkPlays", spec := "linkPlays", apart := false, narrowed := true }
def LinkPlaysUptoSaid : Prop := linkPlaysUptoRow.holds Try.pinned (OpenSpec.upto linkPlaysSpec)

/-- 'caduceuslaw13.LinkNil', WHERE WHAT IT READS IS OF BULK AT MOST 1048576: true; the input reads as it did. -/
def linkNilUptoRow : OpenClaim := { program := "ytdibaeomepallaa", sum := "5806f2870e4787d4f27640232d7f13c8d2c0fb73698ddbff2e024e16145bd082", func := "caduceus/caduceuslaw13.LinkNil", spec := "linkNil", apart := false, narrowed := true }
def LinkNilUptoSaid : Prop := linkNilUptoRow.holds Try.pinned (OpenSpec.upto linkNilSpec)

/-- 'caduceuslaw13.LinkEnds', WHERE WHAT IT READS IS OF BULK AT MOST 1048576: true; the input reads as it did. -/
def linkEndsUptoRow : OpenClaim := { program := "ytdibaeomepallaa", sum := "5806f2870e4787d4f27640232d7f13c8d2c0fb73698ddbff2e024e16145bd082", func := "caduceus/caduceuslaw13.LinkEnds", spec := "linkEnds", apart := false, narrowed := true }
def LinkEndsUptoSaid : Prop := linkEndsUptoRow.holds Try.pinned (OpenSpec.upto linkEndsSpec)

/-- 'caduceuslaw13.LinkOrder', WHERE WHAT IT READS IS OF BULK AT MOST 1048576: true; the input reads as it did. -/
def linkOrderUptoRow : OpenClaim := { program := "ytdibaeomepallaa", sum := "5806f2870e4787d4f27640232d7f13c8d2c0fb73698ddbff2e024e16145bd082", func := "caduceus/caduceuslaw13.LinkOrder", spec := "linkOrder", apart := false, narrowed := true }
def LinkOrderUptoSaid : Prop := linkOrderUptoRow.holds Try.pinned (OpenSpec.upto linkOrderSpec)

/-- 'caduceuslaw13.LinkGoes', WHERE WHAT IT READS IS OF BULK AT MOST 1048576: true; the input reads as it did. -/
def linkGoesUptoRow : OpenClaim := { program := "ytdibaeomepallaa", sum := "5806f2870e4787d4f27640232d7f13c8d2c0fb73698ddbff2e024e16145bd082", func := "caduceus/caduceuslaw13.LinkGoes", spec := "linkGoes", apart := false, narrowed := true }
def LinkGoesUptoSaid : Prop := linkGoesUptoRow.holds Try.pinned (OpenSpec.upto linkGoesSpec)

/-- 'caduceuslaw13.LinkOld', WHERE WHAT IT READS IS OF BULK AT MOST 1048576: true; the input reads as it did. -/
def linkOldUptoRow : OpenClaim := { program := "ytdibaeomepallaa", sum := "5806f2870e4787d4f27640232d7f13c8d2c0fb73698ddbff2e024e16145bd082", func := "caduceus/caduceuslaw13.LinkOld", spec := "linkOld", apart := false, narrowed := true }
def LinkOldUptoSaid : Prop := linkOldUptoRow.holds Try.pinned (OpenSpec.upto linkOldSpec)

end Rows
end Go.Proofs.Ytdibaeomepallaa
