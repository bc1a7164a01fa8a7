/-
  DERIVED. GIVEN WITH THE SEED: THE CARDS: each row of YtmcochnofkjhaaaDoorRows.lean that lists a variable, with what it lists TIED to the program's text (the seventh form; the later family's looks); each row that meets fmt, with fmt's text TOLD by the authors' own Lean function (tested against real Go, not proved from fmt's source: count such statements apart). THE CARD IS WHAT COUNTS. Prove the row's statement (the work); the ties are given (YtmcochnofkjhaaaDoorTie.lean); close each card by the builder's one call (the guide's Derived/Test/ToyasCard.lean, 'card_holds'). Laid BY PROGRAM, IN A SANDBOX (cutbox-door.mjs). By AI agents, Wed Nov 11 2026. No macro, syntax, notation, axiom, sorry.
-/
import Derived.Test.YtmcochnofkjhaaaDoorRows
import GoSem.ClaimSeven
namespace Go.Proofs.YtmcochnofkjhaaaDoor
namespace Rows

/-- THE TIED CARD OF 'caduceuslaw18.QueueCounts'. -/
def queueCountsCard : Claim7 := { stood := { row := queueCountsRow, standIns := [], harness := (true, "55aa865feb53de91516af5520ead5775e1a14291e4af7dd65ff84fce261e2042"), looks := false }, kinds := [], alts := [], laidByText := true, laidKinds := [.data, .pinned], laidTests := true, laidLooks := .later }
def QueueCountsCardSaid : Prop := Claim7.holds Tryd.pinned (.plain (OpenSpec.ofChange queueCountsSpec)) queueCountsCard

/-- THE TIED CARD OF 'caduceuslaw18.QueueForgets'. -/
def queueForgetsCard : Claim7 := { stood := { row := queueForgetsRow, standIns := [], harness := (true, "55aa865feb53de91516af5520ead5775e1a14291e4af7dd65ff84fce261e2042"), looks := false }, kinds := [], alts := [], laidByText := true, laidKinds := [.data, .pinned], laidTests := true, laidLooks := .later }
def QueueForgetsCardSaid : Prop := Claim7.holds Tryd.pinned (.plain (OpenSpec.ofChange queueForgetsSpec)) queueForgetsCard

/-- THE TIED CARD OF 'caduceuslaw18.QueuePlays'. -/
def queuePlaysCard : Claim7 := { stood := { row := queuePlaysRow, standIns := [], harness := (true, "55aa865feb53de91516af5520ead5775e1a14291e4af7dd65ff84fce261e2042"), looks := false }, kinds := [], alts := [], laidByText := true, laidKinds := [.data, .pinned], laidTests := true, laidLooks := .later }
def QueuePlaysCardSaid : Prop := Claim7.holds Tryd.pinned (.plain (OpenSpec.ofChange queuePlaysSpec)) queuePlaysCard

/-- THE TIED CARD OF 'caduceuslaw18.QueueNil'. -/
def queueNilCard : Claim7 := { stood := { row := queueNilRow, standIns := [], harness := (true, "55aa865feb53de91516af5520ead5775e1a14291e4af7dd65ff84fce261e2042"), looks := false }, kinds := [], alts := [], laidByText := true, laidKinds := [.data, .pinned], laidTests := true, laidLooks := .later }
def QueueNilCardSaid : Prop := Claim7.holds Tryd.pinned (.plain (OpenSpec.ofChange queueNilSpec)) queueNilCard

/-- THE SECOND FORM's CARD OF 'caduceuslaw18.QueueCounts'. -/
def queueCountsUptoCard : Claim7 := { stood := { row := queueCountsUptoRow, standIns := [], harness := (true, "55aa865feb53de91516af5520ead5775e1a14291e4af7dd65ff84fce261e2042"), looks := false }, kinds := [], alts := [], laidByText := true, laidKinds := [.data, .pinned], laidTests := true, laidLooks := .later }
def QueueCountsUptoCardSaid : Prop := Claim7.holds Tryd.pinned (.plain (OpenSpec.upto queueCountsSpec)) queueCountsUptoCard

/-- THE SECOND FORM's CARD OF 'caduceuslaw18.QueueForgets'. -/
def queueForgetsUptoCard : Claim7 := { stood := { row := queueForgetsUptoRow, standIns := [], harness := (true, "55aa865feb53de91516af5520ead5775e1a14291e4af7dd65ff84fce261e2042"), looks := false }, kinds := [], alts := [], laidByText := true, laidKinds := [.data, .pinned], laidTests := true, laidLooks := .later }
def QueueForgetsUptoCardSaid : Prop := Claim7.holds Tryd.pinned (.plain (OpenSpec.upto queueForgetsSpec)) queueForgetsUptoCard

/-- THE SECOND FORM's CARD OF 'caduceuslaw18.QueuePlays'. -/
def queuePlaysUptoCard : Claim7 := { stood := { row := queuePlaysUptoRow, standIns := [], harness := (true, "55aa865feb53de91516af5520ead5775e1a14291e4af7dd65ff84fce261e2042"), looks := false }, kinds := [], alts := [], laidByText := true, laidKinds := [.data, .pinned], laidTests := true, laidLooks := .later }
def QueuePlaysUptoCardSaid : Prop := Claim7.holds Tryd.pinned (.plain (OpenSpec.upto queuePlaysSpec)) queuePlaysUptoCard

/-- THE SECOND FORM's CARD OF 'caduceuslaw18.QueueNil'. -/
def queueNilUptoCard : Claim7 := { stood := { row := queueNilUptoRow, standIns := [], harness := (true, "55aa865feb53de91516af5520ead5775e1a14291e4af7dd65ff84fce261e2042"), looks := false }, kinds := [], alts := [], laidByText := true, laidKinds := [.data, .pinned], laidTests := true, laidLooks := .later }
def QueueNilUptoCardSaid : Prop := Claim7.holds Tryd.pinned (.plain (OpenSpec.upto queueNilSpec)) queueNilUptoCard
end Rows
end Go.Proofs.YtmcochnofkjhaaaDoor
