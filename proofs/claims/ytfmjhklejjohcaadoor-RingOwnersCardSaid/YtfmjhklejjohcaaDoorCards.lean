/-
  DERIVED. GIVEN WITH THE SEED: THE CARDS: each row of YtfmjhklejjohcaaDoorRows.lean that lists a variable, with what it lists TIED to the program's text (the seventh form; the later family's looks); each row that meets fmt, with fmt's text TOLD by the authors' own Lean function (tested against real Go, not proved from fmt's source: count such statements apart). THE CARD IS WHAT COUNTS. Prove the row's statement (the work); the ties are given (YtfmjhklejjohcaaDoorTie.lean); close each card by the builder's one call (the guide's Derived/Test/ToyasCard.lean, 'card_holds'). Laid BY PROGRAM, IN A SANDBOX (cutbox-door.mjs). By AI agents, Wed Nov 11 2026. No macro, syntax, notation, axiom, sorry.
-/
import Derived.Test.YtfmjhklejjohcaaDoorRows
import GoSem.ClaimSeven
namespace Go.Proofs.YtfmjhklejjohcaaDoor
namespace Rows

/-- THE TIED CARD OF 'caduceuslaw10.RingHops'. -/
def ringHopsCard : Claim7 := { stood := { row := ringHopsRow, standIns := [], harness := (true, "9ec694de9ff0d371532cb30c7fcc9063cf95b47f85f37898a5f880adfe533ab1"), looks := false }, kinds := [], alts := [], laidByText := true, laidKinds := [.data, .data, .data], laidTests := true, laidLooks := .later }
def RingHopsCardSaid : Prop := Claim7.holds Tryd.pinned (.plain (OpenSpec.ofChange ringHopsSpec)) ringHopsCard

/-- THE TIED CARD OF 'caduceuslaw10.RingWays'. -/
def ringWaysCard : Claim7 := { stood := { row := ringWaysRow, standIns := [], harness := (true, "9ec694de9ff0d371532cb30c7fcc9063cf95b47f85f37898a5f880adfe533ab1"), looks := false }, kinds := [], alts := [], laidByText := true, laidKinds := [.data, .data, .data], laidTests := true, laidLooks := .later }
def RingWaysCardSaid : Prop := Claim7.holds Tryd.pinned (.plain (OpenSpec.ofChange ringWaysSpec)) ringWaysCard

/-- THE TIED CARD OF 'caduceuslaw10.RingLess'. -/
def ringLessCard : Claim7 := { stood := { row := ringLessRow, standIns := [], harness := (true, "9ec694de9ff0d371532cb30c7fcc9063cf95b47f85f37898a5f880adfe533ab1"), looks := false }, kinds := [], alts := [], laidByText := true, laidKinds := [.data, .data, .data], laidTests := true, laidLooks := .later }
def RingLessCardSaid : Prop := Claim7.holds Tryd.pinned (.plain (OpenSpec.ofChange ringLessSpec)) ringLessCard

/-- THE TIED CARD OF 'caduceuslaw10.RingHeirs'. -/
def ringHeirsCard : Claim7 := { stood := { row := ringHeirsRow, standIns := [], harness := (true, "9ec694de9ff0d371532cb30c7fcc9063cf95b47f85f37898a5f880adfe533ab1"), looks := false }, kinds := [], alts := [], laidByText := true, laidKinds := [.data, .data, .data], laidTests := true, laidLooks := .later }
def RingHeirsCardSaid : Prop := Claim7.holds Tryd.pinned (.plain (OpenSpec.ofChange ringHeirsSpec)) ringHeirsCard

/-- THE TIED CARD OF 'caduceuslaw10.RingOwners'. -/
def ringOwnersCard : Claim7 := { stood := { row := ringOwnersRow, standIns := [], harness := (true, "9ec694de9ff0d371532cb30c7fcc9063cf95b47f85f37898a5f880adfe533ab1"), looks := false }, kinds := [], alts := [], laidByText := true, laidKinds := [.data, .data, .data, .data, .pinned], laidTests := true, laidLooks := .later }
def RingOwnersCardSaid : Prop := Claim7.holds Tryd.pinned (.plain (OpenSpec.ofChange ringOwnersSpec)) ringOwnersCard

/-- THE SECOND FORM's CARD OF 'caduceuslaw10.RingHops'. -/
def ringHopsUptoCard : Claim7 := { stood := { row := ringHopsUptoRow, standIns := [], harness := (true, "9ec694de9ff0d371532cb30c7fcc9063cf95b47f85f37898a5f880adfe533ab1"), looks := false }, kinds := [], alts := [], laidByText := true, laidKinds := [.data, .data, .data], laidTests := true, laidLooks := .later }
def RingHopsUptoCardSaid : Prop := Claim7.holds Tryd.pinned (.plain (OpenSpec.upto ringHopsSpec)) ringHopsUptoCard

/-- THE SECOND FORM's CARD OF 'caduceuslaw10.RingWays'. -/
def ringWaysUptoCard : Claim7 := { stood := { row := ringWaysUptoRow, standIns := [], harness := (true, "9ec694de9ff0d371532cb30c7fcc9063cf95b47f85f37898a5f880adfe533ab1"), looks := false }, kinds := [], alts := [], laidByText := true, laidKinds := [.data, .data, .data], laidTests := true, laidLooks := .later }
def RingWaysUptoCardSaid : Prop := Claim7.holds Tryd.pinned (.plain (OpenSpec.upto ringWaysSpec)) ringWaysUptoCard

/-- THE SECOND FORM's CARD OF 'caduceuslaw10.RingLess'. -/
def ringLessUptoCard : Claim7 := { stood := { row := ringLessUptoRow, standIns := [], harness := (true, "9ec694de9ff0d371532cb30c7fcc9063cf95b47f85f37898a5f880adfe533ab1"), looks := false }, kinds := [], alts := [], laidByText := true, laidKinds := [.data, .data, .data], laidTests := true, laidLooks := .later }
def RingLessUptoCardSaid : Prop := Claim7.holds Tryd.pinned (.plain (OpenSpec.upto ringLessSpec)) ringLessUptoCard

/-- THE SECOND FORM's CARD OF 'caduceuslaw10.RingHeirs'. -/
def ringHeirsUptoCard : Claim7 := { stood := { row := ringHeirsUptoRow, standIns := [], harness := (true, "9ec694de9ff0d371532cb30c7fcc9063cf95b47f85f37898a5f880adfe533ab1"), looks := false }, kinds := [], alts := [], laidByText := true, laidKinds := [.data, .data, .data], laidTests := true, laidLooks := .later }
def RingHeirsUptoCardSaid : Prop := Claim7.holds Tryd.pinned (.plain (OpenSpec.upto ringHeirsSpec)) ringHeirsUptoCard

/-- THE SECOND FORM's CARD OF 'caduceuslaw10.RingOwners'. -/
def ringOwnersUptoCard : Claim7 := { stood := { row := ringOwnersUptoRow, standIns := [], harness := (true, "9ec694de9ff0d371532cb30c7fcc9063cf95b47f85f37898a5f880adfe533ab1"), looks := false }, kinds := [], alts := [], laidByText := true, laidKinds := [.data, .data, .data, .data, .pinned], laidTests := true, laidLooks := .later }
def RingOwnersUptoCardSaid : Prop := Claim7.holds Tryd.pinned (.plain (OpenSpec.upto ringOwnersSpec)) ringOwnersUptoCard
end Rows
end Go.Proofs.YtfmjhklejjohcaaDoor
