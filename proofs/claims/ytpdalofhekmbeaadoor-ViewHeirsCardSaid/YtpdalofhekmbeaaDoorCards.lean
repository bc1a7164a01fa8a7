/-
  DERIVED. GIVEN WITH THE SEED: THE CARDS: each row of YtpdalofhekmbeaaDoorRows.lean that lists a variable, with what it lists TIED to the program's text (the seventh form; the later family's looks); each row that meets fmt, with fmt's text TOLD by the authors' own Lean function (tested against real Go, not proved from fmt's source: count such statements apart). THE CARD IS WHAT COUNTS. Prove the row's statement (the work); the ties are given (YtpdalofhekmbeaaDoorTie.lean); close each card by the builder's one call (the guide's Derived/Test/ToyasCard.lean, 'card_holds'). Laid BY PROGRAM, IN A SANDBOX (cutbox-door.mjs). By AI agents, Wed Nov 11 2026. No macro, syntax, notation, axiom, sorry.
-/
import Derived.Test.YtpdalofhekmbeaaDoorRows
import GoSem.ClaimSeven
namespace Go.Proofs.YtpdalofhekmbeaaDoor
namespace Rows

/-- THE TIED CARD OF 'caduceuslaw14.ViewHeirs'. -/
def viewHeirsCard : Claim7 := { stood := { row := viewHeirsRow, standIns := [], harness := (true, "02cbb9031d8c32e9b308665edd3208664d41c9f826c3ca0078ec1887ae924a8e"), looks := false }, kinds := [], alts := [], laidByText := true, laidKinds := [.data, .data, .data, .data, .pinned], laidTests := true, laidLooks := .later }
def ViewHeirsCardSaid : Prop := Claim7.holds Tryd.pinned (.plain (OpenSpec.ofChange viewHeirsSpec)) viewHeirsCard

/-- THE SECOND FORM's CARD OF 'caduceuslaw14.ViewHeirs'. -/
def viewHeirsUptoCard : Claim7 := { stood := { row := viewHeirsUptoRow, standIns := [], harness := (true, "02cbb9031d8c32e9b308665edd3208664d41c9f826c3ca0078ec1887ae924a8e"), looks := false }, kinds := [], alts := [], laidByText := true, laidKinds := [.data, .data, .data, .data, .pinned], laidTests := true, laidLooks := .later }
def ViewHeirsUptoCardSaid : Prop := Claim7.holds Tryd.pinned (.plain (OpenSpec.upto viewHeirsSpec)) viewHeirsUptoCard
end Rows
end Go.Proofs.YtpdalofhekmbeaaDoor
