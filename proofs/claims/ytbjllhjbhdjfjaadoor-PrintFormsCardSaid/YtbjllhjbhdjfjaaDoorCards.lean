/-
  DERIVED. GIVEN WITH THE SEED: THE CARDS: each row of YtbjllhjbhdjfjaaDoorRows.lean that lists a variable, with what it lists TIED to the program's text (the seventh form; the later family's looks); each row that meets fmt, with fmt's text TOLD by the authors' own Lean function (tested against real Go, not proved from fmt's source: count such statements apart). THE CARD IS WHAT COUNTS. Prove the row's statement (the work); the ties are given (YtbjllhjbhdjfjaaDoorTie.lean); close each card by the builder's one call (the guide's Derived/Test/ToyasCard.lean, 'card_holds'). Laid BY PROGRAM, IN A SANDBOX (cutbox-door.mjs). By AI agents, Wed Nov 11 2026. No macro, syntax, notation, axiom, sorry.
-/
import Derived.Test.YtbjllhjbhdjfjaaDoorRows
import GoSem.ClaimSeven
namespace Go.Proofs.YtbjllhjbhdjfjaaDoor
namespace Rows

/-- THE TIED CARD OF 'assayerlaw8.PrintForms'. -/
def printFormsCard : Claim7 := { stood := { row := printFormsRow, standIns := [], harness := (true, "279209ae91ff5121de9f434714fb95455404f576eeb2b9824cab6cdd4af32197"), looks := true }, kinds := [], alts := [], laidByText := true, laidKinds := [.data, .data, .data, .data, .pinned], laidTests := true, laidLooks := .later }
def PrintFormsCardSaid : Prop := Claim7.holds Tryd.pinned (.plain (OpenSpec.ofChange printFormsSpec)) printFormsCard

/-- THE TIED CARD OF 'assayerlaw5.TokenPlaces'. -/
def tokenPlacesCard : Claim7 := { stood := { row := tokenPlacesRow, standIns := [], harness := (true, "279209ae91ff5121de9f434714fb95455404f576eeb2b9824cab6cdd4af32197"), looks := true }, kinds := [], alts := [], laidByText := true, laidKinds := [.data, .data, .data, .data, .sentinel, .sentinel, .pinned], laidTests := true, laidLooks := .later }
def TokenPlacesCardSaid : Prop := Claim7.holds Tryd.pinned (.plain (OpenSpec.ofChange tokenPlacesSpec)) tokenPlacesCard

/-- THE TIED CARD OF 'assayerlaw5.TokenForms'. -/
def tokenFormsCard : Claim7 := { stood := { row := tokenFormsRow, standIns := [], harness := (true, "279209ae91ff5121de9f434714fb95455404f576eeb2b9824cab6cdd4af32197"), looks := true }, kinds := [], alts := [], laidByText := true, laidKinds := [.data, .data, .data, .data, .sentinel, .sentinel, .pinned], laidTests := true, laidLooks := .later }
def TokenFormsCardSaid : Prop := Claim7.holds Tryd.pinned (.plain (OpenSpec.ofChange tokenFormsSpec)) tokenFormsCard

/-- THE SECOND FORM's CARD OF 'assayerlaw8.PrintForms'. -/
def printFormsUptoCard : Claim7 := { stood := { row := printFormsUptoRow, standIns := [], harness := (true, "279209ae91ff5121de9f434714fb95455404f576eeb2b9824cab6cdd4af32197"), looks := true }, kinds := [], alts := [], laidByText := true, laidKinds := [.data, .data, .data, .data, .pinned], laidTests := true, laidLooks := .later }
def PrintFormsUptoCardSaid : Prop := Claim7.holds Tryd.pinned (.plain (OpenSpec.upto printFormsSpec)) printFormsUptoCard

/-- THE SECOND FORM's CARD OF 'assayerlaw5.TokenPlaces'. -/
def tokenPlacesUptoCard : Claim7 := { stood := { row := tokenPlacesUptoRow, standIns := [], harness := (true, "279209ae91ff5121de9f434714fb95455404f576eeb2b9824cab6cdd4af32197"), looks := true }, kinds := [], alts := [], laidByText := true, laidKinds := [.data, .data, .data, .data, .sentinel, .sentinel, .pinned], laidTests := true, laidLooks := .later }
def TokenPlacesUptoCardSaid : Prop := Claim7.holds Tryd.pinned (.plain (OpenSpec.upto tokenPlacesSpec)) tokenPlacesUptoCard

/-- THE SECOND FORM's CARD OF 'assayerlaw5.TokenForms'. -/
def tokenFormsUptoCard : Claim7 := { stood := { row := tokenFormsUptoRow, standIns := [], harness := (true, "279209ae91ff5121de9f434714fb95455404f576eeb2b9824cab6cdd4af32197"), looks := true }, kinds := [], alts := [], laidByText := true, laidKinds := [.data, .data, .data, .data, .sentinel, .sentinel, .pinned], laidTests := true, laidLooks := .later }
def TokenFormsUptoCardSaid : Prop := Claim7.holds Tryd.pinned (.plain (OpenSpec.upto tokenFormsSpec)) tokenFormsUptoCard
end Rows
end Go.Proofs.YtbjllhjbhdjfjaaDoor
