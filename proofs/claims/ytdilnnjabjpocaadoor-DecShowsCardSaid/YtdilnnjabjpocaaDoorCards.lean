/-
  DERIVED. GIVEN WITH THE SEED: THE CARDS: each row of YtdilnnjabjpocaaDoorRows.lean that lists a variable, with what it lists TIED to the program's text (the seventh form; the later family's looks); each row that meets fmt, with fmt's text TOLD by the authors' own Lean function (tested against real Go, not proved from fmt's source: count such statements apart). THE CARD IS WHAT COUNTS. Prove the row's statement (the work); the ties are given (YtdilnnjabjpocaaDoorTie.lean); close each card by the builder's one call (the guide's Derived/Test/ToyasCard.lean, 'card_holds'). Laid BY PROGRAM, IN A SANDBOX (cutbox-door.mjs). By AI agents, Wed Nov 11 2026. No macro, syntax, notation, axiom, sorry.
-/
import Derived.Test.YtdilnnjabjpocaaDoorRows
import GoSem.ClaimSeven
namespace Go.Proofs.YtdilnnjabjpocaaDoor
namespace Rows

/-- THE TIED CARD OF 'assayerlaw4.DecParses'. -/
def decParsesCard : Claim7 := { stood := { row := decParsesRow, standIns := [], harness := (true, "20768537e31042e983facfb7c5fb2bf15512dbf0559c2273794941998e409c0e"), looks := false }, kinds := [], alts := [], laidByText := true, laidKinds := [.data, .data, .data, .data, .pinned], laidTests := true, laidLooks := .later }
def DecParsesCardSaid : Prop := Claim7.holds Tryd.pinned (.plain (OpenSpec.ofChange decParsesSpec)) decParsesCard

/-- THE TIED CARD OF 'assayerlaw4.DecShows'. -/
def decShowsCard : Claim7 := { stood := { row := decShowsRow, standIns := [], harness := (true, "20768537e31042e983facfb7c5fb2bf15512dbf0559c2273794941998e409c0e"), looks := false }, kinds := [], alts := [], laidByText := true, laidKinds := [.data, .data, .data, .data, .pinned], laidTests := true, laidLooks := .later }
def DecShowsCardSaid : Prop := Claim7.holds Tryd.pinned (.plain (OpenSpec.ofChange decShowsSpec)) decShowsCard

/-- THE TIED CARD OF 'assayerlaw4.DecBack'. -/
def decBackCard : Claim7 := { stood := { row := decBackRow, standIns := [], harness := (true, "20768537e31042e983facfb7c5fb2bf15512dbf0559c2273794941998e409c0e"), looks := false }, kinds := [], alts := [], laidByText := true, laidKinds := [.data, .data, .data, .data, .pinned], laidTests := true, laidLooks := .later }
def DecBackCardSaid : Prop := Claim7.holds Tryd.pinned (.plain (OpenSpec.ofChange decBackSpec)) decBackCard

/-- THE TIED CARD OF 'assayerlaw4.DecOrder'. -/
def decOrderCard : Claim7 := { stood := { row := decOrderRow, standIns := [], harness := (true, "20768537e31042e983facfb7c5fb2bf15512dbf0559c2273794941998e409c0e"), looks := false }, kinds := [], alts := [], laidByText := true, laidKinds := [.data, .data, .data, .data, .pinned], laidTests := true, laidLooks := .later }
def DecOrderCardSaid : Prop := Claim7.holds Tryd.pinned (.plain (OpenSpec.ofChange decOrderSpec)) decOrderCard

/-- THE TIED CARD OF 'assayerlaw4.DecWays'. -/
def decWaysCard : Claim7 := { stood := { row := decWaysRow, standIns := [], harness := (true, "20768537e31042e983facfb7c5fb2bf15512dbf0559c2273794941998e409c0e"), looks := false }, kinds := [], alts := [], laidByText := true, laidKinds := [.data, .data, .data, .data, .pinned], laidTests := true, laidLooks := .later }
def DecWaysCardSaid : Prop := Claim7.holds Tryd.pinned (.plain (OpenSpec.ofChange decWaysSpec)) decWaysCard

/-- THE TIED CARD OF 'assayerlaw4.DecExact'. -/
def decExactCard : Claim7 := { stood := { row := decExactRow, standIns := [], harness := (true, "20768537e31042e983facfb7c5fb2bf15512dbf0559c2273794941998e409c0e"), looks := false }, kinds := [], alts := [], laidByText := true, laidKinds := [.data, .data, .data, .data, .pinned], laidTests := true, laidLooks := .later }
def DecExactCardSaid : Prop := Claim7.holds Tryd.pinned (.plain (OpenSpec.ofChange decExactSpec)) decExactCard

/-- THE TIED CARD OF 'assayerlaw4.DecForms'. -/
def decFormsCard : Claim7 := { stood := { row := decFormsRow, standIns := [], harness := (true, "20768537e31042e983facfb7c5fb2bf15512dbf0559c2273794941998e409c0e"), looks := false }, kinds := [], alts := [], laidByText := true, laidKinds := [.data, .data, .data, .data, .pinned], laidTests := true, laidLooks := .later }
def DecFormsCardSaid : Prop := Claim7.holds Tryd.pinned (.plain (OpenSpec.ofChange decFormsSpec)) decFormsCard

/-- THE TIED CARD OF 'assayerlaw4.DecHalves'. -/
def decHalvesCard : Claim7 := { stood := { row := decHalvesRow, standIns := [], harness := (true, "20768537e31042e983facfb7c5fb2bf15512dbf0559c2273794941998e409c0e"), looks := false }, kinds := [], alts := [], laidByText := true, laidKinds := [.data, .data, .data, .data, .pinned], laidTests := true, laidLooks := .later }
def DecHalvesCardSaid : Prop := Claim7.holds Tryd.pinned (.plain (OpenSpec.ofChange decHalvesSpec)) decHalvesCard

/-- THE TIED CARD OF 'assayerlaw4.DecScales'. -/
def decScalesCard : Claim7 := { stood := { row := decScalesRow, standIns := [], harness := (true, "20768537e31042e983facfb7c5fb2bf15512dbf0559c2273794941998e409c0e"), looks := false }, kinds := [], alts := [], laidByText := true, laidKinds := [.data, .data, .data, .data, .pinned], laidTests := true, laidLooks := .later }
def DecScalesCardSaid : Prop := Claim7.holds Tryd.pinned (.plain (OpenSpec.ofChange decScalesSpec)) decScalesCard

/-- THE SECOND FORM's CARD OF 'assayerlaw4.DecParses'. -/
def decParsesUptoCard : Claim7 := { stood := { row := decParsesUptoRow, standIns := [], harness := (true, "20768537e31042e983facfb7c5fb2bf15512dbf0559c2273794941998e409c0e"), looks := false }, kinds := [], alts := [], laidByText := true, laidKinds := [.data, .data, .data, .data, .pinned], laidTests := true, laidLooks := .later }
def DecParsesUptoCardSaid : Prop := Claim7.holds Tryd.pinned (.plain (OpenSpec.upto decParsesSpec)) decParsesUptoCard

/-- THE SECOND FORM's CARD OF 'assayerlaw4.DecShows'. -/
def decShowsUptoCard : Claim7 := { stood := { row := decShowsUptoRow, standIns := [], harness := (true, "20768537e31042e983facfb7c5fb2bf15512dbf0559c2273794941998e409c0e"), looks := false }, kinds := [], alts := [], laidByText := true, laidKinds := [.data, .data, .data, .data, .pinned], laidTests := true, laidLooks := .later }
def DecShowsUptoCardSaid : Prop := Claim7.holds Tryd.pinned (.plain (OpenSpec.upto decShowsSpec)) decShowsUptoCard

/-- THE SECOND FORM's CARD OF 'assayerlaw4.DecBack'. -/
def decBackUptoCard : Claim7 := { stood := { row := decBackUptoRow, standIns := [], harness := (true, "20768537e31042e983facfb7c5fb2bf15512dbf0559c2273794941998e409c0e"), looks := false }, kinds := [], alts := [], laidByText := true, laidKinds := [.data, .data, .data, .data, .pinned], laidTests := true, laidLooks := .later }
def DecBackUptoCardSaid : Prop := Claim7.holds Tryd.pinned (.plain (OpenSpec.upto decBackSpec)) decBackUptoCard

/-- THE SECOND FORM's CARD OF 'assayerlaw4.DecOrder'. -/
def decOrderUptoCard : Claim7 := { stood := { row := decOrderUptoRow, standIns := [], harness := (true, "20768537e31042e983facfb7c5fb2bf15512dbf0559c2273794941998e409c0e"), looks := false }, kinds := [], alts := [], laidByText := true, laidKinds := [.data, .data, .data, .data, .pinned], laidTests := true, laidLooks := .later }
def DecOrderUptoCardSaid : Prop := Claim7.holds Tryd.pinned (.plain (OpenSpec.upto decOrderSpec)) decOrderUptoCard

/-- THE SECOND FORM's CARD OF 'assayerlaw4.DecWays'. -/
def decWaysUptoCard : Claim7 := { stood := { row := decWaysUptoRow, standIns := [], harness := (true, "20768537e31042e983facfb7c5fb2bf15512dbf0559c2273794941998e409c0e"), looks := false }, kinds := [], alts := [], laidByText := true, laidKinds := [.data, .data, .data, .data, .pinned], laidTests := true, laidLooks := .later }
def DecWaysUptoCardSaid : Prop := Claim7.holds Tryd.pinned (.plain (OpenSpec.upto decWaysSpec)) decWaysUptoCard

/-- THE SECOND FORM's CARD OF 'assayerlaw4.DecExact'. -/
def decExactUptoCard : Claim7 := { stood := { row := decExactUptoRow, standIns := [], harness := (true, "20768537e31042e983facfb7c5fb2bf15512dbf0559c2273794941998e409c0e"), looks := false }, kinds := [], alts := [], laidByText := true, laidKinds := [.data, .data, .data, .data, .pinned], laidTests := true, laidLooks := .later }
def DecExactUptoCardSaid : Prop := Claim7.holds Tryd.pinned (.plain (OpenSpec.upto decExactSpec)) decExactUptoCard

/-- THE SECOND FORM's CARD OF 'assayerlaw4.DecForms'. -/
def decFormsUptoCard : Claim7 := { stood := { row := decFormsUptoRow, standIns := [], harness := (true, "20768537e31042e983facfb7c5fb2bf15512dbf0559c2273794941998e409c0e"), looks := false }, kinds := [], alts := [], laidByText := true, laidKinds := [.data, .data, .data, .data, .pinned], laidTests := true, laidLooks := .later }
def DecFormsUptoCardSaid : Prop := Claim7.holds Tryd.pinned (.plain (OpenSpec.upto decFormsSpec)) decFormsUptoCard

/-- THE SECOND FORM's CARD OF 'assayerlaw4.DecHalves'. -/
def decHalvesUptoCard : Claim7 := { stood := { row := decHalvesUptoRow, standIns := [], harness := (true, "20768537e31042e983facfb7c5fb2bf15512dbf0559c2273794941998e409c0e"), looks := false }, kinds := [], alts := [], laidByText := true, laidKinds := [.data, .data, .data, .data, .pinned], laidTests := true, laidLooks := .later }
def DecHalvesUptoCardSaid : Prop := Claim7.holds Tryd.pinned (.plain (OpenSpec.upto decHalvesSpec)) decHalvesUptoCard

/-- THE SECOND FORM's CARD OF 'assayerlaw4.DecScales'. -/
def decScalesUptoCard : Claim7 := { stood := { row := decScalesUptoRow, standIns := [], harness := (true, "20768537e31042e983facfb7c5fb2bf15512dbf0559c2273794941998e409c0e"), looks := false }, kinds := [], alts := [], laidByText := true, laidKinds := [.data, .data, .data, .data, .pinned], laidTests := true, laidLooks := .later }
def DecScalesUptoCardSaid : Prop := Claim7.holds Tryd.pinned (.plain (OpenSpec.upto decScalesSpec)) decScalesUptoCard
end Rows
end Go.Proofs.YtdilnnjabjpocaaDoor
