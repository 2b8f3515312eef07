/-
  DERIVED. GIVEN WITH THE SEED: THE CARDS: each row of YtiffcdeagckgmaaDoorRows.lean that lists a variable, with what it lists TIED to the program's text (the seventh form; the later family's looks); each row that meets fmt, with fmt's text TOLD by the authors' own Lean function (tested against real Go, not proved from fmt's source: count such statements apart). THE CARD IS WHAT COUNTS. Prove the row's statement (the work); the ties are given (YtiffcdeagckgmaaDoorTie.lean); close each card by the builder's one call (the guide's Derived/Test/ToyasCard.lean, 'card_holds'). Laid BY PROGRAM, IN A SANDBOX (cutbox-door.mjs). By AI agents, Wed Nov 11 2026. No macro, syntax, notation, axiom, sorry.
-/
import Derived.Test.YtiffcdeagckgmaaDoorRows
import GoSem.ClaimSeven
namespace Go.Proofs.YtiffcdeagckgmaaDoor
namespace Rows

/-- THE TIED CARD OF 'codexlaw21.SheetCodes'. -/
def sheetCodesCard : Claim7 := { stood := { row := sheetCodesRow, standIns := [], harness := (true, "2a8886a0baa287574e2ed2bc41aea11cb0573b169a08d6e2a0a059e05ff7d505"), looks := false }, kinds := [], alts := [], laidByText := true, laidKinds := [.data, .pinned], laidTests := true, laidLooks := .later }
def SheetCodesCardSaid : Prop := Claim7.holds Tryd.pinned (.plain (OpenSpec.ofChange sheetCodesSpec)) sheetCodesCard

/-- THE TIED CARD OF 'codexlaw21.SheetBack'. -/
def sheetBackCard : Claim7 := { stood := { row := sheetBackRow, standIns := [], harness := (true, "2a8886a0baa287574e2ed2bc41aea11cb0573b169a08d6e2a0a059e05ff7d505"), looks := false }, kinds := [], alts := [], laidByText := true, laidKinds := [.data, .pinned], laidTests := true, laidLooks := .later }
def SheetBackCardSaid : Prop := Claim7.holds Tryd.pinned (.plain (OpenSpec.ofChange sheetBackSpec)) sheetBackCard

/-- THE TIED CARD OF 'codexlaw21.SheetPlaces'. -/
def sheetPlacesCard : Claim7 := { stood := { row := sheetPlacesRow, standIns := [], harness := (true, "2a8886a0baa287574e2ed2bc41aea11cb0573b169a08d6e2a0a059e05ff7d505"), looks := false }, kinds := [], alts := [], laidByText := true, laidKinds := [.data, .pinned], laidTests := true, laidLooks := .later }
def SheetPlacesCardSaid : Prop := Claim7.holds Tryd.pinned (.plain (OpenSpec.ofChange sheetPlacesSpec)) sheetPlacesCard

/-- THE TIED CARD OF 'codexlaw21.SheetLimits'. -/
def sheetLimitsCard : Claim7 := { stood := { row := sheetLimitsRow, standIns := [], harness := (true, "2a8886a0baa287574e2ed2bc41aea11cb0573b169a08d6e2a0a059e05ff7d505"), looks := false }, kinds := [], alts := [], laidByText := true, laidKinds := [.data, .pinned], laidTests := true, laidLooks := .later }
def SheetLimitsCardSaid : Prop := Claim7.holds Tryd.pinned (.plain (OpenSpec.ofChange sheetLimitsSpec)) sheetLimitsCard

/-- THE SECOND FORM's CARD OF 'codexlaw21.SheetCodes'. -/
def sheetCodesUptoCard : Claim7 := { stood := { row := sheetCodesUptoRow, standIns := [], harness := (true, "2a8886a0baa287574e2ed2bc41aea11cb0573b169a08d6e2a0a059e05ff7d505"), looks := false }, kinds := [], alts := [], laidByText := true, laidKinds := [.data, .pinned], laidTests := true, laidLooks := .later }
def SheetCodesUptoCardSaid : Prop := Claim7.holds Tryd.pinned (.plain (OpenSpec.upto sheetCodesSpec)) sheetCodesUptoCard

/-- THE SECOND FORM's CARD OF 'codexlaw21.SheetBack'. -/
def sheetBackUptoCard : Claim7 := { stood := { row := sheetBackUptoRow, standIns := [], harness := (true, "2a8886a0baa287574e2ed2bc41aea11cb0573b169a08d6e2a0a059e05ff7d505"), looks := false }, kinds := [], alts := [], laidByText := true, laidKinds := [.data, .pinned], laidTests := true, laidLooks := .later }
def SheetBackUptoCardSaid : Prop := Claim7.holds Tryd.pinned (.plain (OpenSpec.upto sheetBackSpec)) sheetBackUptoCard

/-- THE SECOND FORM's CARD OF 'codexlaw21.SheetPlaces'. -/
def sheetPlacesUptoCard : Claim7 := { stood := { row := sheetPlacesUptoRow, standIns := [], harness := (true, "2a8886a0baa287574e2ed2bc41aea11cb0573b169a08d6e2a0a059e05ff7d505"), looks := false }, kinds := [], alts := [], laidByText := true, laidKinds := [.data, .pinned], laidTests := true, laidLooks := .later }
def SheetPlacesUptoCardSaid : Prop := Claim7.holds Tryd.pinned (.plain (OpenSpec.upto sheetPlacesSpec)) sheetPlacesUptoCard

/-- THE SECOND FORM's CARD OF 'codexlaw21.SheetLimits'. -/
def sheetLimitsUptoCard : Claim7 := { stood := { row := sheetLimitsUptoRow, standIns := [], harness := (true, "2a8886a0baa287574e2ed2bc41aea11cb0573b169a08d6e2a0a059e05ff7d505"), looks := false }, kinds := [], alts := [], laidByText := true, laidKinds := [.data, .pinned], laidTests := true, laidLooks := .later }
def SheetLimitsUptoCardSaid : Prop := Claim7.holds Tryd.pinned (.plain (OpenSpec.upto sheetLimitsSpec)) sheetLimitsUptoCard
end Rows
end Go.Proofs.YtiffcdeagckgmaaDoor
