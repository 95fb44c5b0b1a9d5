/-
  DERIVED. GIVEN WITH THE SEED: THE CARDS: each row of YtamfknhgjkmdfaaDoorRows.lean that lists a variable, with what it lists TIED to the program's text (the seventh form; the later family's looks); each row that meets fmt, with fmt's text TOLD by the authors' own Lean function (tested against real Go, not proved from fmt's source: count such statements apart). THE CARD IS WHAT COUNTS. Prove the row's statement (the work); the ties are given (YtamfknhgjkmdfaaDoorTie.lean); close each card by the builder's one call (the guide's Derived/Test/ToyasCard.lean, 'card_holds'). Laid BY PROGRAM, IN A SANDBOX (cutbox-door.mjs). By AI agents, Wed Nov 11 2026. No macro, syntax, notation, axiom, sorry.
-/
import Derived.Test.YtamfknhgjkmdfaaDoorRows
import GoSem.ClaimSeven
namespace Go.Proofs.YtamfknhgjkmdfaaDoor
namespace Rows

/-- THE TIED CARD OF 'lychgatelaw26.ReportWords'. -/
def reportWordsCard : Claim7 := { stood := { row := reportWordsRow, standIns := [], harness := (true, "9a1e2d409e5d29c1ced3f0caa969d3e88a528a690f8535dfae90858fc0cec29d"), looks := true }, kinds := [], alts := [], laidByText := true, laidKinds := [.data, .data, .data, .handle], laidTests := true, laidLooks := .later }
def ReportWordsCardSaid : Prop := Claim7.holds Tryd.pinned (.plain (OpenSpec.ofChange reportWordsSpec)) reportWordsCard

/-- THE TIED CARD OF 'lychgatelaw26.ReportPlaces'. -/
def reportPlacesCard : Claim7 := { stood := { row := reportPlacesRow, standIns := [], harness := (true, "9a1e2d409e5d29c1ced3f0caa969d3e88a528a690f8535dfae90858fc0cec29d"), looks := true }, kinds := [], alts := [], laidByText := true, laidKinds := [.data, .data, .data, .handle], laidTests := true, laidLooks := .later }
def ReportPlacesCardSaid : Prop := Claim7.holds Tryd.pinned (.plain (OpenSpec.ofChange reportPlacesSpec)) reportPlacesCard

/-- THE TIED CARD OF 'lychgatelaw26.ReportTells'. -/
def reportTellsCard : Claim7 := { stood := { row := reportTellsRow, standIns := [], harness := (true, "9a1e2d409e5d29c1ced3f0caa969d3e88a528a690f8535dfae90858fc0cec29d"), looks := true }, kinds := [], alts := [], laidByText := true, laidKinds := [.data, .data, .data, .handle], laidTests := true, laidLooks := .later }
def ReportTellsCardSaid : Prop := Claim7.holds Tryd.pinned (.plain (OpenSpec.ofChange reportTellsSpec)) reportTellsCard

/-- THE SECOND FORM's CARD OF 'lychgatelaw26.ReportWords'. -/
def reportWordsUptoCard : Claim7 := { stood := { row := reportWordsUptoRow, standIns := [], harness := (true, "9a1e2d409e5d29c1ced3f0caa969d3e88a528a690f8535dfae90858fc0cec29d"), looks := true }, kinds := [], alts := [], laidByText := true, laidKinds := [.data, .data, .data, .handle], laidTests := true, laidLooks := .later }
def ReportWordsUptoCardSaid : Prop := Claim7.holds Tryd.pinned (.plain (OpenSpec.upto reportWordsSpec)) reportWordsUptoCard

/-- THE SECOND FORM's CARD OF 'lychgatelaw26.ReportPlaces'. -/
def reportPlacesUptoCard : Claim7 := { stood := { row := reportPlacesUptoRow, standIns := [], harness := (true, "9a1e2d409e5d29c1ced3f0caa969d3e88a528a690f8535dfae90858fc0cec29d"), looks := true }, kinds := [], alts := [], laidByText := true, laidKinds := [.data, .data, .data, .handle], laidTests := true, laidLooks := .later }
def ReportPlacesUptoCardSaid : Prop := Claim7.holds Tryd.pinned (.plain (OpenSpec.upto reportPlacesSpec)) reportPlacesUptoCard

/-- THE SECOND FORM's CARD OF 'lychgatelaw26.ReportTells'. -/
def reportTellsUptoCard : Claim7 := { stood := { row := reportTellsUptoRow, standIns := [], harness := (true, "9a1e2d409e5d29c1ced3f0caa969d3e88a528a690f8535dfae90858fc0cec29d"), looks := true }, kinds := [], alts := [], laidByText := true, laidKinds := [.data, .data, .data, .handle], laidTests := true, laidLooks := .later }
def ReportTellsUptoCardSaid : Prop := Claim7.holds Tryd.pinned (.plain (OpenSpec.upto reportTellsSpec)) reportTellsUptoCard
end Rows
end Go.Proofs.YtamfknhgjkmdfaaDoor
