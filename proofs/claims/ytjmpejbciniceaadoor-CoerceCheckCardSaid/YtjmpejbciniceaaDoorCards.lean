/-
  DERIVED. GIVEN WITH THE SEED: THE CARDS: each row of YtjmpejbciniceaaDoorRows.lean that lists a variable, with what it lists TIED to the program's text (the seventh form; the later family's looks); each row that meets fmt, with fmt's text TOLD by the authors' own Lean function (tested against real Go, not proved from fmt's source: count such statements apart). THE CARD IS WHAT COUNTS. Prove the row's statement (the work); the ties are given (YtjmpejbciniceaaDoorTie.lean); close each card by the builder's one call (the guide's Derived/Test/ToyasCard.lean, 'card_holds'). Laid BY PROGRAM, IN A SANDBOX (cutbox-door.mjs). By AI agents, Wed Nov 11 2026. No macro, syntax, notation, axiom, sorry.
-/
import Derived.Test.YtjmpejbciniceaaDoorRows
import GoSem.ClaimSeven
namespace Go.Proofs.YtjmpejbciniceaaDoor
namespace Rows

/-- THE TIED CARD OF 'lychgatelaw01.ScanAll'. -/
def scanAllCard : Claim7 := { stood := { row := scanAllRow, standIns := [], harness := (true, "35753e72bd279098be6f1688a682f34fd0ea19be697bbfa27639027b8e1dd77b"), looks := true }, kinds := [], alts := [], laidByText := true, laidKinds := [.handle], laidTests := true, laidLooks := .later }
def ScanAllCardSaid : Prop := Claim7.holds Tryd.pinned (.plain (OpenSpec.ofChange scanAllSpec)) scanAllCard

/-- THE TIED CARD OF 'lychgatelaw01.ScanKnown'. -/
def scanKnownCard : Claim7 := { stood := { row := scanKnownRow, standIns := [], harness := (true, "35753e72bd279098be6f1688a682f34fd0ea19be697bbfa27639027b8e1dd77b"), looks := true }, kinds := [], alts := [], laidByText := true, laidKinds := [.handle], laidTests := true, laidLooks := .later }
def ScanKnownCardSaid : Prop := Claim7.holds Tryd.pinned (.plain (OpenSpec.ofChange scanKnownSpec)) scanKnownCard

/-- THE TIED CARD OF 'lychgatelaw02.TypesReads'. -/
def typesReadsCard : Claim7 := { stood := { row := typesReadsRow, standIns := [], harness := (true, "35753e72bd279098be6f1688a682f34fd0ea19be697bbfa27639027b8e1dd77b"), looks := true }, kinds := [], alts := [], laidByText := true, laidKinds := [.handle], laidTests := true, laidLooks := .later }
def TypesReadsCardSaid : Prop := Claim7.holds Tryd.pinned (.plain (OpenSpec.ofChange typesReadsSpec)) typesReadsCard

/-- THE TIED CARD OF 'lychgatelaw15.CoerceCheck'. -/
def coerceCheckCard : Claim7 := { stood := { row := coerceCheckRow, standIns := [], harness := (true, "35753e72bd279098be6f1688a682f34fd0ea19be697bbfa27639027b8e1dd77b"), looks := true }, kinds := [], alts := [], laidByText := true, laidKinds := [.data, .data, .data], laidTests := true, laidLooks := .later }
def CoerceCheckCardSaid : Prop := Claim7.holds Tryd.pinned (.plain (OpenSpec.ofChange coerceCheckSpec)) coerceCheckCard

/-- THE SECOND FORM's CARD OF 'lychgatelaw01.ScanAll'. -/
def scanAllUptoCard : Claim7 := { stood := { row := scanAllUptoRow, standIns := [], harness := (true, "35753e72bd279098be6f1688a682f34fd0ea19be697bbfa27639027b8e1dd77b"), looks := true }, kinds := [], alts := [], laidByText := true, laidKinds := [.handle], laidTests := true, laidLooks := .later }
def ScanAllUptoCardSaid : Prop := Claim7.holds Tryd.pinned (.plain (OpenSpec.upto scanAllSpec)) scanAllUptoCard

/-- THE SECOND FORM's CARD OF 'lychgatelaw01.ScanKnown'. -/
def scanKnownUptoCard : Claim7 := { stood := { row := scanKnownUptoRow, standIns := [], harness := (true, "35753e72bd279098be6f1688a682f34fd0ea19be697bbfa27639027b8e1dd77b"), looks := true }, kinds := [], alts := [], laidByText := true, laidKinds := [.handle], laidTests := true, laidLooks := .later }
def ScanKnownUptoCardSaid : Prop := Claim7.holds Tryd.pinned (.plain (OpenSpec.upto scanKnownSpec)) scanKnownUptoCard

/-- THE SECOND FORM's CARD OF 'lychgatelaw02.TypesReads'. -/
def typesReadsUptoCard : Claim7 := { stood := { row := typesReadsUptoRow, standIns := [], harness := (true, "35753e72bd279098be6f1688a682f34fd0ea19be697bbfa27639027b8e1dd77b"), looks := true }, kinds := [], alts := [], laidByText := true, laidKinds := [.handle], laidTests := true, laidLooks := .later }
def TypesReadsUptoCardSaid : Prop := Claim7.holds Tryd.pinned (.plain (OpenSpec.upto typesReadsSpec)) typesReadsUptoCard

/-- THE SECOND FORM's CARD OF 'lychgatelaw15.CoerceCheck'. -/
def coerceCheckUptoCard : Claim7 := { stood := { row := coerceCheckUptoRow, standIns := [], harness := (true, "35753e72bd279098be6f1688a682f34fd0ea19be697bbfa27639027b8e1dd77b"), looks := true }, kinds := [], alts := [], laidByText := true, laidKinds := [.data, .data, .data], laidTests := true, laidLooks := .later }
def CoerceCheckUptoCardSaid : Prop := Claim7.holds Tryd.pinned (.plain (OpenSpec.upto coerceCheckSpec)) coerceCheckUptoCard
end Rows
end Go.Proofs.YtjmpejbciniceaaDoor
