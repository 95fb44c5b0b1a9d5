/-
  NARROWER THAN 'FOR EVERY INPUT', by the rows' own cells (each row's printed sentence says how): RaceSame: loops · AgreeTells: loops · AgreeParts: loops · BelowTells: loops · BelowUp: loops · AgreeGoes: loops · TypesTells: loops · TypesSame: loops · TypesParts: loops · BelowBoth: loops · BelowOrders: loops.
  DERIVED. THE GIVEN ROWS OF THIS SEAT. 13 by the template 'for every input the law returns true; each argument reads behind the call as it read before'; 0 by the template 'total and deterministic' (their statements: YtamhdpllmhafhaaTotals.lean).
  GIVEN WITH THE SEED: the statements are not yours to turn. If you find one false, say at which input.
  Laid BY PROGRAM, IN A SANDBOX (cutbox-rows.mjs): the forced cells as the released guide's own fill.sh prints them over the translation 6ed66bf82f2c2f73… (all of the seat's roots in one cut). By AI agents, Wed Nov 11 2026. No macro, syntax, notation, axiom, sorry.
-/
import Derived.Test.YtamhdpllmhafhaaChecked
import GoSem.Claim
import GoSem.ClaimJoined
import GoSem.ClaimMapViews
import Derived.JoinedTies
import Derived.KernelRfl
namespace Go.Proofs.Ytamhdpllmhafhaa
/- THE CELL 'sum', in the pinned program and in every row, IS THE sha256 OF THE DUMP (.gsa) THAT YtamhdpllmhafhaaProg.lean LOADS. Nothing in Lean hashes anything: it is a label: what it is worth is what the hold of that sum in a sandbox is worth. -/
noncomputable def Try.pinned : Pinned := { name := "ytamhdpllmhafhaa", sum := "6ed66bf82f2c2f73e95aa70a7285300b866f6d935b240d485efc0d1b8b76f389", checked := Try.checked }
namespace Rows
def none {H : Type} : Left H := { results := [], args := [] }

/-- 'lychgatelaw21.RaceSame': WHATEVER THE INPUT: true; the input reads as it did. -/
def raceSameSpec : ChangeSpec := { name := "raceSame", fn := fun _ => fun
  | [d1, d2] => { results := [.lit (.bool true)], args := [d1, d2] }
  | _ => none }
def raceSameRow : OpenClaim := { program := "ytamhdpllmhafhaa", sum := "6ed66bf82f2c2f73e95aa70a7285300b866f6d935b240d485efc0d1b8b76f389", func := "lychgate/lychgatelaw21.RaceSame", spec := "raceSame", loops := true, apart := false }
def RaceSameSaid : Prop := raceSameRow.holds Try.pinned (OpenSpec.ofChange raceSameSpec)

/-- ITS FALSE NEIGHBOUR: 'it returns false'. Refute it at one input. -/
def raceSameWrong : ChangeSpec := { name := "raceSame", fn := fun _ => fun
  | [d1, d2] => { results := [.lit (.bool false)], args := [d1, d2] }
  | _ => none }
def RaceSameWrongFalsely : Prop := raceSameRow.holds Try.pinned (OpenSpec.ofChange raceSameWrong)

/-- 'lychgatelaw01.ScanWord': WHATEVER THE INPUT: true; the input reads as it did. -/
def scanWordSpec : ChangeSpec := { name := "scanWord", fn := fun _ => fun
  | [d] => { results := [.lit (.bool true)], args := [d] }
  | _ => none }
def scanWordRow : OpenClaim := { program := "ytamhdpllmhafhaa", sum := "6ed66bf82f2c2f73e95aa70a7285300b866f6d935b240d485efc0d1b8b76f389", func := "lychgate/lychgatelaw01.ScanWord", spec := "scanWord", apart := false }
def ScanWordSaid : Prop := scanWordRow.holds Try.pinned (OpenSpec.ofChange scanWordSpec)

/-- ITS FALSE NEIGHBOUR: 'it returns false'. Refute it at one input. -/
def scanWordWrong : ChangeSpec := { name := "scanWord", fn := fun _ => fun
  | [d] => { results := [.lit (.bool false)], args := [d] }
  | _ => none }
def ScanWordWrongFalsely : Prop := scanWordRow.holds Try.pinned (OpenSpec.ofChange scanWordWrong)

/-- 'lychgatelaw06.AgreeTells': WHATEVER THE INPUT: true; the input reads as it did. -/
def agreeTellsSpec : ChangeSpec := { name := "agreeTells", fn := fun _ => fun
  | [d1, d2, d3] => { results := [.lit (.bool true)], args := [d1, d2, d3] }
  | _ => none }
def agreeTellsRow : OpenClaim := { program := "ytamhdpllmhafhaa", sum := "6ed66bf82f2c2f73e95aa70a7285300b866f6d935b240d485efc0d1b8b76f389", func := "lychgate/lychgatelaw06.AgreeTells", spec := "agreeTells", unfollowed := true, recurses := true, loops := true, apart := false }
def AgreeTellsSaid : Prop := agreeTellsRow.holds Try.pinned (OpenSpec.ofChange agreeTellsSpec)

/-- ITS FALSE NEIGHBOUR: 'it returns false'. Refute it at one input. -/
def agreeTellsWrong : ChangeSpec := { name := "agreeTells", fn := fun _ => fun
  | [d1, d2, d3] => { results := [.lit (.bool false)], args := [d1, d2, d3] }
  | _ => none }
def AgreeTellsWrongFalsely : Prop := agreeTellsRow.holds Try.pinned (OpenSpec.ofChange agreeTellsWrong)

/-- 'lychgatelaw06.AgreeParts': WHATEVER THE INPUT: true; the input reads as it did. -/
def agreePartsSpec : ChangeSpec := { name := "agreeParts", fn := fun _ => fun
  | [d1, d2, d3] => { results := [.lit (.bool true)], args := [d1, d2, d3] }
  | _ => none }
def agreePartsRow : OpenClaim := { program := "ytamhdpllmhafhaa", sum := "6ed66bf82f2c2f73e95aa70a7285300b866f6d935b240d485efc0d1b8b76f389", func := "lychgate/lychgatelaw06.AgreeParts", spec := "agreeParts", unfollowed := true, recurses := true, loops := true, apart := false }
def AgreePartsSaid : Prop := agreePartsRow.holds Try.pinned (OpenSpec.ofChange agreePartsSpec)

/-- ITS FALSE NEIGHBOUR: 'it returns false'. Refute it at one input. -/
def agreePartsWrong : ChangeSpec := { name := "agreeParts", fn := fun _ => fun
  | [d1, d2, d3] => { results := [.lit (.bool false)], args := [d1, d2, d3] }
  | _ => none }
def AgreePartsWrongFalsely : Prop := agreePartsRow.holds Try.pinned (OpenSpec.ofChange agreePartsWrong)

/-- 'lychgatelaw08.BelowTells': WHATEVER THE INPUT: true; the input reads as it did. -/
def belowTellsSpec : ChangeSpec := { name := "belowTells", fn := fun _ => fun
  | [d1, d2] => { results := [.lit (.bool true)], args := [d1, d2] }
  | _ => none }
def belowTellsRow : OpenClaim := { program := "ytamhdpllmhafhaa", sum := "6ed66bf82f2c2f73e95aa70a7285300b866f6d935b240d485efc0d1b8b76f389", func := "lychgate/lychgatelaw08.BelowTells", spec := "belowTells", unfollowed := true, recurses := true, loops := true, apart := false }
def BelowTellsSaid : Prop := belowTellsRow.holds Try.pinned (OpenSpec.ofChange belowTellsSpec)

/-- ITS FALSE NEIGHBOUR: 'it returns false'. Refute it at one input. -/
def belowTellsWrong : ChangeSpec := { name := "belowTells", fn := fun _ => fun
  | [d1, d2] => { results := [.lit (.bool false)], args := [d1, d2] }
  | _ => none }
def BelowTellsWrongFalsely : Prop := belowTellsRow.holds Try.pinned (OpenSpec.ofChange belowTellsWrong)

/-- 'lychgatelaw08.BelowUp': WHATEVER THE INPUT: true; the input reads as it did. -/
def belowUpSpec : ChangeSpec := { name := "belowUp", fn := fun _ => fun
  | [d1, d2, d3, d4] => { results := [.lit (.bool true)], args := [d1, d2, d3, d4] }
  | _ => none }
def belowUpRow : OpenClaim := { program := "ytamhdpllmhafhaa", sum := "6ed66bf82f2c2f73e95aa70a7285300b866f6d935b240d485efc0d1b8b76f389", func := "lychgate/lychgatelaw08.BelowUp", spec := "belowUp", unfollowed := true, recurses := true, loops := true, apart := false }
def BelowUpSaid : Prop := belowUpRow.holds Try.pinned (OpenSpec.ofChange belowUpSpec)

/-- ITS FALSE NEIGHBOUR: 'it returns false'. Refute it at one input. -/
def belowUpWrong : ChangeSpec := { name := "belowUp", fn := fun _ => fun
  | [d1, d2, d3, d4] => { results := [.lit (.bool false)], args := [d1, d2, d3, d4] }
  | _ => none }
def BelowUpWrongFalsely : Prop := belowUpRow.holds Try.pinned (OpenSpec.ofChange belowUpWrong)

/-- 'lychgatelaw06.AgreeGoes': WHATEVER THE INPUT: true; the input reads as it did. -/
def agreeGoesSpec : ChangeSpec := { name := "agreeGoes", fn := fun _ => fun
  | [d1, d2, d3] => { results := [.lit (.bool true)], args := [d1, d2, d3] }
  | _ => none }
def agreeGoesRow : OpenClaim := { program := "ytamhdpllmhafhaa", sum := "6ed66bf82f2c2f73e95aa70a7285300b866f6d935b240d485efc0d1b8b76f389", func := "lychgate/lychgatelaw06.AgreeGoes", spec := "agreeGoes", unfollowed := true, recurses := true, loops := true, apart := false }
def AgreeGoesSaid : Prop := agreeGoesRow.holds Try.pinned (OpenSpec.ofChange agreeGoesSpec)

/-- ITS FALSE NEIGHBOUR: 'it returns false'. Refute it at one input. -/
def agreeGoesWrong : ChangeSpec := { name := "agreeGoes", fn := fun _ => fun
  | [d1, d2, d3] => { results := [.lit (.bool false)], args := [d1, d2, d3] }
  | _ => none }
def AgreeGoesWrongFalsely : Prop := agreeGoesRow.holds Try.pinned (OpenSpec.ofChange agreeGoesWrong)

/-- 'lychgatelaw02.TypesTells': WHATEVER THE INPUT: true; the input reads as it did. -/
def typesTellsSpec : ChangeSpec := { name := "typesTells", fn := fun _ => fun
  | [d] => { results := [.lit (.bool true)], args := [d] }
  | _ => none }
def typesTellsRow : OpenClaim := { program := "ytamhdpllmhafhaa", sum := "6ed66bf82f2c2f73e95aa70a7285300b866f6d935b240d485efc0d1b8b76f389", func := "lychgate/lychgatelaw02.TypesTells", spec := "typesTells", unfollowed := true, recurses := true, loops := true, apart := false }
def TypesTellsSaid : Prop := typesTellsRow.holds Try.pinned (OpenSpec.ofChange typesTellsSpec)

/-- ITS FALSE NEIGHBOUR: 'it returns false'. Refute it at one input. -/
def typesTellsWrong : ChangeSpec := { name := "typesTells", fn := fun _ => fun
  | [d] => { results := [.lit (.bool false)], args := [d] }
  | _ => none }
def TypesTellsWrongFalsely : Prop := typesTellsRow.holds Try.pinned (OpenSpec.ofChange typesTellsWrong)

/-- 'lychgatelaw02.TypesSame': WHATEVER THE INPUT: true; the input reads as it did. -/
def typesSameSpec : ChangeSpec := { name := "typesSame", fn := fun _ => fun
  | [d1, d2] => { results := [.lit (.bool true)], args := [d1, d2] }
  | _ => none }
def typesSameRow : OpenClaim := { program := "ytamhdpllmhafhaa", sum := "6ed66bf82f2c2f73e95aa70a7285300b866f6d935b240d485efc0d1b8b76f389", func := "lychgate/lychgatelaw02.TypesSame", spec := "typesSame", unfollowed := true, recurses := true, loops := true, apart := false }
def TypesSameSaid : Prop := typesSameRow.holds Try.pinned (OpenSpec.ofChange typesSameSpec)

/-- ITS FALSE NEIGHBOUR: 'it returns false'. Refute it at one input. -/
def typesSameWrong : ChangeSpec := { name := "typesSame", fn := fun _ => fun
  | [d1, d2] => { results := [.lit (.bool false)], args := [d1, d2] }
  | _ => none }
def TypesSameWrongFalsely : Prop := typesSameRow.holds Try.pinned (OpenSpec.ofChange typesSameWrong)

/-- 'lychgatelaw02.TypesGreat': WHATEVER THE INPUT: true; the input reads as it did. -/
def typesGreatSpec : ChangeSpec := { name := "typesGreat", fn := fun _ => fun
  | [] => { results := [.lit (.bool true)], args := [] }
  | _ => none }
def typesGreatRow : OpenClaim := { program := "ytamhdpllmhafhaa", sum := "6ed66bf82f2c2f73e95aa70a7285300b866f6d935b240d485efc0d1b8b76f389", func := "lychgate/lychgatelaw02.TypesGreat", spec := "typesGreat", unfollowed := true, recurses := true, apart := false }
def TypesGreatSaid : Prop := typesGreatRow.holds Try.pinned (OpenSpec.ofChange typesGreatSpec)

/-- ITS FALSE NEIGHBOUR: 'it returns false'. Refute it at one input. -/
def typesGreatWrong : ChangeSpec := { name := "typesGreat", fn := fun _ => fun
  | [] => { results := [.lit (.bool false)], args := [] }
  | _ => none }
def TypesGreatWrongFalsely : Prop := typesGreatRow.holds Try.pinned (OpenSpec.ofChange typesGreatWrong)

/-- 'lychgatelaw02.TypesParts': WHATEVER THE INPUT: true; the input reads as it did. -/
def typesPartsSpec : ChangeSpec := { name := "typesParts", fn := fun _ => fun
  | [d1, d2] => { results := [.lit (.bool true)], args := [d1, d2] }
  | _ => none }
def typesPartsRow : OpenClaim := { program := "ytamhdpllmhafhaa", sum := "6ed66bf82f2c2f73e95aa70a7285300b866f6d935b240d485efc0d1b8b76f389", func := "lychgate/lychgatelaw02.TypesParts", spec := "typesParts", unfollowed := true, recurses := true, loops := true, apart := false }
def TypesPartsSaid : Prop := typesPartsRow.holds Try.pinned (OpenSpec.ofChange typesPartsSpec)

/-- ITS FALSE NEIGHBOUR: 'it returns false'. Refute it at one input. -/
def typesPartsWrong : ChangeSpec := { name := "typesParts", fn := fun _ => fun
  | [d1, d2] => { results := [.lit (.bool false)], args := [d1, d2] }
  | _ => none }
def TypesPartsWrongFalsely : Prop := typesPartsRow.holds Try.pinned (OpenSpec.ofChange typesPartsWrong)

/-- 'lychgatelaw08.BelowBoth': WHATEVER THE INPUT: true; the input reads as it did. -/
def belowBothSpec : ChangeSpec := { name := "belowBoth", fn := fun _ => fun
  | [d1, d2] => { results := [.lit (.bool true)], args := [d1, d2] }
  | _ => none }
def belowBothRow : OpenClaim := { program := "ytamhdpllmhafhaa", sum := "6ed66bf82f2c2f73e95aa70a7285300b866f6d935b240d485efc0d1b8b76f389", func := "lychgate/lychgatelaw08.BelowBoth", spec := "belowBoth", unfollowed := true, recurses := true, loops := true, apart := false }
def BelowBothSaid : Prop := belowBothRow.holds Try.pinned (OpenSpec.ofChange belowBothSpec)

/-- ITS FALSE NEIGHBOUR: 'it returns false'. Refute it at one input. -/
def belowBothWrong : ChangeSpec := { name := "belowBoth", fn := fun _ => fun
  | [d1, d2] => { results := [.lit (.bool false)], args := [d1, d2] }
  | _ => none }
def BelowBothWrongFalsely : Prop := belowBothRow.holds Try.pinned (OpenSpec.ofChange belowBothWrong)

/-- 'lychgatelaw08.BelowOrders': WHATEVER THE INPUT: true; the input reads as it did. -/
def belowOrdersSpec : ChangeSpec := { name := "belowOrders", fn := fun _ => fun
  | [d1, d2, d3] => { results := [.lit (.bool true)], args := [d1, d2, d3] }
  | _ => none }
def belowOrdersRow : OpenClaim := { program := "ytamhdpllmhafhaa", sum := "6ed66bf82f2c2f73e95aa70a7285300b866f6d935b240d485efc0d1b8b76f389", func := "lychgate/lychgatelaw08.BelowOrders", spec := "belowOrders", unfollowed := true, recurses := true, loops := true, apart := false }
def BelowOrdersSaid : Prop := belowOrdersRow.holds Try.pinned (OpenSpec.ofChange belowOrdersSpec)

/-- ITS FALSE NEIGHBOUR: 'it returns false'. Refute it at one input. -/
def belowOrdersWrong : ChangeSpec := { name := "belowOrders", fn := fun _ => fun
  | [d1, d2, d3] => { results := [.lit (.bool false)], args := [d1, d2, d3] }
  | _ => none }
def BelowOrdersWrongFalsely : Prop := belowOrdersRow.holds Try.pinned (OpenSpec.ofChange belowOrdersWrong)

/- THE SECOND FORM. 'bulk': how many values and letters a reading holds, each counted each time it is reached (what is shared counts as often as it is met; a slice's spare places count too). A statement '..UptoSaid' is the law's where the arguments, and the package variables that the reading takes, are together of bulk at most 1048576: NARROWER than '..Said'. Prove '..Said' where nothing that the law and all that it calls make is longer than what came in: it says more and counts as full. Else prove '..UptoSaid'. A law counts once. -/
mutual
def uptoBulk {H : Type} : DataW H → Nat
  | .lit (.string bytes) => bytes.length + 1
  | .lit _ => 1
  | .nil => 1
  | .ptr d => uptoBulk d + 1
  | .slice elems spare => uptoBulkAll elems + uptoBulkAll spare + 1
  | .agg parts => uptoBulkAll parts + 1
  | .iface _ d => uptoBulk d + 1
  | .map entries => uptoBulkEntries entries + 1
  | .held _ => 1
def uptoBulkAll {H : Type} : List (DataW H) → Nat
  | [] => 0
  | d :: r => uptoBulk d + uptoBulkAll r
def uptoBulkEntries {H : Type} : List (Lit × DataW H) → Nat
  | [] => 0
  | x :: r => uptoBulkEntry x + uptoBulkEntries r
def uptoBulkEntry {H : Type} : Lit × DataW H → Nat
  | (.string bytes, d) => bytes.length + uptoBulk d + 1
  | (_, d) => uptoBulk d + 1
 end
def uptoSmall : (H : Type) → List (DataW H) → Bool := fun _ ds => decide (uptoBulkAll ds ≤ 1048576)
def OpenSpec.upto (s : _root_.Go.ChangeSpec) : _root_.Go.OpenSpec := { _root_.Go.OpenSpec.ofChange s with cond := some uptoSmall }

/-- 'lychgatelaw21.RaceSame', WHERE WHAT IT READS IS OF BULK AT MOST 1048576: true; the input reads as it did. -/
def raceSameUptoRow : OpenClaim := { program := "ytamhdpllmhafhaa", sum := "6ed66bf82f2c2f73e95aa70a7285300b866f6d935b240d485efc0d1b8b76f389", func := "lychgate/lychgatelaw21.RaceSame", spec := "raceSame", loops := true, apart := false, narrowed := true }
def RaceSameUptoSaid : Prop := raceSameUptoRow.holds Try.pinned (OpenSpec.upto raceSameSpec)

/-- 'lychgatelaw01.ScanWord', WHERE WHAT IT READS IS OF BULK AT MOST 1048576: true; the input reads as it did. -/
def scanWordUptoRow : OpenClaim := { program := "ytamhdpllmhafhaa", sum := "6ed66bf82f2c2f73e95aa70a7285300b866f6d935b240d485efc0d1b8b76f389", func := "lychgate/lychgatelaw01.ScanWord", spec := "scanWord", apart := false, narrowed := true }
def ScanWordUptoSaid : Prop := scanWordUptoRow.holds Try.pinned (OpenSpec.upto scanWordSpec)

/-- 'lychgatelaw06.AgreeTells', WHERE WHAT IT READS IS OF BULK AT MOST 1048576: true; the input reads as it did. -/
def agreeTellsUptoRow : OpenClaim := { program := "ytamhdpllmhafhaa", sum := "6ed66bf82f2c2f73e95aa70a7285300b866f6d935b240d485efc0d1b8b76f389", func := "lychgate/lychgatelaw06.AgreeTells", spec := "agreeTells", unfollowed := true, recurses := true, loops := true, apart := false, narrowed := true }
def AgreeTellsUptoSaid : Prop := agreeTellsUptoRow.holds Try.pinned (OpenSpec.upto agreeTellsSpec)

/-- 'lychgatelaw06.AgreeParts', WHERE WHAT IT READS IS OF BULK AT MOST 1048576: true; the input reads as it did. -/
def agreePartsUptoRow : OpenClaim := { program := "ytamhdpllmhafhaa", sum := "6ed66bf82f2c2f73e95aa70a7285300b866f6d935b240d485efc0d1b8b76f389", func := "lychgate/lychgatelaw06.AgreeParts", spec := "agreeParts", unfollowed := true, recurses := true, loops := true, apart := false, narrowed := true }
def AgreePartsUptoSaid : Prop := agreePartsUptoRow.holds Try.pinned (OpenSpec.upto agreePartsSpec)

/-- 'lychgatelaw08.BelowTells', WHERE WHAT IT READS IS OF BULK AT MOST 1048576: true; the input reads as it did. -/
def belowTellsUptoRow : OpenClaim := { program := "ytamhdpllmhafhaa", sum := "6ed66bf82f2c2f73e95aa70a7285300b866f6d935b240d485efc0d1b8b76f389", func := "lychgate/lychgatelaw08.BelowTells", spec := "belowTells", unfollowed := true, recurses := true, loops := true, apart := false, narrowed := true }
def BelowTellsUptoSaid : Prop := belowTellsUptoRow.holds Try.pinned (OpenSpec.upto belowTellsSpec)

/-- 'lychgatelaw08.BelowUp', WHERE WHAT IT READS IS OF BULK AT MOST 1048576: true; the input reads as it did. -/
def belowUpUptoRow : OpenClaim := { program := "ytamhdpllmhafhaa", sum := "6ed66bf82f2c2f73e95aa70a7285300b866f6d935b240d485efc0d1b8b76f389", func := "lychgate/lychgatelaw08.BelowUp", spec := "belowUp", unfollowed := true, recurses := true, loops := true, apart := false, narrowed := true }
def BelowUpUptoSaid : Prop := belowUpUptoRow.holds Try.pinned (OpenSpec.upto belowUpSpec)

/-- 'lychgatelaw06.AgreeGoes', WHERE WHAT IT READS IS OF BULK AT MOST 1048576: true; the input reads as it did. -/
def agreeGoesUptoRow : OpenClaim := { program := "ytamhdpllmhafhaa", sum := "6ed66bf82f2c2f73e95aa70a7285300b866f6d935b240d485efc0d1b8b76f389", func := "lychgate/lychgatelaw06.AgreeGoes", spec := "agreeGoes", unfollowed := true, recurses := true, loops := true, apart := false, narrowed := true }
def AgreeGoesUptoSaid : Prop := agreeGoesUptoRow.holds Try.pinned (OpenSpec.upto agreeGoesSpec)

/-- 'lychgatelaw02.TypesTells', WHERE WHAT IT READS IS OF BULK AT MOST 1048576: true; the input reads as it did. -/
def typesTellsUptoRow : OpenClaim := { program := "ytamhdpllmhafhaa", sum := "6ed66bf82f2c2f73e95aa70a7285300b866f6d935b240d485efc0d1b8b76f389", func := "lychgate/lychgatelaw02.TypesTells", spec := "typesTells", unfollowed := true, recurses := true, loops := true, apart := false, narrowed := true }
def TypesTellsUptoSaid : Prop := typesTellsUptoRow.holds Try.pinned (OpenSpec.upto typesTellsSpec)

/-- 'lychgatelaw02.TypesSame', WHERE WHAT IT READS IS OF BULK AT MOST 1048576: true; the input reads as it did. -/
def typesSameUptoRow : OpenClaim := { program := "ytamhdpllmhafhaa", sum := "6ed66bf82f2c2f73e95aa70a7285300b866f6d935b240d485efc0d1b8b76f389", func := "lychgate/lychgatelaw02.TypesSame", spec := "typesSame", unfollowed := true, recurses := true, loops := true, apart := false, narrowed := true }
def TypesSameUptoSaid : Prop := typesSameUptoRow.holds Try.pinned (OpenSpec.upto typesSameSpec)

/-- 'lychgatelaw02.TypesGreat', WHERE WHAT IT READS IS OF BULK AT MOST 1048576: true; the input reads as it did. -/
def typesGreatUptoRow : OpenClaim := { program := "ytamhdpllmhafhaa", sum := "6ed66bf82f2c2f73e95aa70a7285300b866f6d935b240d485efc0d1b8b76f389", func := "lychgate/lychgatelaw02.TypesGreat", spec := "typesGreat", unfollowed := true, recurses := true, apart := false, narrowed := true }
def TypesGreatUptoSaid : Prop := typesGreatUptoRow.holds Try.pinned (OpenSpec.upto typesGreatSpec)

/-- 'lychgatelaw02.TypesParts', WHERE WHAT IT READS IS OF BULK AT MOST 1048576: true; the input reads as it did. -/
def typesPartsUptoRow : OpenClaim := { program := "ytamhdpllmhafhaa", sum := "6ed66bf82f2c2f73e95aa70a7285300b866f6d935b240d485efc0d1b8b76f389", func := "lychgate/lychgatelaw02.TypesParts", spec := "typesParts", unfollowed := true, recurses := true, loops := true, apart := false, narrowed := true }
def TypesPartsUptoSaid : Prop := typesPartsUptoRow.holds Try.pinned (OpenSpec.upto typesPartsSpec)

/-- 'lychgatelaw08.BelowBoth', WHERE WHAT IT READS IS OF BULK AT MOST 1048576: true; the input reads as it did. -/
def belowBothUptoRow : OpenClaim := { program := "ytamhdpllmhafhaa", sum := "6ed66bf82f2c2f73e95aa70a7285300b866f6d935b240d485efc0d1b8b76f389", func := "lychgate/lychgatelaw08.BelowBoth", spec := "belowBoth", unfollowed := true, recurses := true, loops := true, apart := false, narrowed := true }
def BelowBothUptoSaid : Prop := belowBothUptoRow.holds Try.pinned (OpenSpec.upto belowBothSpec)

/-- 'lychgatelaw08.BelowOrders', WHERE WHAT IT READS IS OF BULK AT MOST 1048576: true; the input reads as it did. -/
def belowOrdersUptoRow : OpenClaim := { program := "ytamhdpllmhafhaa", sum := "6ed66bf82f2c2f73e95aa70a7285300b866f6d935b240d485efc0d1b8b76f389", func := "lychgate/lychgatelaw08.BelowOrders", spec := "belowOrders", unfollowed := true, recurses := true, loops := true, apart := false, narrowed := true }
def BelowOrdersUptoSaid : Prop := belowOrdersUptoRow.holds Try.pinned (OpenSpec.upto belowOrdersSpec)

end Rows
end Go.Proofs.Ytamhdpllmhafhaa
