/-
  NARROWER THAN 'FOR EVERY INPUT', by the rows' own cells (each row's printed sentence says how): TypesBack: loops · CoerceSame: loops.
  DERIVED. THE GIVEN ROWS OF THIS SEAT. 4 by the template 'for every input the law returns true; each argument reads behind the call as it read before'; 0 by the template 'total and deterministic' (their statements: YtjmpejbciniceaaTotals.lean).
  GIVEN WITH THE SEED: the statements are not yours to turn. If you find one false, say at which input.
  Laid BY PROGRAM, IN A SANDBOX (cutbox-rows.mjs): the forced cells as the released guide's own fill.sh prints them over the translation fd60105184f4db23… (all of the seat's roots in one cut). By AI agents, Wed Nov 11 2026. No macro, syntax, notation, axiom, sorry.
-/
import Derived.Test.YtjmpejbciniceaaChecked
import GoSem.Claim
import GoSem.ClaimJoined
import GoSem.ClaimMapViews
import Derived.JoinedTies
import Derived.KernelRfl
namespace Go.Proofs.Ytjmpejbciniceaa
/- THE CELL 'sum', in the pinned program and in every row, IS THE sha256 OF THE DUMP (.gsa) THAT YtjmpejbciniceaaProg.lean LOADS. Nothing in Lean hashes anything: it is a label: what it is worth is what the hold of that sum in a sandbox is worth. -/
noncomputable def Try.pinned : Pinned := { name := "ytjmpejbciniceaa", sum := "fd60105184f4db233cd80f74892c22ccddcd7b7fef46321fad3ff0d5693e4e8a", checked := Try.checked }
namespace Rows
def none {H : Type} : Left H := { results := [], args := [] }

/-- 'lychgatelaw01.ScanParted': WHATEVER THE INPUT: true; the input reads as it did. -/
def scanPartedSpec : ChangeSpec := { name := "scanParted", fn := fun _ => fun
  | [d] => { results := [.lit (.bool true)], args := [d] }
  | _ => none }
def scanPartedRow : OpenClaim := { program := "ytjmpejbciniceaa", sum := "fd60105184f4db233cd80f74892c22ccddcd7b7fef46321fad3ff0d5693e4e8a", func := "lychgate/lychgatelaw01.ScanParted", spec := "scanParted", apart := false }
def ScanPartedSaid : Prop := scanPartedRow.holds Try.pinned (OpenSpec.ofChange scanPartedSpec)

/-- ITS FALSE NEIGHBOUR: 'it returns false'. Refute it at one input. -/
def scanPartedWrong : ChangeSpec := { name := "scanParted", fn := fun _ => fun
  | [d] => { results := [.lit (.bool false)], args := [d] }
  | _ => none }
def ScanPartedWrongFalsely : Prop := scanPartedRow.holds Try.pinned (OpenSpec.ofChange scanPartedWrong)

/-- 'lychgatelaw01.ScanAhead': WHATEVER THE INPUT: true; the input reads as it did. -/
def scanAheadSpec : ChangeSpec := { name := "scanAhead", fn := fun _ => fun
  | [d1, d2] => { results := [.lit (.bool true)], args := [d1, d2] }
  | _ => none }
def scanAheadRow : OpenClaim := { program := "ytjmpejbciniceaa", sum := "fd60105184f4db233cd80f74892c22ccddcd7b7fef46321fad3ff0d5693e4e8a", func := "lychgate/lychgatelaw01.ScanAhead", spec := "scanAhead", apart := false }
def ScanAheadSaid : Prop := scanAheadRow.holds Try.pinned (OpenSpec.ofChange scanAheadSpec)

/-- ITS FALSE NEIGHBOUR: 'it returns false'. Refute it at one input. -/
def scanAheadWrong : ChangeSpec := { name := "scanAhead", fn := fun _ => fun
  | [d1, d2] => { results := [.lit (.bool false)], args := [d1, d2] }
  | _ => none }
def ScanAheadWrongFalsely : Prop := scanAheadRow.holds Try.pinned (OpenSpec.ofChange scanAheadWrong)

/-- 'lychgatelaw02.TypesBack': WHATEVER THE INPUT: true; the input reads as it did. -/
def typesBackSpec : ChangeSpec := { name := "typesBack", fn := fun _ => fun
  | [d] => { results := [.lit (.bool true)], args := [d] }
  | _ => none }
def typesBackRow : OpenClaim := { program := "ytjmpejbciniceaa", sum := "fd60105184f4db233cd80f74892c22ccddcd7b7fef46321fad3ff0d5693e4e8a", func := "lychgate/lychgatelaw02.TypesBack", spec := "typesBack", unfollowed := true, recurses := true, loops := true, apart := false }
def TypesBackSaid : Prop := typesBackRow.holds Try.pinned (OpenSpec.ofChange typesBackSpec)

/-- ITS FALSE NEIGHBOUR: 'it returns false'. Refute it at one input. -/
def typesBackWrong : ChangeSpec := { name := "typesBack", fn := fun _ => fun
  | [d] => { results := [.lit (.bool false)], args := [d] }
  | _ => none }
def TypesBackWrongFalsely : Prop := typesBackRow.holds Try.pinned (OpenSpec.ofChange typesBackWrong)

/-- 'lychgatelaw15.CoerceSame': WHATEVER THE INPUT: true; the input reads as it did. -/
def coerceSameSpec : ChangeSpec := { name := "coerceSame", fn := fun _ => fun
  | [d1, d2] => { results := [.lit (.bool true)], args := [d1, d2] }
  | _ => none }
def coerceSameRow : OpenClaim := { program := "ytjmpejbciniceaa", sum := "fd60105184f4db233cd80f74892c22ccddcd7b7fef46321fad3ff0d5693e4e8a", func := "lychgate/lychgatelaw15.CoerceSame", spec := "coerceSame", unfollowed := true, recurses := true, loops := true, apart := false }
def CoerceSameSaid : Prop := coerceSameRow.holds Try.pinned (OpenSpec.ofChange coerceSameSpec)

/-- ITS FALSE NEIGHBOUR: 'it returns false'. Refute it at one input. -/
def coerceSameWrong : ChangeSpec := { name := "coerceSame", fn := fun _ => fun
  | [d1, d2] => { results := [.lit (.bool false)], args := [d1, d2] }
  | _ => none }
def CoerceSameWrongFalsely : Prop := coerceSameRow.holds Try.pinned (OpenSpec.ofChange coerceSameWrong)

/- THE SECOND FORM. 'bulk': how many values and letters a reading holds, each counted each time it is reached (what is shared counts as often as it is met; a slice's spare places count too). A statement '..UptoSaid' is the law's where the arguments, and the package variables that the reading takes, are together of bulk at most 1048576: NARROWER than '..Said'. Prove '..Said' where nothing that the law and all that it calls make is longer than what came in: it says more and counts as full. Else prove '..UptoSaid'. A law counts once. -/
mutual
def uptoBulk {H : Type} : DataW H → Nat
  | .lit (.string bytes) => bytes.length + 1
  | .lit _ => 1
  | .nil => 1
  | .ptr d => uptoBulk d + 1
  | .slice elems spare => uptoBulkAll elems + uptoBulkAll spare + 1
  | .agg parts => uptoBulkAll parts + 1
  | .iface _ d => uptoBulk d + 1
  | .map entries => uptoBulkEntries entries + 1
  | .held _ => 1
def uptoBulkAll {H : Type} : List (DataW H) → Nat
  | [] => 0
  | d :: r => uptoBulk d + uptoBulkAll r
def uptoBulkEntries {H : Type} : List (Lit × DataW H) → Nat
  | [] => 0
  | x :: r => uptoBulkEntry x + uptoBulkEntries r
def uptoBulkEntry {H : Type} : Lit × DataW H → Nat
  | (.string bytes, d) => bytes.length + uptoBulk d + 1
  | (_, d) => uptoBulk d + 1
 end
def uptoSmall : (H : Type) → List (DataW H) → Bool := fun _ ds => decide (uptoBulkAll ds ≤ 1048576)
def OpenSpec.upto (s : _root_.Go.ChangeSpec) : _root_.Go.OpenSpec := { _root_.Go.OpenSpec.ofChange s with cond := some uptoSmall }

/-- 'lychgatelaw01.ScanParted', WHERE WHAT IT READS IS OF BULK AT MOST 1048576: true; the input reads as it did. -/
def scanPartedUptoRow : OpenClaim := { program := "ytjmpejbciniceaa", sum := "fd60105184f4db233cd80f74892c22ccddcd7b7fef46321fad3ff0d5693e4e8a", func := "lychgate/lychgatelaw01.ScanParted", spec := "scanParted", apart := false, narrowed := true }
def ScanPartedUptoSaid : Prop := scanPartedUptoRow.holds Try.pinned (OpenSpec.upto scanPartedSpec)

/-- 'lychgatelaw01.ScanAhead', WHERE WHAT IT READS IS OF BULK AT MOST 1048576: true; the input reads as it did. -/
def scanAheadUptoRow : OpenClaim := { program := "ytjmpejbciniceaa", sum := "fd60105184f4db233cd80f74892c22ccddcd7b7fef46321fad3ff0d5693e4e8a", func := "lychgate/lychgatelaw01.ScanAhead", spec := "scanAhead", apart := false, narrowed := true }
def ScanAheadUptoSaid : Prop := scanAheadUptoRow.holds Try.pinned (OpenSpec.upto scanAheadSpec)

/-- 'lychgatelaw02.TypesBack', WHERE WHAT IT READS IS OF BULK AT MOST 1048576: true; the input reads as it did. -/
def typesBackUptoRow : OpenClaim := { program := "ytjmpejbciniceaa", sum := "fd60105184f4db233cd80f74892c22ccddcd7b7fef46321fad3ff0d5693e4e8a", func := "lychgate/lychgatelaw02.TypesBack", spec := "typesBack", unfollowed := true, recurses := true, loops := true, apart := false, narrowed := true }
def TypesBackUptoSaid : Prop := typesBackUptoRow.holds Try.pinned (OpenSpec.upto typesBackSpec)

/-- 'lychgatelaw15.CoerceSame', WHERE WHAT IT READS IS OF BULK AT MOST 1048576: true; the input reads as it did. -/
def coerceSameUptoRow : OpenClaim := { program := "ytjmpejbciniceaa", sum := "fd60105184f4db233cd80f74892c22ccddcd7b7fef46321fad3ff0d5693e4e8a", func := "lychgate/lychgatelaw15.CoerceSame", spec := "coerceSame", unfollowed := true, recurses := true, loops := true, apart := false, narrowed := true }
def CoerceSameUptoSaid : Prop := coerceSameUptoRow.holds Try.pinned (OpenSpec.upto coerceSameSpec)

end Rows
end Go.Proofs.Ytjmpejbciniceaa
