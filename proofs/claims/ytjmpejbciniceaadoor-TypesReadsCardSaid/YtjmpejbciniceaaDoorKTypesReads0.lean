/- Texts of this claim, joined: PureScan, HSkipPure. -/
import Derived.Laws.RangeAny
namespace Go.Proofs.YtjmpejbciniceaaDoor.X
set_option linter.unusedVariables false
set_option linter.unusedSimpArgs false
structure SWord where
  kind : Int
  text : List UInt8
  num : Nat
  pos : Nat
inductive SRes where
  | word (kind : Int) (text : List UInt8) (num : Nat)
  | fault (code : Int) (text : List UInt8)
end Go.Proofs.YtjmpejbciniceaaDoor.X
namespace Go.Proofs.YtjmpejbciniceaaDoor.X
open Go
set_option linter.unusedVariables false
set_option linter.unusedSimpArgs false
theorem get_in (t : ByteArray) (i : Nat) (h : i < t.size) : t.get! i = t[i]'h := by
  simp [ByteArray.get!, getElem!_pos, h]
  rfl
theorem drop_at (t : ByteArray) (i : Nat) (h : i < t.size) : t.data.toList.drop i = t[i] :: t.data.toList.drop (i + 1) := by
  rw [List.drop_eq_getElem_cons (by simpa using h)]
  rfl
end Go.Proofs.YtjmpejbciniceaaDoor.X
