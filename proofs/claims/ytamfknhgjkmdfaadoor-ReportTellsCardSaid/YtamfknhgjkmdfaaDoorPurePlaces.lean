/- Plain laws: a text's lines, as the walk asks for them. -/
import Derived.Test.YtamfknhgjkmdfaaDoorPureLines
namespace Go.Proofs.YtamfknhgjkmdfaaDoor.X
set_option linter.unusedVariables false
set_option linter.unusedSimpArgs false
theorem atN_nat (k n : Nat) (h : k ≤ n) : atN (k : Int) n = k := by unfold atN; omega
theorem linesP_len (l : List UInt8) : (linesP l).1.length ≤ l.length ∧ (linesP l).2.length ≤ l.length := by
  have h1 := lines_where l
  have h2 := whereP_le l
  rw [h1] at h2
  simp only at h2
  omega
theorem app_one (x s : ByteArray) (j : Nat) (h : j < s.size) : (x ++ s.extract j (j + 1)).data.toList = x.data.toList ++ [s[j]'h] := by
  have hl : j < s.data.toList.length := by simpa using h
  rw [ByteArray.data_append, Array.toList_append, extract_list, List.take_add_one, List.getElem?_eq_getElem hl, List.drop_append, List.drop_of_length_le (by simp; omega)]
  simp only [List.length_take, List.nil_append]
  rw [show j - min j s.data.toList.length = 0 by omega]
  rfl
theorem bytes_eq {a b : ByteArray} (h : a.data.toList = b.data.toList) : a = b := by
  apply ByteArray.ext
  exact Array.ext' h
theorem glue_take (hs : List (List UInt8)) (i : Nat) : (glue (hs.take i)).length ≤ (glue hs).length := by
  have : glue hs = glue (hs.take i) ++ glue (hs.drop i) := by unfold glue; rw [← List.flatMap_append, List.take_append_drop]
  rw [this, List.length_append]; omega
/-- What the lines say of a place. -/
theorem lines_facts (s : ByteArray) (ka : Nat) (xs : List ByteArray) (h : xs.map (fun y => y.data.toList) = linesOf s.data.toList) :
    (linesP (s.data.toList.take ka)).1.length < xs.length ∧ xs[(linesP (s.data.toList.take ka)).1.length]? = some (⟨(lineB s.data.toList ka).toArray⟩ : ByteArray) ∧
      ∀ i, i < (linesP (s.data.toList.take ka)).1.length → xs[i]? = some (⟨((linesP (s.data.toList.take ka)).1.getD i []).toArray⟩ : ByteArray) := by
  obtain ⟨M, hM⟩ := lines_at s.data.toList ka
  rw [hM] at h
  generalize (linesP (s.data.toList.take ka)).1 = H at *
  have hl := congrArg List.length h
  simp only [List.length_map, List.length_append, List.length_cons] at hl
  have get : ∀ (i : Nat) (l : List UInt8), (H ++ lineB s.data.toList ka :: M)[i]? = some l → xs[i]? = some (⟨l.toArray⟩ : ByteArray) := by
    intro i l hi
    rw [← h, List.getElem?_map] at hi
    cases hx : xs[i]? with
    | none => rw [hx] at hi; cases hi
    | some y =>
      rw [hx] at hi
      simp only [Option.map_some, Option.some.injEq] at hi
      rw [← hi]
  refine ⟨by omega, get _ _ (by simp), fun i hi => get _ _ ?_⟩
  rw [List.getElem?_append_left hi, List.getElem?_eq_getElem hi, List.getD_eq_getElem?_getD, List.getElem?_eq_getElem hi]
  rfl
theorem line_len (l : List UInt8) (k : Nat) : (lineB l k).length ≤ l.length := by
  have h1 : (lastPart (l.take k)).length ≤ (l.take k).length := by
    unfold lastPart
    rw [List.length_reverse]
    have := (List.takeWhile_prefix nl (l := (l.take k).reverse)).length_le
    rwa [List.length_reverse] at this
  have h2 := (List.takeWhile_prefix nl (l := l.drop k)).length_le
  have h3 := congrArg List.length (List.take_append_drop k l)
  unfold lineB
  rw [List.length_append] at *
  omega
end Go.Proofs.YtamfknhgjkmdfaaDoor.X
