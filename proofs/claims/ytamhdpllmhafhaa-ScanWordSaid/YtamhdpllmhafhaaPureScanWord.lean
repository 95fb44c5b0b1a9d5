/- The pure statement of ScanWord: the scanner and the document's answer tell the same words keys, and the same texts names. -/
import Derived.Test.YtamhdpllmhafhaaX5
namespace Go.Proofs.Ytamhdpllmhafhaa.Pure
open Go.RowKit Go.Proofs.Ytamhdpllmhafhaa.X Go.Proofs.YtamhdpllmhafhaaW.PrintWords Go.Proofs.YtamhdpllmhafhaaW.PrintLast
set_option linter.unusedVariables false

theorem Letter_is (c : Int) : lychgateref01_Letter.f c = some (letterB c) := (show lychgateref01_Letter.f c = scan_letter.f c from rfl).trans (letter_is c)
theorem Digit_is (c : Int) : lychgateref01_Digit.f c = some (digitB c) := (show lychgateref01_Digit.f c = scan_digit.f c from rfl).trans (digit_is c)
def wordB (b : UInt8) : Bool := letterB b.toNat || digitB b.toNat
theorem bt_get (s : ByteArray) (i : Nat) (h : i < s.data.toList.length) : bt s (i : Int) = ((s.data.toList[i]).toNat : Int) := by
  have h' : i < s.size := by simpa using h
  simp [bt, h']
  rfl
theorem disjoint (c : Int) (h : letterB c = true) : digitB c = false := by
  simp only [letterB, digitB, Bool.or_eq_true, Bool.and_eq_true, decide_eq_true_eq, beq_iff_eq, Bool.and_eq_false_iff, decide_eq_false_iff_not] at *
  omega

theorem name_loop (s : ByteArray) (hs : s.size ≤ 140737488351232) (d : Nat) : ∀ (k i : Nat), i ≤ s.size → s.size - i = d → d < k → lychgateref01_Name.l0 k s (i : Int) = some ((s.data.toList.drop i).all wordB) := by
  have hl : s.data.toList.length = s.size := by simp
  induction d with
  | zero =>
    intro k i h1 hd hk
    obtain ⟨k, rfl⟩ : ∃ m, k = m + 1 := ⟨k - 1, by omega⟩
    simp only [lychgateref01_Name.l0]
    rw [if_neg (by omega), List.drop_eq_nil_of_le (by omega)]
    rfl
  | succ d ih =>
    intro k i h1 hd hk
    obtain ⟨k, rfl⟩ : ∃ m, k = m + 1 := ⟨k - 1, by omega⟩
    simp only [lychgateref01_Name.l0]
    rw [if_pos (by omega), if_pos (by omega), Letter_is, bt_get s i (by omega)]
    have hw : wrap64 ((i : Int) + 1) = ((i + 1 : Nat) : Int) := by unfold wrap64; omega
    have hdrop : s.data.toList.drop i = s.data.toList[i]'(by omega) :: s.data.toList.drop (i + 1) := List.drop_eq_getElem_cons (by omega)
    rw [hdrop, hw, ih k (i + 1) (by omega) (by omega) (by omega), Digit_is]
    simp only [Option.bind_some, List.all_cons, wordB]
    generalize (s.data.toList[i]'(by omega)).toNat = c
    cases letterB (c : Int) <;> cases digitB (c : Int) <;> simp

theorem refname (s : ByteArray) (hs : s.size ≤ 140737488351232) (k : Nat) (hk : s.size + 1 < k) : lychgateref01_Name.f k s = some (nameB s) := by
  have hl : s.data.toList.length = s.size := by simp
  obtain ⟨k, rfl⟩ : ∃ m, k = m + 1 := ⟨k - 1, by omega⟩
  unfold lychgateref01_Name.f nameB
  simp only [lychgateref01_Name.j0]
  by_cases h0 : s.size = 0
  · have : s.toList = [] := by
      have e : s = ⟨#[]⟩ := ByteArray.ext (Array.eq_empty_of_size_eq_zero h0)
      rw [e]; simp [ByteArray.toList_eq]
    rw [if_pos this]
    simp [h0]
  · have : ¬ s.toList = [] := by
      intro h
      apply h0
      have := congrArg List.length h
      simpa [ByteArray.toList_eq] using this
    rw [if_neg this]
    by_cases h1 : 64 < s.size
    · rw [if_pos (by omega)]
      have : ¬ s.size ≤ 64 := by omega
      simp [this]
    · rw [if_neg (by omega), refkey_is]
      have h64 : s.size ≤ 64 := by omega
      cases hkey : keyB s with
      | true => simp
      | false =>
        simp only [Option.bind_some, Bool.false_eq_true, if_false]
        rw [if_pos (by omega), Letter_is]
        have hb : bt s 0 = ((s.data.toList[0]'(by omega)).toNat : Int) := bt_get s 0 (by omega)
        have hall := name_loop s hs (s.size - 0) k 0 (by omega) rfl (by omega)
        have h00 : ((0 : Nat) : Int) = 0 := rfl
        rw [h00] at hall
        have hdrop : s.data.toList = s.data.toList[0]'(by omega) :: s.data.toList.drop 1 := by
          have := List.drop_eq_getElem_cons (l := s.data.toList) (i := 0) (by omega)
          simpa using this
        simp only [Option.bind_some, hall, List.drop_zero]
        have hfun : (s.data.toList.all fun b => letterB b.toNat || digitB b.toNat) = s.data.toList.all wordB := rfl
        rw [hfun]
        have hhead : s.data.toList.all wordB = (wordB (s.data.toList[0]'(by omega)) && (s.data.toList.drop 1).all wordB) := by
          conv => lhs; rw [hdrop]
          rfl
        rw [hhead, hb]
        unfold wordB
        cases hL : letterB ((s.data.toList[0]'(by omega)).toNat : Int) with
        | true =>
          have h3 := disjoint _ hL
          have h4 : digitB ((s.data[0]'(by have : s.data.size = s.size := rfl; omega)).toNat : Int) = false := by simpa using h3
          simp [h4, h0, h64]
        | false => cases hD : digitB ((s.data.toList[0]'(by omega)).toNat : Int) <;> simp

theorem ScanWord : lychgatelaw01_ScanWord.Pure := by
  intro s hs
  refine ⟨s.size + 3, ?_⟩
  unfold lychgatelaw01_ScanWord.f
  have e1 : ∀ t, scan_Key.f (s.size + 3) t = some (keyB t) := fun t => key_is (s.size + 2) t
  simp only [e1, refkey_is, refname s hs (s.size + 3) (by omega), scan_Name.f]
  simp
  have h1 : keyB ⟨#[108, 101, 116]⟩ = true := by kernel_rfl
  have h2 : nameB ⟨#[120]⟩ = true := by kernel_rfl
  rw [h1, h2]
  rfl
end Go.Proofs.Ytamhdpllmhafhaa.Pure
