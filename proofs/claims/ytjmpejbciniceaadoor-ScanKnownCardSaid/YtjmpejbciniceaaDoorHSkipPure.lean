/- A step of a range over a string, and what skip makes of it. -/
import Derived.Test.YtjmpejbciniceaaDoorPureScan
import Derived.Laws.RangeAny
namespace Go.Proofs.YtjmpejbciniceaaDoor.X
open Go
set_option linter.unusedVariables false
set_option linter.unusedSimpArgs false

theorem get_in (t : ByteArray) (i : Nat) (h : i < t.size) : t.get! i = t[i]'h := by
  simp [ByteArray.get!, getElem!_pos, h]
  rfl
theorem cont_in {t : ByteArray} {pos k : Nat} (h : (decide (pos + k < t.size) && (t.get! (pos + k)).toNat / 64 == 2) = true) : ∃ h : pos + k < t.size, 128 ≤ (t[pos + k]'h).toNat := by
  simp only [Bool.and_eq_true, decide_eq_true_eq, beq_iff_eq] at h
  obtain ⟨h1, h2⟩ := h
  rw [get_in t _ h1] at h2
  exact ⟨h1, by omega⟩
/-- The bytes of a rune that is no ASCII one are none themselves. -/
theorem decode_bytes (t : ByteArray) (pos : Nat) (h : pos < t.size) (ha : 128 ≤ (t[pos]'h).toNat) : ∀ j, j < (Utf8.decode t pos).2 → ∃ h : pos + j < t.size, 128 ≤ (t[pos + j]'h).toNat := by
  have zero : ∃ h : pos + 0 < t.size, 128 ≤ (t[pos + 0]'h).toNat := ⟨h, ha⟩
  have hn : ¬ (t[pos]'h).toNat < 128 := by omega
  simp only [Utf8.decode, get_at t pos h, hn, if_false]
  intro j hj
  split at hj
  · rename_i h1
    simp only [Bool.and_eq_true] at h1
    have c1 := cont_in (k := 1) (by simpa using h1.2)
    split at hj
    · match j, hj with
      | 0, _ => exact zero
      | 1, _ => exact c1
    · match j, hj with
      | 0, _ => exact zero
  · split at hj
    · rename_i h1
      simp only [Bool.and_eq_true] at h1
      have c1 := cont_in (k := 1) (by simpa using h1.1.2)
      have c2 := cont_in (k := 2) (by simpa using h1.2)
      split at hj
      · match j, hj with
        | 0, _ => exact zero
        | 1, _ => exact c1
        | 2, _ => exact c2
      · match j, hj with
        | 0, _ => exact zero
    · split at hj
      · rename_i h1
        simp only [Bool.and_eq_true] at h1
        have c1 := cont_in (k := 1) (by simpa using h1.1.1.2)
        have c2 := cont_in (k := 2) (by simpa using h1.1.2)
        have c3 := cont_in (k := 3) (by simpa using h1.2)
        split at hj
        · match j, hj with
          | 0, _ => exact zero
          | 1, _ => exact c1
          | 2, _ => exact c2
          | 3, _ => exact c3
        · match j, hj with
          | 0, _ => exact zero
      · match j, hj with
        | 0, _ => exact zero
theorem drop_at (t : ByteArray) (i : Nat) (h : i < t.size) : t.data.toList.drop i = t[i] :: t.data.toList.drop (i + 1) := by
  rw [List.drop_eq_getElem_cons (by simpa using h)]
  rfl
theorem skip_high (t : ByteArray) (pos : Nat) : ∀ n, (∀ j, j < n → ∃ h : pos + j < t.size, 128 ≤ (t[pos + j]'h).toNat) → skipR (t.data.toList.drop pos) true = skipR (t.data.toList.drop (pos + n)) true := by
  intro n
  induction n with
  | zero => intro _; rfl
  | succ n ih =>
    intro h
    rw [ih (fun j hj => h j (by omega))]
    obtain ⟨h1, h2⟩ := h n (by omega)
    rw [drop_at t (pos + n) h1, skipR, if_neg (by intro e; rw [e] at h2; exact absurd h2 (by decide)), if_pos rfl]
    rfl
/-- One round of skip. -/
theorem skip_round (t : ByteArray) (pos : Nat) (h : pos < t.size) (rem : Bool) : ∃ (r : Int) (wd : Nat), ((Utf8.decode t pos).1 : Int) = r ∧ (Utf8.decode t pos).2 = wd ∧ 1 ≤ wd ∧ pos + wd ≤ t.size ∧ 0 ≤ r ∧ r ≤ 2147483647 ∧
    skipR (t.data.toList.drop pos) rem = if r = 10 then skipR (t.data.toList.drop (pos + wd)) false else if rem = true then skipR (t.data.toList.drop (pos + wd)) true else if r = 32 ∨ r = 9 ∨ r = 13 then skipR (t.data.toList.drop (pos + wd)) false else if r = 35 then skipR (t.data.toList.drop (pos + wd)) true else t.data.toList.drop pos := by
  refine ⟨_, _, rfl, rfl, ?_⟩
  by_cases ha : (t[pos]'h).toNat < 128
  · rw [decode_ascii t pos h ha]
    refine ⟨Nat.le_refl _, h, by simp, by simp; omega, ?_⟩
    rw [drop_at t pos h, skipR]
    have e : ∀ n : UInt8, t[pos] = n ↔ (((t[pos]'h).toNat : Nat) : Int) = (n.toNat : Int) := fun n => by
      rw [← UInt8.toNat_inj]; omega
    have hb : blankU t[pos] = true ↔ (((t[pos]'h).toNat : Nat) : Int) = 32 ∨ (((t[pos]'h).toNat : Nat) : Int) = 9 ∨ (((t[pos]'h).toNat : Nat) : Int) = 13 := by
      unfold blankU
      simp only [Bool.or_eq_true, beq_iff_eq, e]
      exact or_assoc
    have e10 : t[pos] = 10 ↔ (((t[pos]'h).toNat : Nat) : Int) = 10 := e 10
    have e35 : t[pos] = 35 ↔ (((t[pos]'h).toNat : Nat) : Int) = 35 := e 35
    dsimp only
    by_cases h1 : t[pos] = 10
    · rw [if_pos h1, if_pos (e10.1 h1)]
    rw [if_neg h1, if_neg (fun q => h1 (e10.2 q))]
    cases rem with
    | true => rfl
    | false =>
      simp only [Bool.false_eq_true, if_false]
      by_cases h2 : blankU t[pos] = true
      · rw [if_pos h2, if_pos (hb.1 h2)]
      rw [if_neg h2, if_neg (fun q => h2 (hb.2 q))]
      by_cases h3 : t[pos] = 35
      · rw [if_pos h3, if_pos (e35.1 h3)]
      · rw [if_neg h3, if_neg (fun q => h3 (e35.2 q))]
  · have hh := decode_high t pos h (by omega)
    have hle := decode_le t pos
    have hb := decode_bytes t pos h (by omega)
    obtain ⟨h9, _⟩ := hb ((Utf8.decode t pos).2 - 1) (by omega)
    refine ⟨hh.2, by omega, by omega, by omega, ?_⟩
    rw [if_neg (by omega)]
    cases rem with
    | true => rw [if_pos rfl]; exact skip_high t pos _ hb
    | false =>
      rw [if_neg (by simp), if_neg (by omega), if_neg (by omega), drop_at t pos h, skipR]
      have hn : ∀ n : UInt8, n.toNat < 128 → t[pos] ≠ n := fun n hn e => by rw [e] at ha; omega
      rw [if_neg (hn 10 (by decide)), if_neg (by simp), if_neg (by unfold blankU; simp [hn 32 (by decide), hn 9 (by decide), hn 13 (by decide)]), if_neg (hn 35 (by decide))]
end Go.Proofs.YtjmpejbciniceaaDoor.X
