/- What the reference's parts of the scanner answer: letters, digits, blanks, keys, signs, runs, numbers. -/
import Derived.Test.YtjmpejbciniceaaDoorHWord
import Derived.Test.YtjmpejbciniceaaDoorFRef1a
namespace Go.Proofs.YtjmpejbciniceaaDoor.X
open Go.RowKit Go.Proofs.YtjmpejbciniceaaDoorW.PrintWords Go.Proofs.YtjmpejbciniceaaDoorW.PrintLast Go.Proofs.YtjmpejbciniceaaDoorW.PrintMore
set_option linter.unusedVariables false
set_option linter.unusedSimpArgs false

theorem bt_in (s : ByteArray) (i : Nat) (h : i < s.size) : bt s (i : Int) = ((s[i]'h).toNat : Int) := by
  unfold bt
  rw [dif_pos (by simpa using h)]
  rfl
theorem rdigit_is (c : UInt8) : lychgateref01_Digit.f (c.toNat : Int) = some (digU c) := by
  rw [← digit_is]
  rfl
theorem rletter_is (c : UInt8) : lychgateref01_Letter.f (c.toNat : Int) = some (letU c) := by
  rw [← letter_is]
  rfl
theorem u8_is (c d : UInt8) : ((c.toNat : Int) = (d.toNat : Int)) ↔ c = d := by
  rw [← UInt8.toNat_inj]
  omega
theorem rblank_is (c : UInt8) : lychgateref01_Blank.f (c.toNat : Int) = some (blankU c || c == 10) := by
  unfold lychgateref01_Blank.f blankU
  have e1 : ((c.toNat : Int) = 32) ↔ c = 32 := u8_is c 32
  have e2 : ((c.toNat : Int) = 9) ↔ c = 9 := u8_is c 9
  have e3 : ((c.toNat : Int) = 10) ↔ c = 10 := u8_is c 10
  have e4 : ((c.toNat : Int) == 13) = (c == 13) := by rw [Bool.eq_iff_iff, beq_iff_eq, beq_iff_eq]; exact u8_is c 13
  by_cases h1 : c = 32
  · rw [if_pos (e1.2 h1)]; simp [h1]
  rw [if_neg (fun h => h1 (e1.1 h))]
  by_cases h2 : c = 9
  · rw [if_pos (e2.2 h2)]; simp [h2]
  rw [if_neg (fun h => h2 (e2.1 h))]
  by_cases h3 : c = 10
  · rw [if_pos (e3.2 h3)]; simp [h3]
  rw [if_neg (fun h => h3 (e3.1 h)), e4, beq_eq_false_iff_ne.2 h1, beq_eq_false_iff_ne.2 h2, beq_eq_false_iff_ne.2 h3]
  simp
theorem rkey_is (s : ByteArray) : lychgateref01_Key.f s = some (keyU s.toList) := by
  unfold lychgateref01_Key.f keyU
  generalize s.toList = l
  by_cases h0 : l = ([108, 101, 116] : List UInt8)
  · rw [if_pos h0]; exact key_yes h0 (by decide)
  rw [if_neg h0]
  by_cases h1 : l = ([105, 110] : List UInt8)
  · rw [if_pos h1]; exact key_yes h1 (by decide)
  rw [if_neg h1]
  by_cases h2 : l = ([105, 102] : List UInt8)
  · rw [if_pos h2]; exact key_yes h2 (by decide)
  rw [if_neg h2]
  by_cases h3 : l = ([116, 104, 101, 110] : List UInt8)
  · rw [if_pos h3]; exact key_yes h3 (by decide)
  rw [if_neg h3]
  by_cases h4 : l = ([101, 108, 115, 101] : List UInt8)
  · rw [if_pos h4]; exact key_yes h4 (by decide)
  rw [if_neg h4]
  by_cases h5 : l = ([114, 101, 99] : List UInt8)
  · rw [if_pos h5]; exact key_yes h5 (by decide)
  rw [if_neg h5]
  by_cases h6 : l = ([99, 97, 115, 101] : List UInt8)
  · rw [if_pos h6]; exact key_yes h6 (by decide)
  rw [if_neg h6]
  by_cases h7 : l = ([111, 102] : List UInt8)
  · rw [if_pos h7]; exact key_yes h7 (by decide)
  rw [if_neg h7]
  by_cases h8 : l = ([102, 115, 116] : List UInt8)
  · rw [if_pos h8]; exact key_yes h8 (by decide)
  rw [if_neg h8]
  by_cases h9 : l = ([115, 110, 100] : List UInt8)
  · rw [if_pos h9]; exact key_yes h9 (by decide)
  rw [if_neg h9]
  by_cases h10 : l = ([105, 110, 108] : List UInt8)
  · rw [if_pos h10]; exact key_yes h10 (by decide)
  rw [if_neg h10]
  by_cases h11 : l = ([105, 110, 114] : List UInt8)
  · rw [if_pos h11]; exact key_yes h11 (by decide)
  rw [if_neg h11]
  by_cases h12 : l = ([116, 114, 117, 101] : List UInt8)
  · rw [if_pos h12]; exact key_yes h12 (by decide)
  rw [if_neg h12]
  by_cases h13 : l = ([102, 97, 108, 115, 101] : List UInt8)
  · rw [if_pos h13]; exact key_yes h13 (by decide)
  rw [if_neg h13]
  by_cases h14 : l = ([105, 110, 116] : List UInt8)
  · rw [if_pos h14]; exact key_yes h14 (by decide)
  rw [if_neg h14]
  by_cases h15 : l = ([98, 111, 111, 108] : List UInt8)
  · rw [if_pos h15]; exact key_yes h15 (by decide)
  rw [if_neg h15]
  have : keysU.contains l = false := by
    rw [← Bool.not_eq_true, List.contains_iff_mem]
    unfold keysU
    simp only [List.mem_cons, List.not_mem_nil, or_false]
    rintro (h | h | h | h | h | h | h | h | h | h | h | h | h | h | h | h)
    · exact h0 h
    · exact h1 h
    · exact h2 h
    · exact h3 h
    · exact h4 h
    · exact h5 h
    · exact h6 h
    · exact h7 h
    · exact h8 h
    · exact h9 h
    · exact h10 h
    · exact h11 h
    · exact h12 h
    · exact h13 h
    · exact h14 h
    · exact h15 h
  rw [this]
theorem rsign_all : ∀ n : Fin 256, lychgateref01_sign.f 25 (n.val : Int) = some (signU (UInt8.ofNat n.val)) := by decide +kernel
theorem rsign_is (c : UInt8) : lychgateref01_sign.f 25 (c.toNat : Int) = some (signU c) := by
  have h := rsign_all ⟨c.toNat, c.toNat_lt⟩
  simpa using h
/-! ### runs -/
theorem run_at (s : ByteArray) (b : Bool) (hs : s.size ≤ 100000) : ∀ (d a k : Nat), s.size = a + d → d < k → lychgateref01_run.l0 k s (a : Int) b = some ((a + spanN s a b : Nat) : Int) := by
  intro d
  induction d with
  | zero =>
    intro a k h hk
    obtain ⟨k, rfl⟩ : ∃ m, k = m + 1 := ⟨k - 1, by omega⟩
    unfold lychgateref01_run.l0
    rw [if_neg (by omega)]
    have : spanN s a b = 0 := by unfold spanN; rw [List.drop_eq_nil_of_le (by simp; omega)]; rfl
    rw [this]
    rfl
  | succ d ih =>
    intro a k h hk
    obtain ⟨k, rfl⟩ : ∃ m, k = m + 1 := ⟨k - 1, by omega⟩
    have ha : a < s.size := by omega
    have hw : wrap64 ((a : Int) + 1) = ((a + 1 : Nat) : Int) := by rw [IntWalk.wrap64_in _ (by omega)]; omega
    have hn : spanN s a b = if spanP b (s[a]'ha) then spanN s (a + 1) b + 1 else 0 := by
      unfold spanN
      rw [drop_at s a ha, List.takeWhile_cons]
      split <;> simp
    unfold lychgateref01_run.l0
    rw [if_pos (by omega), if_pos (by omega), bt_in s a ha, rdigit_is, rletter_is, hw]
    simp only [Option.bind_some]
    have hi := ih (a + 1) k (by omega) (by omega)
    by_cases h1 : digU (s[a]'ha) = true
    · rw [if_pos h1, hi, hn, if_pos (by simp [spanP, h1])]
      congr 1; omega
    · rw [if_neg h1]
      cases b with
      | false => rw [if_neg (by simp), hn, if_neg (by simp [spanP, h1])]; rfl
      | true =>
        rw [if_pos rfl]
        by_cases h2 : letU (s[a]'ha) = true
        · rw [if_pos h2, hi, hn, if_pos (by simp [spanP, h2])]
          congr 1; omega
        · rw [if_neg h2, hn, if_neg (by simp [spanP, h1, h2])]; rfl
theorem run_is (s : ByteArray) (b : Bool) (hs : s.size ≤ 100000) (a : Nat) (ha : a ≤ s.size) : lychgateref01_run.f 100001 s (a : Int) b = some ((a + spanN s a b : Nat) : Int) := run_at s b hs (s.size - a) a _ (by omega) (by omega)
/-! ### numbers -/
theorem div_bound (M n x : Nat) (hx : x ≤ M) (h : ¬ (M - x) / 10 < n) : n * 10 + x ≤ M := by omega
theorem num_at (t : ByteArray) (hs : t.size ≤ 100000) (hd : ∀ c ∈ t.data.toList, digU c = true) : ∀ (d i k n : Nat), t.size = i + d → d < k → n ≤ 9223372036854775807 →
    lychgateref01_Number.l0 k t (n : Int) (i : Int) = match numR (t.data.toList.drop i) n with
      | none => some (0, false)
      | some m => some ((m : Int), true) := by
  intro d
  induction d with
  | zero =>
    intro i k n h hk hn
    obtain ⟨k, rfl⟩ : ∃ m, k = m + 1 := ⟨k - 1, by omega⟩
    unfold lychgateref01_Number.l0
    rw [if_neg (by omega), List.drop_eq_nil_of_le (by simp; omega)]
    rfl
  | succ d ih =>
    intro i k n h hk hn
    obtain ⟨k, rfl⟩ : ∃ m, k = m + 1 := ⟨k - 1, by omega⟩
    have hi : i < t.size := by omega
    have hg : digU (t[i]'hi) = true := hd _ (List.getElem_mem (l := t.data.toList) (n := i) (by simpa using hi))
    have hr : 48 ≤ (t[i]'hi).toNat ∧ (t[i]'hi).toNat ≤ 57 := by
      unfold digU at hg
      simp only [Bool.and_eq_true, decide_eq_true_eq] at hg
      have h1 := UInt8.le_iff_toNat_le.1 hg.1
      have h2 := UInt8.le_iff_toNat_le.1 hg.2
      exact ⟨h1, h2⟩
    have hw : wrap64 ((i : Int) + 1) = ((i + 1 : Nat) : Int) := by rw [IntWalk.wrap64_in _ (by omega)]; omega
    have hm : (((t[i]'hi).toNat : Int) - 48) % 256 = (((t[i]'hi).toNat - 48 : Nat) : Int) := by omega
    unfold lychgateref01_Number.l0
    rw [if_pos (by omega), if_pos (by omega), bt_in t i hi, hw, hm, drop_at t i hi, numR]
    by_cases ho : (9223372036854775807 - ((t[i]'hi).toNat - 48)) / 10 < n
    · rw [if_pos (by omega), if_pos ho]
    · rw [if_neg (by omega), if_neg ho]
      have hb : n * 10 + ((t[i]'hi).toNat - 48) ≤ 9223372036854775807 := div_bound _ _ _ (by omega) ho
      clear ho
      have e1 : wrap64 ((n : Int) * 10) = ((n * 10 : Nat) : Int) := by rw [IntWalk.wrap64_in _ (by omega)]; omega
      rw [e1]
      have e2 : wrap64 (((n * 10 : Nat) : Int) + (((t[i]'hi).toNat - 48 : Nat) : Int)) = ((n * 10 + ((t[i]'hi).toNat - 48) : Nat) : Int) := by rw [IntWalk.wrap64_in _ (by omega)]; omega
      rw [e2]
      have h9 := ih (i + 1) k (n * 10 + ((t[i]'hi).toNat - 48)) (by omega) (by omega) hb
      rw [h9]
theorem num_is (K : Nat) (t : ByteArray) (hs : t.size ≤ 100000) (hK : t.size < K) (hd : ∀ c ∈ t.data.toList, digU c = true) : (numR t.data.toList 0 = none → lychgateref01_Number.f K t = some (0, false)) ∧ ∀ m, numR t.data.toList 0 = some m → lychgateref01_Number.f K t = some ((m : Int), true) := by
  have h := num_at t hs hd t.size 0 K 0 (by omega) hK (by omega)
  rw [List.drop_zero] at h
  unfold lychgateref01_Number.f
  simp only [Int.natCast_zero] at h
  constructor
  · intro hn; rw [hn] at h; exact h
  · intro m hn; rw [hn] at h; exact h
/-! ### skip -/
theorem skipl_at (s : ByteArray) (hs : s.size ≤ 100000) : ∀ (d a k : Nat), s.size = a + d → 3 * d + 3 ≤ k →
    lychgateref01_skip.l0 k s (a : Int) = some ((s.size - (skipR (s.data.toList.drop a) false).length : Nat) : Int) ∧ lychgateref01_skip.l1 k s (a : Int) = some ((s.size - (skipR (s.data.toList.drop a) true).length : Nat) : Int) := by
  intro d
  induction d with
  | zero =>
    intro a k h hk
    obtain ⟨k, rfl⟩ : ∃ m, k = m + 1 + 1 := ⟨k - 2, by omega⟩
    have e : s.data.toList.drop a = [] := List.drop_eq_nil_of_le (by simp; omega)
    have ea : s.size = a := by omega
    have h0 : ∀ m, lychgateref01_skip.l0 (m + 1) s (a : Int) = some (a : Int) := fun m => by unfold lychgateref01_skip.l0; rw [if_neg (by omega)]
    rw [e]
    constructor
    · rw [h0]; simp [skipR]; omega
    · unfold lychgateref01_skip.l1
      rw [if_neg (by omega), h0]; simp [skipR]; omega
  | succ d ih =>
    intro a k h hk
    have ha : a < s.size := by omega
    have hw : wrap64 ((a : Int) + 1) = ((a + 1 : Nat) : Int) := by rw [IntWalk.wrap64_in _ (by omega)]; omega
    have c10 : (((s[a]'ha).toNat : Int) = 10) ↔ s[a]'ha = 10 := u8_is _ 10
    have c35 : (((s[a]'ha).toNat : Int) = 35) ↔ s[a]'ha = 35 := u8_is _ 35
    obtain ⟨k, rfl⟩ : ∃ m, k = m + 1 + 1 := ⟨k - 2, by omega⟩
    have hl1 : ∀ m, m + 1 ≤ k + 1 + 1 → 3 * d + 3 ≤ m → ¬ s[a]'ha = 10 → lychgateref01_skip.l1 (m + 1) s (a : Int) = some ((s.size - (skipR (s.data.toList.drop (a + 1)) true).length : Nat) : Int) := fun m _ hm hne => by
      unfold lychgateref01_skip.l1
      rw [if_pos (by omega), if_pos (by omega), bt_in s a ha, if_neg (fun e => hne (c10.1 e)), hw]
      exact (ih (a + 1) m (by omega) hm).2
    have hl0 : lychgateref01_skip.l0 (k + 1 + 1) s (a : Int) = some ((s.size - (skipR (s.data.toList.drop a) false).length : Nat) : Int) ∧ (s[a]'ha = 10 → lychgateref01_skip.l0 (k + 1) s (a : Int) = some ((s.size - (skipR (s.data.toList.drop (a + 1)) false).length : Nat) : Int)) := by
      constructor
      · unfold lychgateref01_skip.l0
        rw [if_pos (by omega), if_pos (by omega), bt_in s a ha, drop_at s a ha, skipR, rblank_is, hw]
        simp only [Option.bind_some]
        by_cases h35 : s[a]'ha = 35
        · rw [if_pos (c35.2 h35), if_neg (by rw [h35]; decide), if_neg (by simp), if_neg (by rw [h35]; decide), if_pos h35]
          exact hl1 k (by omega) (by omega) (by rw [h35]; decide)
        · rw [if_neg (fun e => h35 (c35.1 e))]
          by_cases h10 : s[a]'ha = 10
          · rw [if_pos h10, if_pos (by rw [h10]; rfl)]
            exact (ih (a + 1) (k + 1) (by omega) (by omega)).1
          · rw [if_neg h10, if_neg (show ¬ (false = true) from Bool.false_ne_true)]
            by_cases hb : blankU (s[a]'ha) = true
            · rw [if_pos hb, if_pos (by rw [hb]; rfl)]
              exact (ih (a + 1) (k + 1) (by omega) (by omega)).1
            · rw [if_neg hb, if_neg (by rw [beq_eq_false_iff_ne.2 h10]; simpa using hb), if_neg h35]
              have : (s[a]'ha :: s.data.toList.drop (a + 1)).length = s.size - a := by rw [← drop_at s a ha]; simp
              rw [this]
              congr 1; omega
      · intro h10
        unfold lychgateref01_skip.l0
        rw [if_pos (by omega), if_pos (by omega), bt_in s a ha, if_neg (by rw [h10]; decide), rblank_is, hw]
        simp only [Option.bind_some]
        rw [if_pos (by rw [h10]; rfl)]
        exact (ih (a + 1) k (by omega) (by omega)).1
    refine ⟨hl0.1, ?_⟩
    by_cases h10 : s[a]'ha = 10
    · unfold lychgateref01_skip.l1
      rw [if_pos (by omega), if_pos (by omega), bt_in s a ha, if_pos (c10.2 h10), drop_at s a ha, skipR, if_pos h10]
      exact hl0.2 h10
    · rw [hl1 (k + 1) (by omega) (by omega) h10, drop_at s a ha, skipR, if_neg h10, if_pos rfl]
theorem skip_is (s : ByteArray) (hs : s.size ≤ 100000) (a : Nat) (ha : a ≤ s.size) : lychgateref01_skip.f 400000 s (a : Int) = some ((s.size - (skipR (s.data.toList.drop a) false).length : Nat) : Int) := (skipl_at s hs (s.size - a) a _ (by omega) (by omega)).1
end Go.Proofs.YtjmpejbciniceaaDoor.X
