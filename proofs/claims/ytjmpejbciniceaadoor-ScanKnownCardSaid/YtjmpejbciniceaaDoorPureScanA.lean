/- scan over lists: from the rest of a text on. -/
import Derived.Test.YtjmpejbciniceaaDoorPureScan
namespace Go.Proofs.YtjmpejbciniceaaDoor.X
set_option linter.unusedVariables false
set_option linter.unusedSimpArgs false

theorem skip_len (l : List UInt8) (rem : Bool) : (skipR l rem).length ≤ l.length := by
  obtain ⟨p, hp⟩ := skip_suffix l rem
  have := congrArg List.length hp
  rw [List.length_append] at this
  omega
theorem scan_fuel : ∀ (f g N : Nat) (l : List UInt8), l.length < f → l.length < g → scanR f N l = scanR g N l := by
  intro f
  induction f with
  | zero => intro g N l h; omega
  | succ f ih =>
    intro g N l hf hg
    obtain ⟨g, rfl⟩ : ∃ m, g = m + 1 := ⟨g - 1, by omega⟩
    rw [scanR, scanR]
    have hs := skip_len l false
    cases h1 : skipR l false with
    | nil => rfl
    | cons c m =>
      rw [h1] at hs
      simp only [List.length_cons] at hs
      simp only
      cases hw : wordR (c :: m) with
      | fault e s => rfl
      | word k s n =>
        simp only
        obtain ⟨r, hr, hne⟩ := word_prefix hw
        have h0 : 0 < s.length := List.length_pos_iff.2 hne
        have hd : ((c :: m).drop s.length).length < c.toNat + m.length + 1 := by rw [List.length_drop, List.length_cons]; omega
        have hd2 : ((c :: m).drop s.length).length ≤ m.length := by rw [List.length_drop, List.length_cons]; omega
        rw [ih g N _ (by omega) (by omega)]
def scanA (N : Nat) (l : List UInt8) : Except (Int × Nat × List UInt8) (List SWord) := scanR (l.length + 1) N l
def preS (ws : List SWord) : Except (Int × Nat × List UInt8) (List SWord) → Except (Int × Nat × List UInt8) (List SWord)
  | .error e => .error e
  | .ok vs => .ok (ws ++ vs)
theorem pre_nil (r : Except (Int × Nat × List UInt8) (List SWord)) : preS [] r = r := by cases r <;> rfl
theorem pre_pre (a b : List SWord) (r : Except (Int × Nat × List UInt8) (List SWord)) : preS a (preS b r) = preS (a ++ b) r := by
  cases r with
  | error e => rfl
  | ok vs => simp [preS]
theorem scanA_blank (N : Nat) (l : List UInt8) : scanA N (32 :: l) = scanA N l := by
  unfold scanA
  rw [List.length_cons, scan_skip]
  exact scan_fuel _ _ _ _ (by omega) (by omega)
theorem scanA_word {N : Nat} {c : UInt8} {m s r : List UInt8} {k : Int} {n : Nat} (hc : startU c) (hw : wordR (c :: m) = .word k s n) (hr : c :: m = s ++ r) : ∃ p, scanA N (c :: m) = preS [⟨k, s, n, p⟩] (scanA N r) := by
  refine ⟨N - (c :: m).length, ?_⟩
  unfold scanA
  rw [scanR, skip_at hc]
  simp only
  rw [hw]
  simp only
  have e : (c :: m).drop s.length = r := by rw [hr, List.drop_left]
  obtain ⟨_, _, hne⟩ := word_prefix hw
  have h0 : 0 < s.length := List.length_pos_iff.2 hne
  have hl := congrArg List.length hr
  rw [List.length_append] at hl
  rw [e, scan_fuel (c :: m).length (r.length + 1) N r (by omega) (by omega)]
  cases scanR (r.length + 1) N r <;> rfl
theorem scanA_step {N : Nat} {c : UInt8} {m : List UInt8} (hc : startU c) : scanA N (c :: m) = match wordR (c :: m) with
    | .fault e t => .error (e, N - (c :: m).length, t)
    | .word k t n => preS [⟨k, t, n, N - (c :: m).length⟩] (scanA N ((c :: m).drop t.length)) := by
  cases hw : wordR (c :: m) with
  | fault e t =>
    unfold scanA
    rw [scanR, skip_at hc]
    simp only [hw]
  | word k s n =>
    obtain ⟨r, hr, hne⟩ := word_prefix hw
    have e : (c :: m).drop s.length = r := by rw [hr, List.drop_left]
    have h0 : 0 < s.length := List.length_pos_iff.2 hne
    have hl := congrArg List.length hr
    rw [List.length_append] at hl
    unfold scanA
    rw [scanR, skip_at hc]
    simp only [hw]
    rw [e, scan_fuel (c :: m).length (r.length + 1) N r (by omega) (by omega)]
    cases scanR (r.length + 1) N r <;> rfl
theorem skip_idem (l : List UInt8) : skipR (skipR l false) false = skipR l false := by
  cases h : skipR l false with
  | nil => rfl
  | cons c m => exact skip_at (skip_start l _ _ _ h) m
theorem scanA_skip (N : Nat) (l : List UInt8) : scanA N (skipR l false) = scanA N l := by
  unfold scanA
  rw [scan_fuel ((skipR l false).length + 1) (l.length + 1) N _ (by omega) (by have := skip_len l false; omega)]
  rw [scanR, scanR, skip_idem]
theorem scanA_nil (N : Nat) : scanA N [] = .ok [] := rfl
theorem skip_drop (l : List UInt8) : l.drop (l.length - (skipR l false).length) = skipR l false := by
  obtain ⟨p, hp⟩ := skip_suffix l false
  have hl := congrArg List.length hp
  rw [List.length_append] at hl
  conv => lhs; arg 2; rw [hp]
  rw [show l.length - (skipR l false).length = p.length from by omega]
  exact List.drop_left
end Go.Proofs.YtjmpejbciniceaaDoor.X
