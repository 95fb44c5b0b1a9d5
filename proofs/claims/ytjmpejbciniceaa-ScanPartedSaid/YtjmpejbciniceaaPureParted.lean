/- What ScanParted sees of the words, over lists. -/
import Derived.Test.YtjmpejbciniceaaPureScanA
namespace Go.Proofs.Ytjmpejbciniceaa.X
set_option linter.unusedVariables false
set_option linter.unusedSimpArgs false

theorem parted_scan {L : List UInt8} {ws : List SWord} (h : scanA L.length L = .ok ws) : partedR L 0 ws := scan_parted L _ [] L ws rfl (by omega) h
/-- The joined words, read anew. -/
theorem parted_again {L : List UInt8} {ws : List SWord} (h : partedR L 0 ws) (N : Nat) : ∃ vs, scanA N (joinR ws) = .ok vs ∧ AllSame vs ws := scan_join L ws 0 N _ h (by omega)
theorem parted_text {L : List UInt8} {w : SWord} (hg : GoodW w) (h : ∃ m, L.drop w.pos = w.text ++ m) : w.text ≠ [] ∧ w.pos + w.text.length ≤ L.length ∧ (L.drop w.pos).take w.text.length = w.text := by
  obtain ⟨c, m, e, _⟩ := hg.start
  obtain ⟨m2, h2⟩ := h
  refine ⟨by rw [e]; simp, ?_, by rw [h2, List.take_left]⟩
  have h3 := congrArg List.length h2
  rw [List.length_drop, List.length_append] at h3
  have h4 : 0 < w.text.length := by rw [e]; simp
  omega
theorem join_append (a b : List SWord) : joinR (a ++ b) = joinR a ++ joinR b := by
  induction a with
  | nil => rfl
  | cons x a ih => simp [joinR, ih]
theorem same_len {xs ys : List SWord} (h : AllSame xs ys) : xs.length = ys.length := by
  induction h with
  | nil => rfl
  | cons _ _ ih => simp [ih]
theorem same_get {xs ys : List SWord} (h : AllSame xs ys) : ∀ (i : Nat) (h1 : i < xs.length) (h2 : i < ys.length), sameR (xs[i]'h1) (ys[i]'h2) := by
  induction h with
  | nil => intro i h1; simp at h1
  | cons h0 _ ih =>
    intro i h1 h2
    cases i with
    | zero => exact h0
    | succ i => exact ih i (by simpa using h1) (by simpa using h2)
/-- From the i-th word on, at the place where the one ahead of it ended. -/
theorem parted_at {L : List UInt8} : ∀ {ws : List SWord} {a : Nat}, partedR L a ws → ∀ (i : Nat) (h : i < ws.length), (∃ b, partedR L b (ws.drop i) ∧ b ≤ (ws[i]'h).pos)
  | [], _, _, i, h => by simp at h
  | w :: ws, a, hp, i, h => by
    cases i with
    | zero => exact ⟨a, hp, hp.1⟩
    | succ i => exact parted_at hp.2.2.2 i (by simpa using h)
end Go.Proofs.Ytjmpejbciniceaa.X
