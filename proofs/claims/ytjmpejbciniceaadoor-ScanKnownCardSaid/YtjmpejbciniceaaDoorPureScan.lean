/- What scan.All answers, over lists of bytes; its two plain laws: what stands behind a blank changes nothing ahead of it, and words with blanks between are the same words again. -/
namespace Go.Proofs.YtjmpejbciniceaaDoor.X
set_option linter.unusedVariables false
set_option linter.unusedSimpArgs false

def letU (c : UInt8) : Bool := (decide (65 ≤ c) && decide (c ≤ 90)) || (decide (97 ≤ c) && decide (c ≤ 122)) || c == 95
def digU (c : UInt8) : Bool := decide (48 ≤ c) && decide (c ≤ 57)
def blankU (c : UInt8) : Bool := c == 32 || c == 9 || c == 13
def signsU : List UInt8 := [92, 46, 58, 61, 40, 41, 91, 93, 123, 125, 44, 124, 43, 45, 42, 47, 60, 62, 63, 59]
def signU (c : UInt8) : Bool := signsU.contains c
def keysU : List (List UInt8) := [[108, 101, 116], [105, 110], [105, 102], [116, 104, 101, 110], [101, 108, 115, 101], [114, 101, 99], [99, 97, 115, 101], [111, 102], [102, 115, 116], [115, 110, 100], [105, 110, 108], [105, 110, 114], [116, 114, 117, 101], [102, 97, 108, 115, 101], [105, 110, 116], [98, 111, 111, 108]]
def keyU (s : List UInt8) : Bool := keysU.contains s
/-- Digits as a number; none: above 2^63 - 1. -/
def numR : List UInt8 → Nat → Option Nat
  | [], n => some n
  | c :: l, n => if (9223372036854775807 - (c.toNat - 48)) / 10 < n then none else numR l (n * 10 + (c.toNat - 48))
structure SWord where
  kind : Int
  text : List UInt8
  num : Nat
  pos : Nat
inductive SRes where
  | word (kind : Int) (text : List UInt8) (num : Nat)
  | fault (code : Int) (text : List UInt8)
def headLet : List UInt8 → Bool
  | d :: _ => letU d
  | [] => false
def wordR : List UInt8 → SRes
  | [] => .fault 10 []
  | c :: l =>
    if letU c then
      if 64 < (c :: l.takeWhile (fun d => letU d || digU d)).length then .fault 3 (c :: l.takeWhile (fun d => letU d || digU d))
      else .word (if keyU (c :: l.takeWhile (fun d => letU d || digU d)) then 3 else 1) (c :: l.takeWhile (fun d => letU d || digU d)) 0
    else if digU c then
      match numR (c :: l.takeWhile digU) 0 with
      | none => .fault 3 (c :: l.takeWhile digU)
      | some n => if (1 < (c :: l.takeWhile digU).length ∧ c = 48) ∨ headLet (l.dropWhile digU) = true then .fault 10 (c :: l.takeWhile digU) else .word 2 (c :: l.takeWhile digU) n
    else if c = 45 ∧ l.head? = some 62 then .word 4 [45, 62] 0
    else if signU c then .word 4 [c] 0
    else .fault 10 [c]
def skipR : List UInt8 → Bool → List UInt8
  | [], _ => []
  | c :: l, rem => if c = 10 then skipR l false else if rem then skipR l true else if blankU c then skipR l false else if c = 35 then skipR l true else c :: l
/-- From the rest l of a text of N bytes on: the words, or the fault and its place. -/
def scanR : Nat → Nat → List UInt8 → Except (Int × Nat × List UInt8) (List SWord)
  | 0, _, _ => .ok []
  | f + 1, N, l => match skipR l false with
    | [] => .ok []
    | c :: m => match wordR (c :: m) with
      | .fault e s => .error (e, N - (c :: m).length, s)
      | .word k s n => match scanR f N ((c :: m).drop s.length) with
        | .error e => .error e
        | .ok ws => .ok (⟨k, s, n, N - (c :: m).length⟩ :: ws)

theorem skip_suffix (l : List UInt8) : ∀ rem, ∃ p, l = p ++ skipR l rem := by
  induction l with
  | nil => intro rem; exact ⟨[], rfl⟩
  | cons c l ih =>
    intro rem
    rw [skipR]
    have step : ∀ r, ∃ p, c :: l = p ++ skipR l r := fun r => by
      obtain ⟨p, hp⟩ := ih r
      exact ⟨c :: p, by rw [List.cons_append, ← hp]⟩
    split
    · exact step _
    · split
      · exact step _
      · split
        · exact step _
        · split
          · exact step _
          · exact ⟨[], rfl⟩
/-- What skip comes to is no blank and begins no remark. -/
def startU (c : UInt8) : Prop := c ≠ 10 ∧ blankU c = false ∧ c ≠ 35
theorem skip_start (l : List UInt8) : ∀ rem c m, skipR l rem = c :: m → startU c := by
  induction l with
  | nil => intro rem c m h; simp [skipR] at h
  | cons d l ih =>
    intro rem c m h
    rw [skipR] at h
    split at h
    · exact ih _ _ _ h
    · split at h
      · exact ih _ _ _ h
      · split at h
        · exact ih _ _ _ h
        · split at h
          · exact ih _ _ _ h
          · rename_i h1 h2 h3 h4
            injection h with h5 h6
            subst h5
            exact ⟨h1, by simpa using h3, h4⟩
theorem skip_at {c : UInt8} (h : startU c) (l : List UInt8) : skipR (c :: l) false = c :: l := by
  rw [skipR, if_neg h.1, if_neg (by simp), if_neg (by simp [h.2.1]), if_neg h.2.2]
/-- A word is what its rest begins with. -/
theorem word_prefix {l : List UInt8} {k : Int} {s : List UInt8} {n : Nat} (h : wordR l = .word k s n) : ∃ m, l = s ++ m ∧ s ≠ [] := by
  cases l with
  | nil => simp [wordR] at h
  | cons c l =>
    rw [wordR] at h
    split at h
    · split at h
      · simp at h
      · injection h with _ h _
        subst h
        exact ⟨l.dropWhile (fun d => letU d || digU d), by rw [List.cons_append, List.takeWhile_append_dropWhile], by simp⟩
    · split at h
      · split at h
        · simp at h
        · split at h
          · simp at h
          · injection h with _ h _
            subst h
            exact ⟨l.dropWhile digU, by rw [List.cons_append, List.takeWhile_append_dropWhile], by simp⟩
      · split at h
        · rename_i h2
          injection h with _ h _
          subst h
          obtain ⟨rfl, h3⟩ := h2
          cases l with
          | nil => simp at h3
          | cons d l => simp at h3; subst h3; exact ⟨l, rfl, by simp⟩
        · split at h
          · injection h with _ h _
            subst h
            exact ⟨l, rfl, by simp⟩
          · simp at h
theorem take_blank (p : UInt8 → Bool) (hp : p 32 = false) (x y : List UInt8) : (x ++ 32 :: y).takeWhile p = x.takeWhile p := by
  induction x with
  | nil => simp [List.takeWhile, hp]
  | cons c x ih => simp only [List.cons_append, List.takeWhile_cons]; split <;> simp [*]
theorem drop_blank (p : UInt8 → Bool) (hp : p 32 = false) (x y : List UInt8) : (x ++ 32 :: y).dropWhile p = x.dropWhile p ++ 32 :: y := by
  induction x with
  | nil => simp [List.dropWhile, hp]
  | cons c x ih => simp only [List.cons_append, List.dropWhile_cons]; split <;> simp [*]
theorem headLet_blank (x y : List UInt8) : headLet (x ++ 32 :: y) = headLet x := by
  cases x with
  | nil => rfl
  | cons c x => rfl
theorem head_blank (x y : List UInt8) : (x ++ 32 :: y).head? = some 62 ↔ x.head? = some 62 := by
  cases x with
  | nil => simp
  | cons c x => simp
/-- What stands behind a blank is nothing to the word ahead of it. -/
theorem word_blank (c : UInt8) (x y : List UInt8) : wordR (c :: (x ++ 32 :: y)) = wordR (c :: x) := by
  have p1 : (fun d => letU d || digU d) 32 = false := by decide
  have p2 : digU 32 = false := by decide
  rw [wordR, wordR, take_blank _ p1, take_blank _ p2, drop_blank _ p2, headLet_blank]
  simp only [head_blank]
theorem skip_blank (x : List UInt8) : ∀ rem, (∃ c m, skipR x rem = c :: m ∧ ∀ y, skipR (x ++ 32 :: y) rem = c :: (m ++ 32 :: y)) ∨ (skipR x rem = [] ∧ skipR (x ++ [32]) rem = []) := by
  induction x with
  | nil =>
    intro rem
    refine .inr ⟨rfl, ?_⟩
    cases rem <;> rfl
  | cons c x ih =>
    intro rem
    simp only [List.cons_append, skipR]
    by_cases h1 : c = 10
    · simp only [h1, if_true]; exact ih false
    · simp only [h1, if_false]
      by_cases h2 : rem = true
      · simp only [h2, if_true]; exact ih true
      · simp only [h2, if_false]
        by_cases h3 : blankU c = true
        · simp only [h3, if_true]; exact ih false
        · simp only [h3, if_false]
          by_cases h4 : c = 35
          · simp only [h4, if_true]; exact ih true
          · simp only [h4, if_false]
            exact .inl ⟨c, x, rfl, fun y => rfl⟩
/-- Words ahead of a blank: the same, and there, if there are any behind it. -/
theorem scan_ahead (y : List UInt8) : ∀ (f g : Nat) (x : List UInt8) (N M : Nat) (ms : List SWord), x.length < f → (x ++ 32 :: y).length < g → N - (x ++ [32]).length = M - (x ++ 32 :: y).length → (x ++ [32]).length ≤ N → (x ++ 32 :: y).length ≤ M → scanR g M (x ++ 32 :: y) = .ok ms →
    ∃ ls rs, scanR f N (x ++ [32]) = .ok ls ∧ ms = ls ++ rs := by
  intro f
  induction f with
  | zero => intro g x N M ms h; omega
  | succ f ih =>
    intro g x N M ms hf hg hNM hN hM hs
    obtain ⟨g, rfl⟩ : ∃ m, g = m + 1 := ⟨g - 1, by omega⟩
    rw [scanR]
    rcases skip_blank x false with ⟨c, m, h1, h2⟩ | ⟨h1, h2⟩
    · rw [h2 []]
      rw [scanR, h2 y] at hs
      simp only at hs ⊢
      rw [word_blank] at hs ⊢
      obtain ⟨p, hp⟩ := skip_suffix x false
      rw [h1] at hp
      have hlen := congrArg List.length hp
      simp at hlen
      cases hw : wordR (c :: m) with
      | fault e s => rw [hw] at hs; simp at hs
      | word k s n =>
        rw [hw] at hs
        simp only at hs ⊢
        obtain ⟨r, hr, hne⟩ := word_prefix hw
        have e1 : ∀ z : List UInt8, (c :: (m ++ 32 :: z)).drop s.length = r ++ 32 :: z := fun z => by
          rw [← List.cons_append, hr, List.append_assoc, List.drop_left]
        have hs1 : 0 < s.length := List.length_pos_iff.2 hne
        have hl2 := congrArg List.length hr
        simp at hl2
        rw [e1 []]
        rw [e1 y] at hs
        cases hq : scanR g M (r ++ 32 :: y) with
        | error e => rw [hq] at hs; simp at hs
        | ok qs =>
          rw [hq] at hs
          simp only [Except.ok.injEq] at hs
          simp only [List.length_append, List.length_cons, List.length_nil] at hf hg hNM hN hM hl2 hlen
          obtain ⟨ls, rs, h3, h4⟩ := ih g r N M qs (by omega) (by simp only [List.length_append, List.length_cons]; omega) (by simp only [List.length_append, List.length_cons, List.length_nil]; omega) (by simp only [List.length_append, List.length_cons, List.length_nil]; omega) (by simp only [List.length_append, List.length_cons]; omega) hq
          rw [h3]
          refine ⟨_, rs, rfl, ?_⟩
          rw [← hs, h4, List.cons_append]
          congr 2
          simp only [List.length_append, List.length_cons, List.length_nil]
          omega
    · rw [h2]
      exact ⟨[], ms, rfl, rfl⟩
/-! ### parted words -/
theorem takeWhile_idem (p : UInt8 → Bool) (l : List UInt8) : (l.takeWhile p).takeWhile p = l.takeWhile p := by
  induction l with
  | nil => rfl
  | cons c l ih => simp only [List.takeWhile_cons]; split <;> simp [*]
theorem dropWhile_take (p : UInt8 → Bool) (l : List UInt8) : (l.takeWhile p).dropWhile p = [] := by
  induction l with
  | nil => rfl
  | cons c l ih => simp only [List.takeWhile_cons]; split <;> simp [*]
/-- A word alone is the same word. -/
theorem word_again {l : List UInt8} {k : Int} {s : List UInt8} {n : Nat} (h : wordR l = .word k s n) : wordR s = .word k s n := by
  cases l with
  | nil => simp [wordR] at h
  | cons c l =>
    rw [wordR] at h
    by_cases h1 : letU c = true
    · rw [if_pos h1] at h
      split at h
      · simp at h
      · rename_i h2
        injection h with hk hs hn
        subst hk hs hn
        rw [wordR, if_pos h1, takeWhile_idem, if_neg h2]
    · rw [if_neg h1] at h
      by_cases h2 : digU c = true
      · rw [if_pos h2] at h
        split at h
        · simp at h
        · rename_i m hm
          split at h
          · simp at h
          · rename_i h3
            injection h with hk hs hn
            subst hk hs hn
            rw [wordR, if_neg h1, if_pos h2, takeWhile_idem, hm, dropWhile_take]
            simp only
            rw [if_neg]
            intro h4
            rcases h4 with h4 | h4
            · exact h3 (.inl h4)
            · simp [headLet] at h4
      · rw [if_neg h2] at h
        split at h
        · rename_i h3
          injection h with hk hs hn
          subst hk hs hn
          rfl
        · split at h
          · rename_i h3 h4
            injection h with hk hs hn
            subst hk hs hn
            rw [wordR, if_neg h1, if_neg h2, if_neg (by simp), if_pos h4]
          · simp at h
structure GoodW (w : SWord) : Prop where
  word : wordR w.text = .word w.kind w.text w.num
  start : ∃ c m, w.text = c :: m ∧ startU c
def partedR (L : List UInt8) : Nat → List SWord → Prop
  | _, [] => True
  | a, w :: ws => a ≤ w.pos ∧ GoodW w ∧ (∃ m, L.drop w.pos = w.text ++ m) ∧ partedR L (w.pos + w.text.length) ws
theorem scan_parted (L : List UInt8) : ∀ (f : Nat) (p l : List UInt8) (ws : List SWord), L = p ++ l → l.length < f → scanR f L.length l = .ok ws → partedR L p.length ws := by
  intro f
  induction f with
  | zero => intro p l ws _ h; omega
  | succ f ih =>
    intro p l ws hL hf hs
    rw [scanR] at hs
    obtain ⟨q, hq⟩ := skip_suffix l false
    cases h1 : skipR l false with
    | nil => rw [h1] at hs; simp at hs; subst hs; trivial
    | cons c m =>
      rw [h1] at hs hq
      simp only at hs
      cases hw : wordR (c :: m) with
      | fault e s => rw [hw] at hs; simp at hs
      | word k s n =>
        rw [hw] at hs
        simp only at hs
        obtain ⟨r, hr, hne⟩ := word_prefix hw
        cases hz : scanR f L.length ((c :: m).drop s.length) with
        | error e => rw [hz] at hs; simp at hs
        | ok qs =>
          rw [hz] at hs
          simp only [Except.ok.injEq] at hs
          subst hs
          have hlL := congrArg List.length hL
          have hlq := congrArg List.length hq
          have hlr := congrArg List.length hr
          have hs0 : 0 < s.length := List.length_pos_iff.2 hne
          simp only [List.length_append, List.length_cons] at hlL hlq hlr
          have hpos : L.length - (c :: m).length = (p ++ q).length := by simp only [List.length_append, List.length_cons]; omega
          have e1 : (c :: m).drop s.length = r := by rw [hr, List.drop_left]
          rw [e1] at hz
          refine ⟨?_, ⟨word_again hw, ?_⟩, ⟨r, ?_⟩, ?_⟩
          · show p.length ≤ L.length - (c :: m).length
            rw [hpos, List.length_append]; omega
          · show ∃ c m, s = c :: m ∧ startU c
            cases s with
            | nil => exact absurd rfl hne
            | cons d s =>
              injection hr with h5 h6
              subst h5
              exact ⟨_, s, rfl, skip_start _ _ _ _ h1⟩
          · show L.drop (L.length - (c :: m).length) = s ++ r
            have hLe : L = (p ++ q) ++ (c :: m) := by rw [hL, hq, List.append_assoc]
            have e2 : (p ++ q ++ (c :: m)).length - (c :: m).length = (p ++ q).length := by simp only [List.length_append, List.length_cons]; omega
            rw [hLe, e2, List.drop_left, hr]
          · have h9 := ih (p ++ q ++ s) r qs (by rw [hL, hq, hr]; simp [List.append_assoc]) (by omega) hz
            have e3 : (p ++ q ++ s).length = L.length - (c :: m).length + s.length := by rw [hpos]; simp only [List.length_append]
            rwa [e3] at h9
def joinR : List SWord → List UInt8
  | [] => []
  | w :: ws => w.text ++ 32 :: joinR ws
def sameR (a b : SWord) : Prop := a.kind = b.kind ∧ a.text = b.text ∧ a.num = b.num
inductive AllSame : List SWord → List SWord → Prop
  | nil : AllSame [] []
  | cons {a b xs ys} : sameR a b → AllSame xs ys → AllSame (a :: xs) (b :: ys)
theorem skip_one_blank (l : List UInt8) : skipR (32 :: l) false = skipR l false := by rw [skipR]; simp [blankU]
theorem scan_skip (f N : Nat) (l : List UInt8) : scanR (f + 1) N (32 :: l) = scanR (f + 1) N l := by rw [scanR, scanR, skip_one_blank]
theorem scan_join (L : List UInt8) : ∀ (ws : List SWord) (a N f : Nat), partedR L a ws → (joinR ws).length < f → ∃ vs, scanR f N (joinR ws) = .ok vs ∧ AllSame vs ws := by
  intro ws
  induction ws with
  | nil =>
    intro a N f _ hf
    obtain ⟨f, rfl⟩ : ∃ m, f = m + 1 := ⟨f - 1, by omega⟩
    exact ⟨[], rfl, .nil⟩
  | cons w ws ih =>
    intro a N f hp hf
    obtain ⟨f, rfl⟩ : ∃ m, f = m + 1 := ⟨f - 1, by omega⟩
    obtain ⟨_, hg, _, hp2⟩ := hp
    obtain ⟨c, m, hcm, hst⟩ := hg.start
    have hw := hg.word
    simp only [joinR, List.length_append, List.length_cons] at hf ⊢
    rw [hcm] at hw hf ⊢
    rw [scanR, List.cons_append, skip_at hst]
    simp only
    rw [word_blank, hw]
    simp only
    have e1 : (c :: (m ++ 32 :: joinR ws)).drop (c :: m).length = 32 :: joinR ws := by rw [← List.cons_append, List.drop_left]
    rw [e1]
    simp only [List.length_cons] at hf
    obtain ⟨g, rfl⟩ : ∃ g, f = g + 1 := ⟨f - 1, by omega⟩
    rw [scan_skip]
    obtain ⟨vs, h1, h2⟩ := ih _ N (g + 1) hp2 (by omega)
    rw [h1]
    exact ⟨_, rfl, .cons ⟨rfl, hcm.symm, rfl⟩ h2⟩
end Go.Proofs.YtjmpejbciniceaaDoor.X
