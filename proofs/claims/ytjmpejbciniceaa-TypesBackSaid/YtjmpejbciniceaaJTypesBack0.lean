/- Texts of this claim, joined: PureScan, PureScanA, X0, HNodes, X1. -/
import Derived.Test.YtjmpejbciniceaaProg
import Derived.Below
import Derived.Deep.Draws
import Derived.Deep.AppendLies
import Derived.Maps.AppendAt
import Derived.OwnWalk
import Derived.Laws.BytesArg
import Derived.Laws.MakeOwn
import Derived.Laws.OwnMore
import Derived.Deep.OwnRows
import Derived.Tactics
import Derived.Lib.ConvBytes
import Derived.Laws.Slices
import Derived.WalkKit
import Derived.KernelRfl
import Derived.RowKit3
import Derived.Deep.LoopGhost
import Derived.Deep.QuietTactic
import Derived.BigQuiet
import Derived.WideLaws
import Derived.Deep.DeepCutAuto
import Derived.Deep.CutBlock
import Derived.Deep.RegionHeld3
import Derived.Laws.Rows
import Derived.Lib.AppendStr
import Derived.ArgAppend
import Derived.Laws.IdiomCopy
import Derived.OrdersHeld
import Derived.Laws.BitsLemmas
import Derived.RowKit
import Derived.Test.YtjmpejbciniceaaWWords
import Derived.Test.YtjmpejbciniceaaWLast
import Derived.Test.YtjmpejbciniceaaWTab
import Derived.Test.YtjmpejbciniceaaWFour
import Derived.Test.YtjmpejbciniceaaWQPut
import Derived.Test.YtjmpejbciniceaaWApart
import Derived.Test.YtjmpejbciniceaaWArr
import Derived.Test.YtjmpejbciniceaaWZeros
import Derived.Test.YtjmpejbciniceaaWFoot
import Derived.Test.YtjmpejbciniceaaWKept
import Derived.Test.YtjmpejbciniceaaWShare
import Derived.Test.YtjmpejbciniceaaWN
import Derived.Test.YtjmpejbciniceaaWFootNe
import Derived.Test.YtjmpejbciniceaaWAt
import Derived.Test.YtjmpejbciniceaaWEqStruct
import Derived.Test.YtjmpejbciniceaaWRepsOne
import Derived.Test.YtjmpejbciniceaaWInv
import Derived.Test.YtjmpejbciniceaaWInvWords
import Derived.Test.YtjmpejbciniceaaWGuard
import Derived.Test.YtjmpejbciniceaaWNEv
import Derived.Test.YtjmpejbciniceaaWMore
import Derived.Defers
import Derived.Recover
import Derived.Laws.Pointers
import Derived.Outline
import Derived.WalkLawsBesides
/- What scan.All answers, over lists of bytes; its two plain laws: what stands behind a blank changes nothing ahead of it, and words with blanks between are the same words again. -/
namespace Go.Proofs.Ytjmpejbciniceaa.X
set_option linter.unusedVariables false
set_option linter.unusedSimpArgs false

def letU (c : UInt8) : Bool := (decide (65 ≤ c) && decide (c ≤ 90)) || (decide (97 ≤ c) && decide (c ≤ 122)) || c == 95
def digU (c : UInt8) : Bool := decide (48 ≤ c) && decide (c ≤ 57)
def blankU (c : UInt8) : Bool := c == 32 || c == 9 || c == 13
def signsU : List UInt8 := [92, 46, 58, 61, 40, 41, 91, 93, 123, 125, 44, 124, 43, 45, 42, 47, 60, 62, 63, 59]
def signU (c : UInt8) : Bool := signsU.contains c
def keysU : List (List UInt8) := [[108, 101, 116], [105, 110], [105, 102], [116, 104, 101, 110], [101, 108, 115, 101], [114, 101, 99], [99, 97, 115, 101], [111, 102], [102, 115, 116], [115, 110, 100], [105, 110, 108], [105, 110, 114], [116, 114, 117, 101], [102, 97, 108, 115, 101], [105, 110, 116], [98, 111, 111, 108]]
def keyU (s : List UInt8) : Bool := keysU.contains s
/-- Digits as a number; none: above 2^63 - 1. -/
def numR : List UInt8 → Nat → Option Nat
  | [], n => some n
  | c :: l, n => if (9223372036854775807 - (c.toNat - 48)) / 10 < n then none else numR l (n * 10 + (c.toNat - 48))
structure SWord where
  kind : Int
  text : List UInt8
  num : Nat
  pos : Nat
inductive SRes where
  | word (kind : Int) (text : List UInt8) (num : Nat)
  | fault (code : Int) (text : List UInt8)
def headLet : List UInt8 → Bool
  | d :: _ => letU d
  | [] => false
def wordR : List UInt8 → SRes
  | [] => .fault 10 []
  | c :: l =>
    if letU c then
      if 64 < (c :: l.takeWhile (fun d => letU d || digU d)).length then .fault 3 (c :: l.takeWhile (fun d => letU d || digU d))
      else .word (if keyU (c :: l.takeWhile (fun d => letU d || digU d)) then 3 else 1) (c :: l.takeWhile (fun d => letU d || digU d)) 0
    else if digU c then
      match numR (c :: l.takeWhile digU) 0 with
      | none => .fault 3 (c :: l.takeWhile digU)
      | some n => if (1 < (c :: l.takeWhile digU).length ∧ c = 48) ∨ headLet (l.dropWhile digU) = true then .fault 10 (c :: l.takeWhile digU) else .word 2 (c :: l.takeWhile digU) n
    else if c = 45 ∧ l.head? = some 62 then .word 4 [45, 62] 0
    else if signU c then .word 4 [c] 0
    else .fault 10 [c]
def skipR : List UInt8 → Bool → List UInt8
  | [], _ => []
  | c :: l, rem => if c = 10 then skipR l false else if rem then skipR l true else if blankU c then skipR l false else if c = 35 then skipR l true else c :: l
/-- From the rest l of a text of N bytes on: the words, or the fault and its place. -/
def scanR : Nat → Nat → List UInt8 → Except (Int × Nat × List UInt8) (List SWord)
  | 0, _, _ => .ok []
  | f + 1, N, l => match skipR l false with
    | [] => .ok []
    | c :: m => match wordR (c :: m) with
      | .fault e s => .error (e, N - (c :: m).length, s)
      | .word k s n => match scanR f N ((c :: m).drop s.length) with
        | .error e => .error e
        | .ok ws => .ok (⟨k, s, n, N - (c :: m).length⟩ :: ws)

theorem skip_suffix (l : List UInt8) : ∀ rem, ∃ p, l = p ++ skipR l rem := by
  induction l with
  | nil => intro rem; exact ⟨[], rfl⟩
  | cons c l ih =>
    intro rem
    rw [skipR]
    have step : ∀ r, ∃ p, c :: l = p ++ skipR l r := fun r => by
      obtain ⟨p, hp⟩ := ih r
      exact ⟨c :: p, by rw [List.cons_append, ← hp]⟩
    split
    · exact step _
    · split
      · exact step _
      · split
        · exact step _
        · split
          · exact step _
          · exact ⟨[], rfl⟩
/-- What skip comes to is no blank and begins no remark. -/
def startU (c : UInt8) : Prop := c ≠ 10 ∧ blankU c = false ∧ c ≠ 35
theorem skip_start (l : List UInt8) : ∀ rem c m, skipR l rem = c :: m → startU c := by
  induction l with
  | nil => intro rem c m h; simp [skipR] at h
  | cons d l ih =>
    intro rem c m h
    rw [skipR] at h
    split at h
    · exact ih _ _ _ h
    · split at h
      · exact ih _ _ _ h
      · split at h
        · exact ih _ _ _ h
        · split at h
          · exact ih _ _ _ h
          · rename_i h1 h2 h3 h4
            injection h with h5 h6
            subst h5
            exact ⟨h1, by simpa using h3, h4⟩
theorem skip_at {c : UInt8} (h : startU c) (l : List UInt8) : skipR (c :: l) false = c :: l := by
  rw [skipR, if_neg h.1, if_neg (by simp), if_neg (by simp [h.2.1]), if_neg h.2.2]
/-- A word is what its rest begins with. -/
theorem word_prefix {l : List UInt8} {k : Int} {s : List UInt8} {n : Nat} (h : wordR l = .word k s n) : ∃ m, l = s ++ m ∧ s ≠ [] := by
  cases l with
  | nil => simp [wordR] at h
  | cons c l =>
    rw [wordR] at h
    split at h
    · split at h
      · simp at h
      · injection h with _ h _
        subst h
        exact ⟨l.dropWhile (fun d => letU d || digU d), by rw [List.cons_append, List.takeWhile_append_dropWhile], by simp⟩
    · split at h
      · split at h
        · simp at h
        · split at h
          · simp at h
          · injection h with _ h _
            subst h
            exact ⟨l.dropWhile digU, by rw [List.cons_append, List.takeWhile_append_dropWhile], by simp⟩
      · split at h
        · rename_i h2
          injection h with _ h _
          subst h
          obtain ⟨rfl, h3⟩ := h2
          cases l with
          | nil => simp at h3
          | cons d l => simp at h3; subst h3; exact ⟨l, rfl, by simp⟩
        · split at h
          · injection h with _ h _
            subst h
            exact ⟨l, rfl, by simp⟩
          · simp at h
theorem take_blank (p : UInt8 → Bool) (hp : p 32 = false) (x y : List UInt8) : (x ++ 32 :: y).takeWhile p = x.takeWhile p := by
  induction x with
  | nil => simp [List.takeWhile, hp]
  | cons c x ih => simp only [List.cons_append, List.takeWhile_cons]; split <;> simp [*]
theorem drop_blank (p : UInt8 → Bool) (hp : p 32 = false) (x y : List UInt8) : (x ++ 32 :: y).dropWhile p = x.dropWhile p ++ 32 :: y := by
  induction x with
  | nil => simp [List.dropWhile, hp]
  | cons c x ih => simp only [List.cons_append, List.dropWhile_cons]; split <;> simp [*]
theorem headLet_blank (x y : List UInt8) : headLet (x ++ 32 :: y) = headLet x := by
  cases x with
  | nil => rfl
  | cons c x => rfl
theorem head_blank (x y : List UInt8) : (x ++ 32 :: y).head? = some 62 ↔ x.head? = some 62 := by
  cases x with
  | nil => simp
  | cons c x => simp
/-- What stands behind a blank is nothing to the word ahead of it. -/
theorem word_blank (c : UInt8) (x y : List UInt8) : wordR (c :: (x ++ 32 :: y)) = wordR (c :: x) := by
  have p1 : (fun d => letU d || digU d) 32 = false := by decide
  have p2 : digU 32 = false := by decide
  rw [wordR, wordR, take_blank _ p1, take_blank _ p2, drop_blank _ p2, headLet_blank]
  simp only [head_blank]
theorem skip_blank (x : List UInt8) : ∀ rem, (∃ c m, skipR x rem = c :: m ∧ ∀ y, skipR (x ++ 32 :: y) rem = c :: (m ++ 32 :: y)) ∨ (skipR x rem = [] ∧ skipR (x ++ [32]) rem = []) := by
  induction x with
  | nil =>
    intro rem
    refine .inr ⟨rfl, ?_⟩
    cases rem <;> rfl
  | cons c x ih =>
    intro rem
    simp only [List.cons_append, skipR]
    by_cases h1 : c = 10
    · simp only [h1, if_true]; exact ih false
    · simp only [h1, if_false]
      by_cases h2 : rem = true
      · simp only [h2, if_true]; exact ih true
      · simp only [h2, if_false]
        by_cases h3 : blankU c = true
        · simp only [h3, if_true]; exact ih false
        · simp only [h3, if_false]
          by_cases h4 : c = 35
          · simp only [h4, if_true]; exact ih true
          · simp only [h4, if_false]
            exact .inl ⟨c, x, rfl, fun y => rfl⟩
/-- Words ahead of a blank: the same, and there, if there are any behind it. -/
theorem scan_ahead (y : List UInt8) : ∀ (f g : Nat) (x : List UInt8) (N M : Nat) (ms : List SWord), x.length < f → (x ++ 32 :: y).length < g → N - (x ++ [32]).length = M - (x ++ 32 :: y).length → (x ++ [32]).length ≤ N → (x ++ 32 :: y).length ≤ M → scanR g M (x ++ 32 :: y) = .ok ms →
    ∃ ls rs, scanR f N (x ++ [32]) = .ok ls ∧ ms = ls ++ rs := by
  intro f
  induction f with
  | zero => intro g x N M ms h; omega
  | succ f ih =>
    intro g x N M ms hf hg hNM hN hM hs
    obtain ⟨g, rfl⟩ : ∃ m, g = m + 1 := ⟨g - 1, by omega⟩
    rw [scanR]
    rcases skip_blank x false with ⟨c, m, h1, h2⟩ | ⟨h1, h2⟩
    · rw [h2 []]
      rw [scanR, h2 y] at hs
      simp only at hs ⊢
      rw [word_blank] at hs ⊢
      obtain ⟨p, hp⟩ := skip_suffix x false
      rw [h1] at hp
      have hlen := congrArg List.length hp
      simp at hlen
      cases hw : wordR (c :: m) with
      | fault e s => rw [hw] at hs; simp at hs
      | word k s n =>
        rw [hw] at hs
        simp only at hs ⊢
        obtain ⟨r, hr, hne⟩ := word_prefix hw
        have e1 : ∀ z : List UInt8, (c :: (m ++ 32 :: z)).drop s.length = r ++ 32 :: z := fun z => by
          rw [← List.cons_append, hr, List.append_assoc, List.drop_left]
        have hs1 : 0 < s.length := List.length_pos_iff.2 hne
        have hl2 := congrArg List.length hr
        simp at hl2
        rw [e1 []]
        rw [e1 y] at hs
        cases hq : scanR g M (r ++ 32 :: y) with
        | error e => rw [hq] at hs; simp at hs
        | ok qs =>
          rw [hq] at hs
          simp only [Except.ok.injEq] at hs
          simp only [List.length_append, List.length_cons, List.length_nil] at hf hg hNM hN hM hl2 hlen
          obtain ⟨ls, rs, h3, h4⟩ := ih g r N M qs (by omega) (by simp only [List.length_append, List.length_cons]; omega) (by simp only [List.length_append, List.length_cons, List.length_nil]; omega) (by simp only [List.length_append, List.length_cons, List.length_nil]; omega) (by simp only [List.length_append, List.length_cons]; omega) hq
          rw [h3]
          refine ⟨_, rs, rfl, ?_⟩
          rw [← hs, h4, List.cons_append]
          congr 2
          simp only [List.length_append, List.length_cons, List.length_nil]
          omega
    · rw [h2]
      exact ⟨[], ms, rfl, rfl⟩
/-! ### parted words -/
theorem takeWhile_idem (p : UInt8 → Bool) (l : List UInt8) : (l.takeWhile p).takeWhile p = l.takeWhile p := by
  induction l with
  | nil => rfl
  | cons c l ih => simp only [List.takeWhile_cons]; split <;> simp [*]
theorem dropWhile_take (p : UInt8 → Bool) (l : List UInt8) : (l.takeWhile p).dropWhile p = [] := by
  induction l with
  | nil => rfl
  | cons c l ih => simp only [List.takeWhile_cons]; split <;> simp [*]
/-- A word alone is the same word. -/
theorem word_again {l : List UInt8} {k : Int} {s : List UInt8} {n : Nat} (h : wordR l = .word k s n) : wordR s = .word k s n := by
  cases l with
  | nil => simp [wordR] at h
  | cons c l =>
    rw [wordR] at h
    by_cases h1 : letU c = true
    · rw [if_pos h1] at h
      split at h
      · simp at h
      · rename_i h2
        injection h with hk hs hn
        subst hk hs hn
        rw [wordR, if_pos h1, takeWhile_idem, if_neg h2]
    · rw [if_neg h1] at h
      by_cases h2 : digU c = true
      · rw [if_pos h2] at h
        split at h
        · simp at h
        · rename_i m hm
          split at h
          · simp at h
          · rename_i h3
            injection h with hk hs hn
            subst hk hs hn
            rw [wordR, if_neg h1, if_pos h2, takeWhile_idem, hm, dropWhile_take]
            simp only
            rw [if_neg]
            intro h4
            rcases h4 with h4 | h4
            · exact h3 (.inl h4)
            · simp [headLet] at h4
      · rw [if_neg h2] at h
        split at h
        · rename_i h3
          injection h with hk hs hn
          subst hk hs hn
          rfl
        · split at h
          · rename_i h3 h4
            injection h with hk hs hn
            subst hk hs hn
            rw [wordR, if_neg h1, if_neg h2, if_neg (by simp), if_pos h4]
          · simp at h
structure GoodW (w : SWord) : Prop where
  word : wordR w.text = .word w.kind w.text w.num
  start : ∃ c m, w.text = c :: m ∧ startU c
def partedR (L : List UInt8) : Nat → List SWord → Prop
  | _, [] => True
  | a, w :: ws => a ≤ w.pos ∧ GoodW w ∧ (∃ m, L.drop w.pos = w.text ++ m) ∧ partedR L (w.pos + w.text.length) ws
theorem scan_parted (L : List UInt8) : ∀ (f : Nat) (p l : List UInt8) (ws : List SWord), L = p ++ l → l.length < f → scanR f L.length l = .ok ws → partedR L p.length ws := by
  intro f
  induction f with
  | zero => intro p l ws _ h; omega
  | succ f ih =>
    intro p l ws hL hf hs
    rw [scanR] at hs
    obtain ⟨q, hq⟩ := skip_suffix l false
    cases h1 : skipR l false with
    | nil => rw [h1] at hs; simp at hs; subst hs; trivial
    | cons c m =>
      rw [h1] at hs hq
      simp only at hs
      cases hw : wordR (c :: m) with
      | fault e s => rw [hw] at hs; simp at hs
      | word k s n =>
        rw [hw] at hs
        simp only at hs
        obtain ⟨r, hr, hne⟩ := word_prefix hw
        cases hz : scanR f L.length ((c :: m).drop s.length) with
        | error e => rw [hz] at hs; simp at hs
        | ok qs =>
          rw [hz] at hs
          simp only [Except.ok.injEq] at hs
          subst hs
          have hlL := congrArg List.length hL
          have hlq := congrArg List.length hq
          have hlr := congrArg List.length hr
          have hs0 : 0 < s.length := List.length_pos_iff.2 hne
          simp only [List.length_append, List.length_cons] at hlL hlq hlr
          have hpos : L.length - (c :: m).length = (p ++ q).length := by simp only [List.length_append, List.length_cons]; omega
          have e1 : (c :: m).drop s.length = r := by rw [hr, List.drop_left]
          rw [e1] at hz
          refine ⟨?_, ⟨word_again hw, ?_⟩, ⟨r, ?_⟩, ?_⟩
          · show p.length ≤ L.length - (c :: m).length
            rw [hpos, List.length_append]; omega
          · show ∃ c m, s = c :: m ∧ startU c
            cases s with
            | nil => exact absurd rfl hne
            | cons d s =>
              injection hr with h5 h6
              subst h5
              exact ⟨_, s, rfl, skip_start _ _ _ _ h1⟩
          · show L.drop (L.length - (c :: m).length) = s ++ r
            have hLe : L = (p ++ q) ++ (c :: m) := by rw [hL, hq, List.append_assoc]
            have e2 : (p ++ q ++ (c :: m)).length - (c :: m).length = (p ++ q).length := by simp only [List.length_append, List.length_cons]; omega
            rw [hLe, e2, List.drop_left, hr]
          · have h9 := ih (p ++ q ++ s) r qs (by rw [hL, hq, hr]; simp [List.append_assoc]) (by omega) hz
            have e3 : (p ++ q ++ s).length = L.length - (c :: m).length + s.length := by rw [hpos]; simp only [List.length_append]
            rwa [e3] at h9
def joinR : List SWord → List UInt8
  | [] => []
  | w :: ws => w.text ++ 32 :: joinR ws
def sameR (a b : SWord) : Prop := a.kind = b.kind ∧ a.text = b.text ∧ a.num = b.num
inductive AllSame : List SWord → List SWord → Prop
  | nil : AllSame [] []
  | cons {a b xs ys} : sameR a b → AllSame xs ys → AllSame (a :: xs) (b :: ys)
theorem skip_one_blank (l : List UInt8) : skipR (32 :: l) false = skipR l false := by rw [skipR]; simp [blankU]
theorem scan_skip (f N : Nat) (l : List UInt8) : scanR (f + 1) N (32 :: l) = scanR (f + 1) N l := by rw [scanR, scanR, skip_one_blank]
theorem scan_join (L : List UInt8) : ∀ (ws : List SWord) (a N f : Nat), partedR L a ws → (joinR ws).length < f → ∃ vs, scanR f N (joinR ws) = .ok vs ∧ AllSame vs ws := by
  intro ws
  induction ws with
  | nil =>
    intro a N f _ hf
    obtain ⟨f, rfl⟩ : ∃ m, f = m + 1 := ⟨f - 1, by omega⟩
    exact ⟨[], rfl, .nil⟩
  | cons w ws ih =>
    intro a N f hp hf
    obtain ⟨f, rfl⟩ : ∃ m, f = m + 1 := ⟨f - 1, by omega⟩
    obtain ⟨_, hg, _, hp2⟩ := hp
    obtain ⟨c, m, hcm, hst⟩ := hg.start
    have hw := hg.word
    simp only [joinR, List.length_append, List.length_cons] at hf ⊢
    rw [hcm] at hw hf ⊢
    rw [scanR, List.cons_append, skip_at hst]
    simp only
    rw [word_blank, hw]
    simp only
    have e1 : (c :: (m ++ 32 :: joinR ws)).drop (c :: m).length = 32 :: joinR ws := by rw [← List.cons_append, List.drop_left]
    rw [e1]
    simp only [List.length_cons] at hf
    obtain ⟨g, rfl⟩ : ∃ g, f = g + 1 := ⟨f - 1, by omega⟩
    rw [scan_skip]
    obtain ⟨vs, h1, h2⟩ := ih _ N (g + 1) hp2 (by omega)
    rw [h1]
    exact ⟨_, rfl, .cons ⟨rfl, hcm.symm, rfl⟩ h2⟩
end Go.Proofs.Ytjmpejbciniceaa.X
/- scan over lists: from the rest of a text on. -/
namespace Go.Proofs.Ytjmpejbciniceaa.X
set_option linter.unusedVariables false
set_option linter.unusedSimpArgs false

theorem skip_len (l : List UInt8) (rem : Bool) : (skipR l rem).length ≤ l.length := by
  obtain ⟨p, hp⟩ := skip_suffix l rem
  have := congrArg List.length hp
  rw [List.length_append] at this
  omega
theorem scan_fuel : ∀ (f g N : Nat) (l : List UInt8), l.length < f → l.length < g → scanR f N l = scanR g N l := by
  intro f
  induction f with
  | zero => intro g N l h; omega
  | succ f ih =>
    intro g N l hf hg
    obtain ⟨g, rfl⟩ : ∃ m, g = m + 1 := ⟨g - 1, by omega⟩
    rw [scanR, scanR]
    have hs := skip_len l false
    cases h1 : skipR l false with
    | nil => rfl
    | cons c m =>
      rw [h1] at hs
      simp only [List.length_cons] at hs
      simp only
      cases hw : wordR (c :: m) with
      | fault e s => rfl
      | word k s n =>
        simp only
        obtain ⟨r, hr, hne⟩ := word_prefix hw
        have h0 : 0 < s.length := List.length_pos_iff.2 hne
        have hd : ((c :: m).drop s.length).length < c.toNat + m.length + 1 := by rw [List.length_drop, List.length_cons]; omega
        have hd2 : ((c :: m).drop s.length).length ≤ m.length := by rw [List.length_drop, List.length_cons]; omega
        rw [ih g N _ (by omega) (by omega)]
def scanA (N : Nat) (l : List UInt8) : Except (Int × Nat × List UInt8) (List SWord) := scanR (l.length + 1) N l
def preS (ws : List SWord) : Except (Int × Nat × List UInt8) (List SWord) → Except (Int × Nat × List UInt8) (List SWord)
  | .error e => .error e
  | .ok vs => .ok (ws ++ vs)
theorem pre_nil (r : Except (Int × Nat × List UInt8) (List SWord)) : preS [] r = r := by cases r <;> rfl
theorem pre_pre (a b : List SWord) (r : Except (Int × Nat × List UInt8) (List SWord)) : preS a (preS b r) = preS (a ++ b) r := by
  cases r with
  | error e => rfl
  | ok vs => simp [preS]
theorem scanA_blank (N : Nat) (l : List UInt8) : scanA N (32 :: l) = scanA N l := by
  unfold scanA
  rw [List.length_cons, scan_skip]
  exact scan_fuel _ _ _ _ (by omega) (by omega)
theorem scanA_word {N : Nat} {c : UInt8} {m s r : List UInt8} {k : Int} {n : Nat} (hc : startU c) (hw : wordR (c :: m) = .word k s n) (hr : c :: m = s ++ r) : ∃ p, scanA N (c :: m) = preS [⟨k, s, n, p⟩] (scanA N r) := by
  refine ⟨N - (c :: m).length, ?_⟩
  unfold scanA
  rw [scanR, skip_at hc]
  simp only
  rw [hw]
  simp only
  have e : (c :: m).drop s.length = r := by rw [hr, List.drop_left]
  obtain ⟨_, _, hne⟩ := word_prefix hw
  have h0 : 0 < s.length := List.length_pos_iff.2 hne
  have hl := congrArg List.length hr
  rw [List.length_append] at hl
  rw [e, scan_fuel (c :: m).length (r.length + 1) N r (by omega) (by omega)]
  cases scanR (r.length + 1) N r <;> rfl
theorem scanA_step {N : Nat} {c : UInt8} {m : List UInt8} (hc : startU c) : scanA N (c :: m) = match wordR (c :: m) with
    | .fault e t => .error (e, N - (c :: m).length, t)
    | .word k t n => preS [⟨k, t, n, N - (c :: m).length⟩] (scanA N ((c :: m).drop t.length)) := by
  cases hw : wordR (c :: m) with
  | fault e t =>
    unfold scanA
    rw [scanR, skip_at hc]
    simp only [hw]
  | word k s n =>
    obtain ⟨r, hr, hne⟩ := word_prefix hw
    have e : (c :: m).drop s.length = r := by rw [hr, List.drop_left]
    have h0 : 0 < s.length := List.length_pos_iff.2 hne
    have hl := congrArg List.length hr
    rw [List.length_append] at hl
    unfold scanA
    rw [scanR, skip_at hc]
    simp only [hw]
    rw [e, scan_fuel (c :: m).length (r.length + 1) N r (by omega) (by omega)]
    cases scanR (r.length + 1) N r <;> rfl
theorem skip_idem (l : List UInt8) : skipR (skipR l false) false = skipR l false := by
  cases h : skipR l false with
  | nil => rfl
  | cons c m => exact skip_at (skip_start l _ _ _ h) m
theorem scanA_skip (N : Nat) (l : List UInt8) : scanA N (skipR l false) = scanA N l := by
  unfold scanA
  rw [scan_fuel ((skipR l false).length + 1) (l.length + 1) N _ (by omega) (by have := skip_len l false; omega)]
  rw [scanR, scanR, skip_idem]
theorem scanA_nil (N : Nat) : scanA N [] = .ok [] := rfl
theorem skip_drop (l : List UInt8) : l.drop (l.length - (skipR l false).length) = skipR l false := by
  obtain ⟨p, hp⟩ := skip_suffix l false
  have hl := congrArg List.length hp
  rw [List.length_append] at hl
  conv => lhs; arg 2; rw [hp]
  rw [show l.length - (skipR l false).length = p.length from by omega]
  exact List.drop_left
end Go.Proofs.Ytjmpejbciniceaa.X
-- Written by xprint.py, a program of this session that drives the kit's print beside contracts proved by hand. Lean checks it.
namespace Go.Proofs.Ytjmpejbciniceaa.X
open Go.RowKit Go.Proofs.YtjmpejbciniceaaW.PrintWords Go.Proofs.YtjmpejbciniceaaW.PrintLast Go.Proofs.YtjmpejbciniceaaW.PrintMore
attribute [local go_sem] max2_int min2_int max_two min_two max_three min_three max_four min_four   -- for this text's walks alone
set_option linter.unusedVariables false
set_option linter.unusedSimpArgs false



def errW : Option Int → Value
  | none => .nilIface
  | some c => .iface 0 (.int .i64 c)
theorem errW_none : errW none = .nilIface := rfl
theorem errW_some (c : Int) : errW (some c) = .iface 0 (.int .i64 c) := rfl

theorem info5 : (Try.prog.info? 5).map (fun i => (i.zero, i.size, i.bytes)) = some (some (.int .u8 0), 1, 1) := by kernel_rfl
theorem info35 : (Try.prog.info? 35).map (fun i => (i.zero, i.size, i.bytes)) = some (some (.agg #[(.int .i8 0), (.slice none 0 0)]), 2, 32) := by kernel_rfl
-- the values' own types
/-! #### struct type 29 -/
structure S29 where
  f0 : Int
  f1 : ByteArray
  f2 : Int
  f3 : Int
def z29 : S29 := ⟨(0 : Int), (⟨#[]⟩ : ByteArray), (0 : Int), (0 : Int)⟩
def k29 : Kd S29 := Kd.iso (Kd.pair (Kd.int .i8) (Kd.pair Kd.string (Kd.pair (Kd.int .i64) (Kd.int .i64)))) (fun x : S29 => (x.f0, x.f1, x.f2, x.f3))
theorem k29_open {w : World} {x : S29} {cs : List Value} (h : k29.K w x cs) : cs = [.int .i8 x.f0, .string x.f1, .int .i64 x.f2, .int .i64 x.f3] := by
  obtain ⟨_, _, rfl, rfl, ⟨_, _, rfl, rfl, ⟨_, _, rfl, rfl, rfl⟩⟩⟩ := h
  exact rfl
theorem k29_openM {w : World} {base : Nat} {ok : Nat → Prop} {x : S29} {cs : List Value} (h : k29.M w base ok x cs) : cs = [.int .i8 x.f0, .string x.f1, .int .i64 x.f2, .int .i64 x.f3] := by
  obtain ⟨_, _, rfl, rfl, ⟨_, _, rfl, rfl, ⟨_, _, rfl, rfl, rfl⟩⟩⟩ := h
  exact rfl
theorem k29_mk (w : World) (x : S29)  : k29.K w x [.int .i8 x.f0, .string x.f1, .int .i64 x.f2, .int .i64 x.f3] := ⟨[.int .i8 x.f0], [.string x.f1, .int .i64 x.f2, .int .i64 x.f3], rfl, rfl, ⟨[.string x.f1], [.int .i64 x.f2, .int .i64 x.f3], rfl, rfl, ⟨[.int .i64 x.f2], [.int .i64 x.f3], rfl, rfl, rfl⟩⟩⟩
theorem k29_mkM (w : World) (base : Nat) (ok : Nat → Prop) (x : S29)  : k29.M w base ok x [.int .i8 x.f0, .string x.f1, .int .i64 x.f2, .int .i64 x.f3] := ⟨[.int .i8 x.f0], [.string x.f1, .int .i64 x.f2, .int .i64 x.f3], rfl, rfl, ⟨[.string x.f1], [.int .i64 x.f2, .int .i64 x.f3], rfl, rfl, ⟨[.int .i64 x.f2], [.int .i64 x.f3], rfl, rfl, rfl⟩⟩⟩
theorem k29_mkF (W : World) (ok : Nat → Prop) (x : S29) : Kd.FK k29 W ok x [.int .i8 x.f0, .string x.f1, .int .i64 x.f2, .int .i64 x.f3] := fun W2 _ => k29_mk W2 x
def rd_T29 (xs : List S29) (i : Int) : S29 := xs.getD i.toNat z29
theorem at_T29 {w : World} {A : Option Addr} {n : Nat} {xs : List S29} (h : Kd.C k29 w A n xs) (i : Int) (h0 : 0 ≤ i) (h1 : i < n) : ∃ ad , A = some ad ∧ w.cell? (ad.add (i.toNat * 4)) = some (.int .i8 (rd_T29 xs i).f0) ∧ w.cell? ⟨(ad.add (i.toNat * 4)).block, (ad.add (i.toNat * 4)).off + 1, none⟩ = some (.string (rd_T29 xs i).f1) ∧ w.cell? ⟨(ad.add (i.toNat * 4)).block, (ad.add (i.toNat * 4)).off + 2, none⟩ = some (.int .i64 (rd_T29 xs i).f2) ∧ w.cell? ⟨(ad.add (i.toNat * 4)).block, (ad.add (i.toNat * 4)).off + 3, none⟩ = some (.int .i64 (rd_T29 xs i).f3) := by
  obtain ⟨ad, c, e, _, hK, hc0⟩ := Kd.C_get h z29 i h0 h1
  have hc : ∀ j u, c[j]? = some u → w.cell? (ad.add (i.toNat * 4 + j)) = some u := hc0
  obtain rfl := k29_open hK
  exact ⟨ad, e, hc 0 _ rfl, by rw [← add_field _ _ 1 (by omega)]; exact hc 1 _ rfl, by rw [← add_field _ _ 2 (by omega)]; exact hc 2 _ rfl, by rw [← add_field _ _ 3 (by omega)]; exact hc 3 _ rfl⟩

/-! #### struct type 35, nested in itself -/
structure S35 where
  f0 : Int
  f1 : (List S35)
def z35 : S35 := ⟨(0 : Int), ([] : List S35)⟩
def F35 (d : Kd S35) : Kd S35 := Kd.iso (Kd.pair (Kd.int .i8) (Kd.slice 35 d)) (fun x : S35 => (x.f0, x.f1))
theorem mono35 : Kd.Mono F35 := Kd.mono_iso _ (Kd.mono_pair (Kd.mono_const _) (Kd.mono_slice 35 Kd.mono_id))
theorem sub35 : Kd.Sub F35 [35] := Kd.sub_iso _ (Kd.sub_pair (Kd.sub_const _ (by decide)) (Kd.sub_slice 35 (by decide) Kd.sub_id))
theorem sz35 : ∀ n, (Kd.upto F35 2 [35] n).sz = 2 := Kd.upto_sz (fun _ => rfl)
def k35 : Kd S35 := Kd.fix F35 2 [35] sz35 (Kd.upto_E sub35)
theorem k35_open {w : World} {x : S35} {cs : List Value} (h : k35.K w x cs) : ∃ A1 c1, cs = [.int .i8 x.f0, .slice A1 x.f1.length c1] ∧ x.f1.length ≤ c1 ∧ k35.C w A1 x.f1.length x.f1 := by
  obtain ⟨n, h⟩ := h
  cases n with
  | zero => exact h.elim
  | succ n =>
    obtain ⟨_, _, rfl, rfl, ⟨A1, c1, rfl, l1, g1⟩⟩ := h
    exact ⟨A1, c1, rfl, l1, Kd.fix_C g1⟩
theorem k35_openM {w : World} {base : Nat} {ok : Nat → Prop} {x : S35} {cs : List Value} (h : k35.M w base ok x cs) : ∃ v1, cs = [.int .i8 x.f0, v1] ∧ k35.R 35 w base ok v1 x.f1 := by
  obtain ⟨n, h⟩ := h
  cases n with
  | zero => exact h.elim
  | succ n =>
    obtain ⟨_, _, rfl, rfl, ⟨v1, rfl, g1⟩⟩ := h
    exact ⟨v1, rfl, Kd.fix_R g1⟩
theorem k35_mk (w : World) (x : S35) {A1 : Option Addr} {c1 : Nat} (l1 : x.f1.length ≤ c1) (g1 : k35.C w A1 x.f1.length x.f1) : k35.K w x [.int .i8 x.f0, .slice A1 x.f1.length c1] := by
  obtain ⟨n1, q1⟩ := Kd.fix_C_back mono35 g1
  have r1 := Kd.upto_C_le mono35 sz35 (show n1 ≤ n1 by omega) q1
  exact ⟨n1 + 1, ⟨[.int .i8 x.f0], [.slice A1 x.f1.length c1], rfl, rfl, ⟨A1, c1, rfl, l1, r1⟩⟩⟩
theorem k35_mkM (w : World) (base : Nat) (ok : Nat → Prop) (x : S35) {v1 : Value} (g1 : k35.R 35 w base ok v1 x.f1) : k35.M w base ok x [.int .i8 x.f0, v1] := by
  obtain ⟨n1, q1⟩ := Kd.fix_R_back mono35 g1
  have r1 := Kd.upto_R_le mono35 sz35 (show n1 ≤ n1 by omega) q1
  exact ⟨n1 + 1, ⟨[.int .i8 x.f0], [v1], rfl, rfl, ⟨v1, rfl, r1⟩⟩⟩
theorem k35_openF {W : World} {ok : Nat → Prop} {x : S35} {cs : List Value} (h : Kd.FK k35 W ok x cs) : ∃ A1 c1, cs = [.int .i8 x.f0, .slice A1 x.f1.length c1] ∧ x.f1.length ≤ c1 ∧ Kd.F k35 W ok A1 x.f1.length x.f1 := by
  obtain ⟨A1, c1, rfl, l1, _⟩ := k35_open (Kd.FK_now h)
  exact ⟨A1, c1, rfl, l1, (fun W' hW => by obtain ⟨A1_, c1_, he, l1_, g1_⟩ := k35_open (h W' hW); injection (Option.some.inj (show some (Value.slice A1 x.f1.length c1) = some (Value.slice A1_ x.f1.length c1_) from congrArg (fun l => l[1]?) he)) with ha_ _ _; rw [ha_]; exact g1_)⟩
theorem k35_mkF (W : World) (ok : Nat → Prop) (x : S35) {A1 : Option Addr} {c1 : Nat} (l1 : x.f1.length ≤ c1) (g1 : Kd.F k35 W ok A1 x.f1.length x.f1) : Kd.FK k35 W ok x [.int .i8 x.f0, .slice A1 x.f1.length c1] := fun W2 hW => k35_mk W2 x l1 (g1 W2 hW)
def rd_T35 (xs : List S35) (i : Int) : S35 := xs.getD i.toNat z35
theorem at_T35 {w : World} {A : Option Addr} {n : Nat} {xs : List S35} (h : Kd.C k35 w A n xs) (i : Int) (h0 : 0 ≤ i) (h1 : i < n) : ∃ ad A1 c1, A = some ad ∧ w.cell? (ad.add (i.toNat * 2)) = some (.int .i8 (rd_T35 xs i).f0) ∧ w.cell? ⟨(ad.add (i.toNat * 2)).block, (ad.add (i.toNat * 2)).off + 1, none⟩ = some (.slice A1 (rd_T35 xs i).f1.length c1) ∧ (rd_T35 xs i).f1.length ≤ c1 ∧ k35.C w A1 (rd_T35 xs i).f1.length (rd_T35 xs i).f1 := by
  obtain ⟨ad, c, e, _, hK, hc0⟩ := Kd.C_get h z35 i h0 h1
  have hc : ∀ j u, c[j]? = some u → w.cell? (ad.add (i.toNat * 2 + j)) = some u := hc0
  obtain ⟨A1, c1, rfl, l1, g1⟩ := k35_open hK
  exact ⟨ad, A1, c1, e, hc 0 _ rfl, by rw [← add_field _ _ 1 (by omega)]; exact hc 1 _ rfl, l1, g1⟩

/-! #### struct type 47, nested in itself -/
structure S47 where
  f0 : Int
  f1 : S35
  f2 : S35
  f3 : Int
  f4 : Bool
  f5 : (List S47)
def z47 : S47 := ⟨(0 : Int), z35, z35, (0 : Int), false, ([] : List S47)⟩
def F47 (d : Kd S47) : Kd S47 := Kd.iso (Kd.pair (Kd.int .i8) (Kd.pair k35 (Kd.pair k35 (Kd.pair (Kd.int .i64) (Kd.pair Kd.bool (Kd.slice 47 d)))))) (fun x : S47 => (x.f0, x.f1, x.f2, x.f3, x.f4, x.f5))
theorem mono47 : Kd.Mono F47 := Kd.mono_iso _ (Kd.mono_pair (Kd.mono_const _) (Kd.mono_pair (Kd.mono_const _) (Kd.mono_pair (Kd.mono_const _) (Kd.mono_pair (Kd.mono_const _) (Kd.mono_pair (Kd.mono_const _) (Kd.mono_slice 47 Kd.mono_id))))))
theorem sub47 : Kd.Sub F47 [35, 47] := Kd.sub_iso _ (Kd.sub_pair (Kd.sub_const _ (by decide)) (Kd.sub_pair (Kd.sub_const _ (by decide)) (Kd.sub_pair (Kd.sub_const _ (by decide)) (Kd.sub_pair (Kd.sub_const _ (by decide)) (Kd.sub_pair (Kd.sub_const _ (by decide)) (Kd.sub_slice 47 (by decide) Kd.sub_id))))))
theorem sz47 : ∀ n, (Kd.upto F47 8 [35, 47] n).sz = 8 := Kd.upto_sz (fun _ => rfl)
def k47 : Kd S47 := Kd.fix F47 8 [35, 47] sz47 (Kd.upto_E sub47)
theorem k47_open {w : World} {x : S47} {cs : List Value} (h : k47.K w x cs) : ∃ A2 c2 A4 c4 A7 c7, cs = [.int .i8 x.f0, .int .i8 x.f1.f0, .slice A2 x.f1.f1.length c2, .int .i8 x.f2.f0, .slice A4 x.f2.f1.length c4, .int .i64 x.f3, .bool x.f4, .slice A7 x.f5.length c7] ∧ x.f1.f1.length ≤ c2 ∧ k35.C w A2 x.f1.f1.length x.f1.f1 ∧ x.f2.f1.length ≤ c4 ∧ k35.C w A4 x.f2.f1.length x.f2.f1 ∧ x.f5.length ≤ c7 ∧ k47.C w A7 x.f5.length x.f5 := by
  obtain ⟨n, h⟩ := h
  cases n with
  | zero => exact h.elim
  | succ n =>
    obtain ⟨_, _, rfl, rfl, ⟨_, _, rfl, s1, ⟨_, _, rfl, s3, ⟨_, _, rfl, rfl, ⟨_, _, rfl, rfl, ⟨A7, c7, rfl, l7, g7⟩⟩⟩⟩⟩⟩ := h
    obtain ⟨A2, c2, rfl, l2, g2⟩ := k35_open s1
    obtain ⟨A4, c4, rfl, l4, g4⟩ := k35_open s3
    exact ⟨A2, c2, A4, c4, A7, c7, rfl, l2, g2, l4, g4, l7, Kd.fix_C g7⟩
theorem k47_openM {w : World} {base : Nat} {ok : Nat → Prop} {x : S47} {cs : List Value} (h : k47.M w base ok x cs) : ∃ v2 v4 v7, cs = [.int .i8 x.f0, .int .i8 x.f1.f0, v2, .int .i8 x.f2.f0, v4, .int .i64 x.f3, .bool x.f4, v7] ∧ k35.R 35 w base ok v2 x.f1.f1 ∧ k35.R 35 w base ok v4 x.f2.f1 ∧ k47.R 47 w base ok v7 x.f5 := by
  obtain ⟨n, h⟩ := h
  cases n with
  | zero => exact h.elim
  | succ n =>
    obtain ⟨_, _, rfl, rfl, ⟨_, _, rfl, s1, ⟨_, _, rfl, s3, ⟨_, _, rfl, rfl, ⟨_, _, rfl, rfl, ⟨v7, rfl, g7⟩⟩⟩⟩⟩⟩ := h
    obtain ⟨v2, rfl, g2⟩ := k35_openM s1
    obtain ⟨v4, rfl, g4⟩ := k35_openM s3
    exact ⟨v2, v4, v7, rfl, g2, g4, Kd.fix_R g7⟩
theorem k47_mk (w : World) (x : S47) {A2 : Option Addr} {c2 : Nat} (l2 : x.f1.f1.length ≤ c2) (g2 : k35.C w A2 x.f1.f1.length x.f1.f1) {A4 : Option Addr} {c4 : Nat} (l4 : x.f2.f1.length ≤ c4) (g4 : k35.C w A4 x.f2.f1.length x.f2.f1) {A7 : Option Addr} {c7 : Nat} (l7 : x.f5.length ≤ c7) (g7 : k47.C w A7 x.f5.length x.f5) : k47.K w x [.int .i8 x.f0, .int .i8 x.f1.f0, .slice A2 x.f1.f1.length c2, .int .i8 x.f2.f0, .slice A4 x.f2.f1.length c4, .int .i64 x.f3, .bool x.f4, .slice A7 x.f5.length c7] := by
  obtain ⟨n7, q7⟩ := Kd.fix_C_back mono47 g7
  have r7 := Kd.upto_C_le mono47 sz47 (show n7 ≤ n7 by omega) q7
  exact ⟨n7 + 1, ⟨[.int .i8 x.f0], [.int .i8 x.f1.f0, .slice A2 x.f1.f1.length c2, .int .i8 x.f2.f0, .slice A4 x.f2.f1.length c4, .int .i64 x.f3, .bool x.f4, .slice A7 x.f5.length c7], rfl, rfl, ⟨[.int .i8 x.f1.f0, .slice A2 x.f1.f1.length c2], [.int .i8 x.f2.f0, .slice A4 x.f2.f1.length c4, .int .i64 x.f3, .bool x.f4, .slice A7 x.f5.length c7], rfl, (k35_mk w x.f1 l2 g2), ⟨[.int .i8 x.f2.f0, .slice A4 x.f2.f1.length c4], [.int .i64 x.f3, .bool x.f4, .slice A7 x.f5.length c7], rfl, (k35_mk w x.f2 l4 g4), ⟨[.int .i64 x.f3], [.bool x.f4, .slice A7 x.f5.length c7], rfl, rfl, ⟨[.bool x.f4], [.slice A7 x.f5.length c7], rfl, rfl, ⟨A7, c7, rfl, l7, r7⟩⟩⟩⟩⟩⟩⟩
theorem k47_mkM (w : World) (base : Nat) (ok : Nat → Prop) (x : S47) {v2 : Value} (g2 : k35.R 35 w base ok v2 x.f1.f1) {v4 : Value} (g4 : k35.R 35 w base ok v4 x.f2.f1) {v7 : Value} (g7 : k47.R 47 w base ok v7 x.f5) : k47.M w base ok x [.int .i8 x.f0, .int .i8 x.f1.f0, v2, .int .i8 x.f2.f0, v4, .int .i64 x.f3, .bool x.f4, v7] := by
  obtain ⟨n7, q7⟩ := Kd.fix_R_back mono47 g7
  have r7 := Kd.upto_R_le mono47 sz47 (show n7 ≤ n7 by omega) q7
  exact ⟨n7 + 1, ⟨[.int .i8 x.f0], [.int .i8 x.f1.f0, v2, .int .i8 x.f2.f0, v4, .int .i64 x.f3, .bool x.f4, v7], rfl, rfl, ⟨[.int .i8 x.f1.f0, v2], [.int .i8 x.f2.f0, v4, .int .i64 x.f3, .bool x.f4, v7], rfl, (k35_mkM w base ok x.f1 g2), ⟨[.int .i8 x.f2.f0, v4], [.int .i64 x.f3, .bool x.f4, v7], rfl, (k35_mkM w base ok x.f2 g4), ⟨[.int .i64 x.f3], [.bool x.f4, v7], rfl, rfl, ⟨[.bool x.f4], [v7], rfl, rfl, ⟨v7, rfl, r7⟩⟩⟩⟩⟩⟩⟩
theorem k47_openF {W : World} {ok : Nat → Prop} {x : S47} {cs : List Value} (h : Kd.FK k47 W ok x cs) : ∃ A2 c2 A4 c4 A7 c7, cs = [.int .i8 x.f0, .int .i8 x.f1.f0, .slice A2 x.f1.f1.length c2, .int .i8 x.f2.f0, .slice A4 x.f2.f1.length c4, .int .i64 x.f3, .bool x.f4, .slice A7 x.f5.length c7] ∧ x.f1.f1.length ≤ c2 ∧ Kd.F k35 W ok A2 x.f1.f1.length x.f1.f1 ∧ x.f2.f1.length ≤ c4 ∧ Kd.F k35 W ok A4 x.f2.f1.length x.f2.f1 ∧ x.f5.length ≤ c7 ∧ Kd.F k47 W ok A7 x.f5.length x.f5 := by
  obtain ⟨A2, c2, A4, c4, A7, c7, rfl, l2, _, l4, _, l7, _⟩ := k47_open (Kd.FK_now h)
  exact ⟨A2, c2, A4, c4, A7, c7, rfl, l2, (fun W' hW => by obtain ⟨A2_, c2_, A4_, c4_, A7_, c7_, he, l2_, g2_, l4_, g4_, l7_, g7_⟩ := k47_open (h W' hW); injection (Option.some.inj (show some (Value.slice A2 x.f1.f1.length c2) = some (Value.slice A2_ x.f1.f1.length c2_) from congrArg (fun l => l[2]?) he)) with ha_ _ _; rw [ha_]; exact g2_), l4, (fun W' hW => by obtain ⟨A2_, c2_, A4_, c4_, A7_, c7_, he, l2_, g2_, l4_, g4_, l7_, g7_⟩ := k47_open (h W' hW); injection (Option.some.inj (show some (Value.slice A4 x.f2.f1.length c4) = some (Value.slice A4_ x.f2.f1.length c4_) from congrArg (fun l => l[4]?) he)) with ha_ _ _; rw [ha_]; exact g4_), l7, (fun W' hW => by obtain ⟨A2_, c2_, A4_, c4_, A7_, c7_, he, l2_, g2_, l4_, g4_, l7_, g7_⟩ := k47_open (h W' hW); injection (Option.some.inj (show some (Value.slice A7 x.f5.length c7) = some (Value.slice A7_ x.f5.length c7_) from congrArg (fun l => l[7]?) he)) with ha_ _ _; rw [ha_]; exact g7_)⟩
theorem k47_mkF (W : World) (ok : Nat → Prop) (x : S47) {A2 : Option Addr} {c2 : Nat} (l2 : x.f1.f1.length ≤ c2) (g2 : Kd.F k35 W ok A2 x.f1.f1.length x.f1.f1) {A4 : Option Addr} {c4 : Nat} (l4 : x.f2.f1.length ≤ c4) (g4 : Kd.F k35 W ok A4 x.f2.f1.length x.f2.f1) {A7 : Option Addr} {c7 : Nat} (l7 : x.f5.length ≤ c7) (g7 : Kd.F k47 W ok A7 x.f5.length x.f5) : Kd.FK k47 W ok x [.int .i8 x.f0, .int .i8 x.f1.f0, .slice A2 x.f1.f1.length c2, .int .i8 x.f2.f0, .slice A4 x.f2.f1.length c4, .int .i64 x.f3, .bool x.f4, .slice A7 x.f5.length c7] := fun W2 hW => k47_mk W2 x l2 (g2 W2 hW) l4 (g4 W2 hW) l7 (g7 W2 hW)
def rd_T47 (xs : List S47) (i : Int) : S47 := xs.getD i.toNat z47
theorem at_T47 {w : World} {A : Option Addr} {n : Nat} {xs : List S47} (h : Kd.C k47 w A n xs) (i : Int) (h0 : 0 ≤ i) (h1 : i < n) : ∃ ad A2 c2 A4 c4 A7 c7, A = some ad ∧ w.cell? (ad.add (i.toNat * 8)) = some (.int .i8 (rd_T47 xs i).f0) ∧ w.cell? ⟨(ad.add (i.toNat * 8)).block, (ad.add (i.toNat * 8)).off + 1, none⟩ = some (.int .i8 (rd_T47 xs i).f1.f0) ∧ w.cell? ⟨(ad.add (i.toNat * 8)).block, (ad.add (i.toNat * 8)).off + 2, none⟩ = some (.slice A2 (rd_T47 xs i).f1.f1.length c2) ∧ w.cell? ⟨(ad.add (i.toNat * 8)).block, (ad.add (i.toNat * 8)).off + 3, none⟩ = some (.int .i8 (rd_T47 xs i).f2.f0) ∧ w.cell? ⟨(ad.add (i.toNat * 8)).block, (ad.add (i.toNat * 8)).off + 4, none⟩ = some (.slice A4 (rd_T47 xs i).f2.f1.length c4) ∧ w.cell? ⟨(ad.add (i.toNat * 8)).block, (ad.add (i.toNat * 8)).off + 5, none⟩ = some (.int .i64 (rd_T47 xs i).f3) ∧ w.cell? ⟨(ad.add (i.toNat * 8)).block, (ad.add (i.toNat * 8)).off + 6, none⟩ = some (.bool (rd_T47 xs i).f4) ∧ w.cell? ⟨(ad.add (i.toNat * 8)).block, (ad.add (i.toNat * 8)).off + 7, none⟩ = some (.slice A7 (rd_T47 xs i).f5.length c7) ∧ (rd_T47 xs i).f1.f1.length ≤ c2 ∧ k35.C w A2 (rd_T47 xs i).f1.f1.length (rd_T47 xs i).f1.f1 ∧ (rd_T47 xs i).f2.f1.length ≤ c4 ∧ k35.C w A4 (rd_T47 xs i).f2.f1.length (rd_T47 xs i).f2.f1 ∧ (rd_T47 xs i).f5.length ≤ c7 ∧ k47.C w A7 (rd_T47 xs i).f5.length (rd_T47 xs i).f5 := by
  obtain ⟨ad, c, e, _, hK, hc0⟩ := Kd.C_get h z47 i h0 h1
  have hc : ∀ j u, c[j]? = some u → w.cell? (ad.add (i.toNat * 8 + j)) = some u := hc0
  obtain ⟨A2, c2, A4, c4, A7, c7, rfl, l2, g2, l4, g4, l7, g7⟩ := k47_open hK
  exact ⟨ad, A2, c2, A4, c4, A7, c7, e, hc 0 _ rfl, by rw [← add_field _ _ 1 (by omega)]; exact hc 1 _ rfl, by rw [← add_field _ _ 2 (by omega)]; exact hc 2 _ rfl, by rw [← add_field _ _ 3 (by omega)]; exact hc 3 _ rfl, by rw [← add_field _ _ 4 (by omega)]; exact hc 4 _ rfl, by rw [← add_field _ _ 5 (by omega)]; exact hc 5 _ rfl, by rw [← add_field _ _ 6 (by omega)]; exact hc 6 _ rfl, by rw [← add_field _ _ 7 (by omega)]; exact hc 7 _ rfl, l2, g2, l4, g4, l7, g7⟩

end Go.Proofs.Ytjmpejbciniceaa.X
/- The contract of types.Nodes: it answers how many types a type holds, at most 8193. -/
namespace Go.Proofs.Ytjmpejbciniceaa.X
open Go.RowKit Go.Proofs.YtjmpejbciniceaaW.PrintWords Go.Proofs.YtjmpejbciniceaaW.PrintLast Go.Proofs.YtjmpejbciniceaaW.PrintMore
set_option linter.unusedVariables false
set_option linter.unusedSimpArgs false

mutual
def nodes : S35 → Nat
  | ⟨_, l⟩ => 1 + nodesL l
def nodesL : List S35 → Nat
  | [] => 0
  | x :: l => nodes x + nodesL l
end
theorem nodes_eq (x : S35) : nodes x = 1 + nodesL x.f1 := by cases x; rw [nodes]
theorem nodesL_append (l m : List S35) : nodesL (l ++ m) = nodesL l + nodesL m := by
  induction l with
  | nil => simp [nodesL]
  | cons x l ih => simp only [List.cons_append, nodesL, ih]; omega
theorem nodesL_take (l : List S35) (i : Nat) (h : i < l.length) : nodesL (l.take (i + 1)) = nodesL (l.take i) + nodes (rd_T35 l i) := by
  rw [List.take_succ_eq_append_getElem h, nodesL_append]
  simp [nodesL, rd_T35, List.getD_eq_getElem?_getD, h]
theorem nodesL_take_le (l : List S35) (i : Nat) : nodesL (l.take i) ≤ nodesL l := by
  have := nodesL_append (l.take i) (l.drop i)
  rw [List.take_append_drop] at this
  omega
def types_Nodes.f (a0_0 : Int) (l0_1 : List S35) : Option Int := some ((min (1 + nodesL l0_1) 8193 : Nat) : Int)

/-- What a call of count leaves. -/
def CountPost (w0 w : World) (g : Nat) (v s : Int) (e : Ending) (w' : World) : Prop :=
  Below w0.heap.size w0 w' ∧ KeepBut w w' g none ∧
  ((v + s ≤ 8192 ∧ e = .returned (.tuple #[]) ∧ w'.heap[g]? = some (.cells #[.int .i64 (v + s)] 80 (0, 0))) ∨
   (8192 < v + s ∧ e = .panicked [{ v := .iface 82 (.agg #[]), recovered := false }]))

set_option maxRecDepth 100000 in
set_option maxHeartbeats 1600000 in
theorem count_calls (m : Nat) : ∀ (a0 : Int) (A : Option Addr) (c : Nat) (l : List S35) (g : Nat) (v : Int) (w0 w : World),
    nodesL l < m → 0 ≤ v → v ≤ 8192 → Below w0.heap.size w0 w → w0.heap.size ≤ g → w.heap[g]? = some (.cells #[.int .i64 v] 80 (0, 0)) →
    Kd.C k35 w0 A l.length l → l.length ≤ c →
    Calls Try.prog 42 #[.pointer (some ⟨g, 0, none⟩), .agg #[.int .i8 a0, .slice A l.length c]] w (CountPost w0 w g v (1 + nodesL l)) := by
  induction m with
  | zero => intro a0 A c l g v w0 w hm; omega
  | succ m ih =>
  intro a0 A c l g v w0 w hm hv0 hv1 HB0 hg hb0 hr hc
  have IH := Aside0.mk ih
  have HR := Aside0.mk hr
  have hL : l.length ≤ 9223372036854775807 := hr.2.1
  have HB := Aside0.mk HB0
  have HG := Aside0.mk hb0
  have hglt := blk_lt hb0
  have hcell := blk_cell hb0 0
  have hfz := blk_frozen hb0 0
  simp at hcell
  have HW1 : Aside0 (Below w0.heap.size w0 ((w.setCell ⟨g, 0, none⟩ (.int .i64 (v + 1))).alloc (.cells #[.int .i8 a0, .slice A l.length c] 35))) := ⟨(HB0.setCell hg _).alloc (by have := HB0.size; simp; omega) _⟩
  have HK1 : Aside0 (KeepBut w ((w.setCell ⟨g, 0, none⟩ (.int .i64 (v + 1))).alloc (.cells #[.int .i8 a0, .slice A l.length c] 35)) g none) := ⟨keep_alloc ((KeepBut.refl _ _ _).set_ 0 _) _⟩
  have HG1 : Aside0 (((w.setCell ⟨g, 0, none⟩ (.int .i64 (v + 1))).alloc (.cells #[.int .i8 a0, .slice A l.length c] 35)).heap[g]? = some (.cells #[.int .i64 (v + 1)] 80 (0, 0))) := ⟨by
    have := blk_alloc (blk_set hb0 0 (.int .i64 (v + 1))) (.cells #[.int .i8 a0, .slice A l.length c] 35)
    simpa using this⟩
  clear hb0 ih hr HB0
  by_cases h8 : v + 1 ≤ 8192
  · go_enter Try.func42, Try.ntmps42
    go_wp2_with fail
    go_loopw [23] (fun i wr => ∃ k : Nat, i = .int .i64 k ∧ k ≤ l.length ∧ Below w0.heap.size w0 wr ∧ KeepBut w wr g none ∧ v + 1 + (nodesL (l.take k) : Int) ≤ 8192 ∧ wr.heap[g]? = some (.cells #[.int .i64 (v + 1 + (nodesL (l.take k) : Int))] 80 (0, 0))) (fun i _ => l.length - (intOf i).toNat)
    case atStart => exact ⟨0, rfl, Nat.zero_le _, HW1.out, HK1.out, by simp [nodesL]; omega, by simpa [nodesL] using HG1.out⟩
    case round =>
      obtain ⟨k, rfl, hk, hB, hK, h8k, hG⟩ := hrel
      by_cases hlt : k < l.length
      · obtain ⟨ad, A1, c1, hA, hx0, hx1, hl1, hi1⟩ := at_T35 HR.out (k : Int) (by omega) (by omega)
        cases hA
        have hy0 := (hB.cell (World.block_lt_of_cell? w0 _ hx0)).trans hx0
        have hy1 := (hB.cell (World.block_lt_of_cell? w0 _ hx1)).trans hx1
        have hs := nodesL_take l k hlt
        rw [nodes_eq] at hs
        have hsl := nodesL_take_le l (k + 1)
        generalize hel : rd_T35 l (k : Int) = x at *
        have HS := Aside0.mk hs
        have HB := Aside0.mk hB
        have HK := Aside0.mk hK
        have HG := Aside0.mk hG
        have HI := Aside0.mk hi1
        have hbs := hB.size
        have hgl := blk_lt hG
        simp only [Int.toNat_natCast] at hy0 hy1
        clear hx0 hx1 hB hK hG hi1 hel hs
        go_wp2_with fail
        refine (IH.out _ _ _ x.f1 g (v + 1 + (nodesL (l.take k) : Int)) w0 _ (by have := HS.out; omega) (by omega) h8k (HB.out.alloc hbs _) hg (blk_alloc HG.out _) HI.out hl1).mono ?_
        rintro e w' ⟨hB2, hK2, hpost⟩
        have HB2 := Aside0.mk hB2
        have HK2 := Aside0.mk (KeepBut.trans (keep_alloc HK.out (.cells #[.int .i8 x.f0, .slice A1 x.f1.length c1] 35)) hK2 (.inl rfl))
        clear hB2 hK2
        rcases hpost with ⟨hle, rfl, hG2⟩ | ⟨hgt, rfl⟩
        · have hsum : v + 1 + ((nodesL (l.take k) : Nat) : Int) + (1 + ((nodesL x.f1 : Nat) : Int)) = v + 1 + ((nodesL (l.take (k + 1)) : Nat) : Int) := by have := HS.out; omega
          rw [hsum] at hG2 hle
          have HG2 := Aside0.mk hG2
          clear hG2 hsum
          go_wp2_with fail
          go_roundw
          case rel => exact ⟨k + 1, by go_num, by omega, HB2.out, HK2.out, hle, HG2.out⟩
          case measure => simp [intOf]; omega
        · refine ⟨rfl, HB2.out, HK2.out, .inr ⟨?_, rfl⟩⟩
          have := HS.out
          omega
      · obtain rfl : k = l.length := by omega
        have HB := Aside0.mk hB
        have HK := Aside0.mk hK
        have HG := Aside0.mk hG
        clear hB hK hG
        go_wp2_with fail
        rw [List.take_length] at *
        go_end0
        refine ⟨HB.out, HK.out, .inl ⟨by omega, rfl, ?_⟩⟩
        have := HG.out
        rw [this]
        congr 5
        omega
  · go_enter Try.func42, Try.ntmps42
    go_wp2_with fail
    refine ⟨rfl, HW1.out, HK1.out, .inr ⟨?_, rfl⟩⟩
    omega


set_option maxRecDepth 100000 in
theorem nodes_idle (p : Addr) (w : World) :
    CallsD Try.prog 41 #[.pointer (some p)] .returning w fun e u' w' => e = .returned (.tuple #[]) ∧ u' = .returning ∧ w' = w := by
  refine callsD_of_wpS Try.func41 rfl fun c₀ cs hu => ?_
  apply wpS_seq
  apply wpS_region
  simp [wpOpsS, go_sem, recoverD, hu, Try.ntmps41, Exit.thenS]
  refine wpS_of_wp ?_
  have hu20 := Try.underlying20
  have he : ∀ W : World, (binOp .eql 20 .nilIface .nilIface).run Try.prog W = .ok (.bool true) W := fun W => run_eql_nil_nil W 20 (by kernel_rfl)
  go_wp2
  cases c₀
  simp_all [bodyPostS, results, Try.results41]

set_option maxRecDepth 100000 in
theorem nodes_catch (g : Nat) (x : Int) (w : World) (hb : w.heap[g]? = some (.cells #[.int .i64 x] 3 (0, 0))) :
    CallsD Try.prog 41 #[.pointer (some ⟨g, 0, none⟩)] (.panicking [{ v := .iface 82 (.agg #[]), recovered := false }]) w fun e u' w' =>
      e = .returned (.tuple #[]) ∧ u' = .panicking [{ v := .iface 82 (.agg #[]), recovered := true }] ∧ w' = (w.alloc (.cells #[] 82)).setCell ⟨g, 0, none⟩ (.int .i64 8193) := by
  have hc := blk_cell (blk_alloc hb (.cells #[] 82)) 0
  have hz := blk_frozen (blk_alloc hb (.cells #[] 82)) 0
  simp at hc
  refine callsD_of_wpS Try.func41 rfl fun c₀ cs hu => ?_
  apply wpS_seq
  apply wpS_region
  simp [wpOpsS, go_sem, recoverD, hu, Try.ntmps41, Exit.thenS]
  refine wpS_of_wp ?_
  have hu20 := Try.underlying20
  have he : ∀ W : World, (binOp .eql 20 (.iface 82 (.agg #[])) .nilIface).run Try.prog W = .ok (.bool false) W := fun W => run_eql_held_nil W 20 82 _ (by kernel_rfl)
  have hta : ∀ W : World, (Instr.typeAssert (.iface 82 (.agg #[])) 20 82 true).run Try.prog W = .ok (.tuple #[.agg #[], .bool true]) W := fun W => by kernel_rfl
  go_wp2
  simp [bodyPostS, results, Try.results41]

set_option maxRecDepth 100000 in
set_option maxHeartbeats 1600000 in
theorem types_Nodes.calls (a0_0 : Int) (A0_1 : Option Addr) (c0_1 : Nat) (l0_1 : List S35) (r : Int) (w : World) (hr0_1 : Kd.C k35 w A0_1 l0_1.length l0_1) (hc0_1 : l0_1.length ≤ c0_1) (h : types_Nodes.f a0_0 l0_1 = some r) :
    Calls Try.prog 19 #[.agg #[.int .i8 a0_0, .slice A0_1 l0_1.length c0_1]] w fun e w' => e = .returned (.int .i64 r) ∧ Below w.heap.size w w' := by
  unfold types_Nodes.f at h
  have HV := Aside0.mk (Option.some.inj h)
  have HR := Aside0.mk hr0_1
  clear hr0_1 h
  have hmf : ∀ (fn : Fn) (first cap : Array Value) (w : World), (Instr.makeFunc fn first cap).run Try.prog w = .ok (.func fn first cap) w := fun _ _ _ _ => rfl
  generalize hO : Obj.cells #[.int .i8 a0_0, .slice A0_1 l0_1.length c0_1] 35 = O
  have hB3 : Below w.heap.size w (((w.alloc O).alloc (.cells #[.int .i64 0] 3)).alloc (.cells #[.int .i64 0] 80)) := (((Below.refl _ _).alloc (Nat.le_refl _) _).alloc (by simp) _).alloc (by simp; omega) _
  have hg3 : (((w.alloc O).alloc (.cells #[.int .i64 0] 3)).alloc (.cells #[.int .i64 0] 80)).heap[w.heap.size + 1 + 1]? = some (.cells #[.int .i64 0] 80 (0, 0)) := by
    have := heap_alloc_new ((w.alloc O).alloc (.cells #[.int .i64 0] 3)) (.cells #[.int .i64 0] 80)
    simpa using this
  have hn3 : (((w.alloc O).alloc (.cells #[.int .i64 0] 3)).alloc (.cells #[.int .i64 0] 80)).heap[w.heap.size + 1]? = some (.cells #[.int .i64 0] 3 (0, 0)) := by
    have := heap_alloc_new (w.alloc O) (.cells #[.int .i64 0] 3)
    exact blk_alloc (by simpa using this) _
  subst hO
  have HB3 := Aside0.mk hB3
  have HG3 := Aside0.mk hg3
  have HN3 := Aside0.mk hn3
  clear hB3 hg3 hn3
  go_enter_defers Try.func19, Try.ntmps19
  go_wp2_with fail
  refine (count_calls (nodesL l0_1 + 1) a0_0 A0_1 c0_1 l0_1 (w.heap.size + 1 + 1) 0 w _ (by omega) (by omega) (by omega) HB3.out (by omega) HG3.out HR.out hc0_1).mono ?_
  rintro e w' ⟨hB, hK, hpost⟩
  have HB := Aside0.mk hB
  have hn : w'.heap[w.heap.size + 1]? = some (.cells #[.int .i64 0] 3 (0, 0)) := hK.blk HN3.out (by omega) (by simp)
  have hnc := blk_cell hn 0
  have hnz := blk_frozen hn 0
  simp at hnc
  have HN := Aside0.mk hn
  have hsz := blk_lt hn
  clear hB hK hn
  rcases hpost with ⟨hle, rfl, hG⟩ | ⟨hgt, rfl⟩
  · have hgc := blk_cell hG 0
    simp at hgc
    have hv : (1 : Int) + ((nodesL l0_1 : Nat) : Int) = r := by have := HV.out; omega
    rw [hv] at hgc
    clear hG hv hle
    go_wp2_with fail
    refine leaves_cons (f := 41) (args := #[.pointer (some ⟨w.heap.size + 1, 0, none⟩)]) (by simp) (by simp [go_sem]) ?_
    refine (nodes_idle _ _).mono ?_
    rintro e u' w'' ⟨rfl, rfl, rfl⟩
    have hc2 : (w'.setCell ⟨w.heap.size + 1, 0, none⟩ (.int .i64 r)).cell? ⟨w.heap.size + 1, 0, none⟩ = some (.int .i64 r) := World.cell?_setCell_same _ _ _ hnc
    exact ⟨.int .i64 r, by simp [results, Try.results46, go_sem, hc2], rfl, HB.out.setCell (by simp) _⟩
  · have hv : r = 8193 := by have := HV.out; omega
    clear hgt
    refine leaves_cons (f := 41) (args := #[.pointer (some ⟨w.heap.size + 1, 0, none⟩)]) (by simp) (by simp [go_sem]) ?_
    refine (nodes_catch _ _ _ HN.out).mono ?_
    rintro e u' w'' ⟨rfl, rfl, rfl⟩
    have hc2 : ((w'.alloc (.cells #[] 82)).setCell ⟨w.heap.size + 1, 0, none⟩ (.int .i64 8193)).cell? ⟨w.heap.size + 1, 0, none⟩ = some (.int .i64 8193) := World.cell?_setCell_same _ _ _ ((blk_cell (blk_alloc HN.out _) 0).trans rfl)
    simp [Leaves, settle]
    exact ⟨.int .i64 8193, by simp [results, Try.results46, go_sem, hc2], by rw [hv], (HB.out.alloc (by omega) _).setCell (by simp) _⟩
end Go.Proofs.Ytjmpejbciniceaa.X
-- Written by xprint.py, a program of this session that drives the kit's print beside contracts proved by hand. Lean checks it.
namespace Go.Proofs.Ytjmpejbciniceaa.X
open Go.RowKit Go.Proofs.YtjmpejbciniceaaW.PrintWords Go.Proofs.YtjmpejbciniceaaW.PrintLast Go.Proofs.YtjmpejbciniceaaW.PrintMore
attribute [local go_sem] max2_int min2_int max_two min_two max_three min_three max_four min_four   -- for this text's walks alone
set_option linter.unusedVariables false
set_option linter.unusedSimpArgs false

theorem eqA29 (d : Nat) (w : World) (x0 y0 : Int) (x1 y1 : ByteArray) (x2 y2 : Int) (x3 y3 : Int) :
    (Op.equalIn (d + 2) 29 (.agg #[.int .i8 x0, .string x1, .int .i64 x2, .int .i64 x3]) (.agg #[.int .i8 y0, .string y1, .int .i64 y2, .int .i64 y3])).run Try.prog w = .ok (x0 == y0 && (x1.toList == y1.toList && (x2 == y2 && (x3 == y3)))) w := by
  refine eqA_of Try.underlying29 (by kernel_rfl) ?_
  refine eqf_cons (by rfl) (by go_simp; rfl) (by go_simp; rfl) (by go_simp) ?_
  refine eqf_cons (by rfl) (by go_simp; rfl) (by go_simp; rfl) (by go_simp) ?_
  refine eqf_cons (by rfl) (by go_simp; rfl) (by go_simp; rfl) (by go_simp) ?_
  exact eqf_last (by rfl) (by go_simp; rfl) (by go_simp; rfl) (by go_simp)
end Go.Proofs.Ytjmpejbciniceaa.X
