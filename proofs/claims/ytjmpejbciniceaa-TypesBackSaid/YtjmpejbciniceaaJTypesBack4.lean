/- Texts of this claim, joined: PureTok, HSkipPure, FScan, HSkip. -/
import Derived.Laws.RangeAny
import Derived.RegionTactic
import Derived.ChangeAlike
import Derived.BigRegion
import Derived.LoopTactic
import Derived.Test.YtjmpejbciniceaaJTypesBack0
import Derived.Test.YtjmpejbciniceaaJTypesBack1
import Derived.Test.YtjmpejbciniceaaJTypesBack2
import Derived.Test.YtjmpejbciniceaaJTypesBack3
/- The words of a type's text. -/
namespace Go.Proofs.Ytjmpejbciniceaa.X
set_option linter.unusedVariables false
set_option linter.unusedSimpArgs false

def headAl : List UInt8 → Bool
  | d :: _ => letU d || digU d
  | [] => false
def tkOf (w : SWord) : Tk := (w.kind, w.text)
/-- The bytes b are the words ts, whatever stands behind that goes on no word. -/
def Says (b : List UInt8) (ts : List Tk) : Prop := ∀ (rest : List UInt8) (N : Nat), headAl rest = false → ∃ ws, scanA N (b ++ rest) = preS ws (scanA N rest) ∧ ws.map tkOf = ts ∧ ∀ w ∈ ws, w.num = 0
theorem says_append {a b : List UInt8} {s t : List Tk} (ha : Says a s) (hb : Says b t) (hh : ∀ r, headAl r = false → headAl (b ++ r) = false) : Says (a ++ b) (s ++ t) := by
  intro rest N hr
  obtain ⟨ws, h1, h2, h3⟩ := ha (b ++ rest) N (hh rest hr)
  obtain ⟨vs, h4, h5, h6⟩ := hb rest N hr
  refine ⟨ws ++ vs, by rw [List.append_assoc, h1, h4, pre_pre], by rw [List.map_append, h2, h5], fun w hw => ?_⟩
  rcases List.mem_append.1 hw with h | h
  · exact h3 w h
  · exact h6 w h
theorem says_sign {c : UInt8} (h1 : letU c = false) (h2 : digU c = false) (h3 : c ≠ 45) (h4 : signU c = true) (hs : startU c) : Says [c] [(4, [c])] := by
  intro rest N hr
  have hw : wordR (c :: rest) = .word 4 [c] 0 := by
    rw [wordR, if_neg (by simp [h1]), if_neg (by simp [h2]), if_neg (by intro h; exact h3 h.1), if_pos h4]
  obtain ⟨p, hp⟩ := scanA_word (N := N) hs hw rfl
  exact ⟨[⟨4, [c], 0, p⟩], hp, rfl, fun w hw => by simp at hw; subst hw; rfl⟩
theorem says_blank {b : List UInt8} {ts : List Tk} (h : Says b ts) : Says (32 :: b) ts := by
  intro rest N hr
  obtain ⟨ws, h1, h2, h3⟩ := h rest N hr
  exact ⟨ws, by rw [List.cons_append, scanA_blank]; exact h1, h2, h3⟩
theorem says_behind {b : List UInt8} {ts : List Tk} (h : Says b ts) : Says (b ++ [32]) ts := by
  intro rest N hr
  obtain ⟨ws, h1, h2, h3⟩ := h (32 :: rest) N (by rfl)
  refine ⟨ws, ?_, h2, h3⟩
  rw [List.append_assoc, List.singleton_append, h1, scanA_blank]
theorem take_key (s rest : List UInt8) (p : UInt8 → Bool) (hs : ∀ c ∈ s, p c = true) (hr : (match rest with | d :: _ => p d | [] => false) = false) : (s ++ rest).takeWhile p = s := by
  induction s with
  | nil =>
    cases rest with
    | nil => rfl
    | cons d r => simp at hr; simp [List.takeWhile, hr]
  | cons c s ih => rw [List.cons_append, List.takeWhile_cons, if_pos (hs c (by simp)), ih (fun d hd => hs d (by simp [hd]))]
theorem says_key {c : UInt8} {s : List UInt8} (hc : letU c = true) (hs : ∀ d ∈ s, (letU d || digU d) = true) (hl : s.length < 64) (hk : keyU (c :: s) = true) (hst : startU c) : Says (c :: s) [(3, c :: s)] := by
  intro rest N hr
  have ht : (s ++ rest).takeWhile (fun d => letU d || digU d) = s := take_key s rest _ hs (by cases rest <;> exact hr)
  have hw : wordR (c :: (s ++ rest)) = .word 3 (c :: s) 0 := by
    rw [wordR, if_pos hc, ht, if_neg (by simp; omega), if_pos hk]
  obtain ⟨p, hp⟩ := scanA_word (N := N) hst hw (r := rest) (by simp)
  exact ⟨[⟨3, c :: s, 0, p⟩], hp, rfl, fun w hw => by simp at hw; subst hw; rfl⟩
theorem says_arrow : Says [45, 62] [tkA] := by
  intro rest N hr
  have hw : wordR (45 :: 62 :: rest) = .word 4 [45, 62] 0 := by
    rw [wordR, if_neg (by decide), if_neg (by decide), if_pos ⟨rfl, rfl⟩]
  obtain ⟨p, hp⟩ := scanA_word (N := N) (by refine ⟨by decide, by decide, by decide⟩) hw (r := rest) rfl
  exact ⟨[⟨4, [45, 62], 0, p⟩], hp, rfl, fun w hw => by simp at hw; subst hw; rfl⟩
theorem sign_start {c : UInt8} (h : c = 63 ∨ c = 40 ∨ c = 41 ∨ c = 42 ∨ c = 43) : Says [c] [(4, [c])] := by
  rcases h with rfl | rfl | rfl | rfl | rfl <;> exact says_sign (by decide) (by decide) (by decide) (by decide) ⟨by decide, by decide, by decide⟩
theorem says_brk {b : List UInt8} {ts : List Tk} (h : Says b ts) : Says (40 :: (b ++ [41])) (tkO :: (ts ++ [tkC])) := by
  have h1 : Says [40] [tkO] := sign_start (by simp)
  have h2 : Says [41] [tkC] := sign_start (by simp)
  intro rest N hr
  have h3 := says_append h h2 (fun r _ => by rfl)
  obtain ⟨ws, a1, a2, a3⟩ := h3 rest N hr
  have hw : wordR (40 :: ((b ++ [41]) ++ rest)) = .word 4 [40] 0 := by
    rw [wordR, if_neg (by decide), if_neg (by decide), if_neg (by intro h; exact absurd h.1 (by decide)), if_pos (by decide)]
  obtain ⟨p, hp⟩ := scanA_word (N := N) (by refine ⟨by decide, by decide, by decide⟩) hw (r := (b ++ [41]) ++ rest) rfl
  refine ⟨⟨4, [40], 0, p⟩ :: ws, ?_, by rw [List.map_cons, a2]; rfl, fun w hw => ?_⟩
  · rw [List.cons_append, hp, a1, pre_pre]; rfl
  · rcases List.mem_cons.1 hw with rfl | hw
    · rfl
    · exact a3 w hw
theorem says_core (t : S35) (h : rightB t = true) : Says (core t) (tokC t) := by
  have par : ∀ (x : S35) (l : Int), Says (core x) (tokC x) → Says (parT x l) (tokT x l) := fun x l hx => by
    by_cases hl : tightI x.f0 < l
    · rw [tokT_brk hl, parT_brk hl]; exact says_brk hx
    · rw [tokT_own (by omega), parT_own (by omega)]; exact hx
  refine right_ind (P := fun t => Says (core t) (tokC t)) (fun k hk => ?_) (fun k x y hk hx hy bx by_ => ?_) t h
  · rw [tokC_leaf, core_leaf]
    rcases hk with rfl | rfl | rfl
    · exact sign_start (c := 63) (by simp)
    · exact says_key (c := 105) (s := [110, 116]) (by decide) (by decide) (by decide) (by decide) ⟨by decide, by decide, by decide⟩
    · exact says_key (c := 98) (s := [111, 111, 108]) (by decide) (by decide) (by decide) (by decide) ⟨by decide, by decide, by decide⟩
  · rw [tokC_two, core_two]
    have e : tokT x (leftI k) ++ signTk k :: tokT y (rightI k) = (tokT x (leftI k) ++ [signTk k]) ++ tokT y (rightI k) := by simp
    rw [e]
    have hsg : ∃ op, signL k = 32 :: (op ++ [32]) ∧ Says op [signTk k] := by
      rcases hk with rfl | rfl | rfl
      · exact ⟨[45, 62], rfl, says_arrow⟩
      · exact ⟨[42], rfl, sign_start (by simp)⟩
      · exact ⟨[43], rfl, sign_start (by simp)⟩
    obtain ⟨op, ho, hsay⟩ := hsg
    have h1 : Says (parT x (leftI k) ++ signL k) (tokT x (leftI k) ++ [signTk k]) := by
      rw [ho]
      exact says_append (par x _ bx) (says_blank (says_behind hsay)) (fun r _ => by rfl)
    intro rest N hr
    -- behind the blank stands the right part
    obtain ⟨vs, v1, v2, v3⟩ := par y (rightI k) by_ rest N hr
    have hx0 := par x (leftI k) bx
    obtain ⟨us, u1, u2, u3⟩ := hx0 (signL k ++ (parT y (rightI k) ++ rest)) N (by rw [ho]; rfl)
    obtain ⟨os, o1, o2, o3⟩ := hsay (32 :: (parT y (rightI k) ++ rest)) N (by rfl)
    refine ⟨us ++ (os ++ vs), ?_, ?_, ?_⟩
    · rw [List.append_assoc, List.append_assoc, u1]
      have e2 : signL k ++ (parT y (rightI k) ++ rest) = 32 :: (op ++ 32 :: (parT y (rightI k) ++ rest)) := by rw [ho]; simp
      rw [e2, scanA_blank, o1, scanA_blank, v1, pre_pre, pre_pre, List.append_assoc]
    · rw [List.map_append, List.map_append, u2, o2, v2]; simp
    · intro w hw
      rcases List.mem_append.1 hw with h | h
      · exact u3 w h
      · rcases List.mem_append.1 h with h | h
        · exact o3 w h
        · exact v3 w h
/-- The words of a right type's text. -/
theorem text_words (t : S35) (h : rightB t = true) (N : Nat) : ∃ ws, scanA N (core t) = .ok ws ∧ ws.map tkOf = tokC t := by
  obtain ⟨ws, h1, h2, h3⟩ := says_core t h [] N rfl
  rw [List.append_nil] at h1
  refine ⟨ws, ?_, h2⟩
  rw [h1]
  show preS ws (scanR 1 N []) = _
  simp [scanR, skipR, preS]
end Go.Proofs.Ytjmpejbciniceaa.X
/- A step of a range over a string, and what skip makes of it. -/
namespace Go.Proofs.Ytjmpejbciniceaa.X
open Go
set_option linter.unusedVariables false
set_option linter.unusedSimpArgs false

theorem get_in (t : ByteArray) (i : Nat) (h : i < t.size) : t.get! i = t[i]'h := by
  simp [ByteArray.get!, getElem!_pos, h]
  rfl
theorem cont_in {t : ByteArray} {pos k : Nat} (h : (decide (pos + k < t.size) && (t.get! (pos + k)).toNat / 64 == 2) = true) : ∃ h : pos + k < t.size, 128 ≤ (t[pos + k]'h).toNat := by
  simp only [Bool.and_eq_true, decide_eq_true_eq, beq_iff_eq] at h
  obtain ⟨h1, h2⟩ := h
  rw [get_in t _ h1] at h2
  exact ⟨h1, by omega⟩
/-- The bytes of a rune that is no ASCII one are none themselves. -/
theorem decode_bytes (t : ByteArray) (pos : Nat) (h : pos < t.size) (ha : 128 ≤ (t[pos]'h).toNat) : ∀ j, j < (Utf8.decode t pos).2 → ∃ h : pos + j < t.size, 128 ≤ (t[pos + j]'h).toNat := by
  have zero : ∃ h : pos + 0 < t.size, 128 ≤ (t[pos + 0]'h).toNat := ⟨h, ha⟩
  have hn : ¬ (t[pos]'h).toNat < 128 := by omega
  simp only [Utf8.decode, get_at t pos h, hn, if_false]
  intro j hj
  split at hj
  · rename_i h1
    simp only [Bool.and_eq_true] at h1
    have c1 := cont_in (k := 1) (by simpa using h1.2)
    split at hj
    · match j, hj with
      | 0, _ => exact zero
      | 1, _ => exact c1
    · match j, hj with
      | 0, _ => exact zero
  · split at hj
    · rename_i h1
      simp only [Bool.and_eq_true] at h1
      have c1 := cont_in (k := 1) (by simpa using h1.1.2)
      have c2 := cont_in (k := 2) (by simpa using h1.2)
      split at hj
      · match j, hj with
        | 0, _ => exact zero
        | 1, _ => exact c1
        | 2, _ => exact c2
      · match j, hj with
        | 0, _ => exact zero
    · split at hj
      · rename_i h1
        simp only [Bool.and_eq_true] at h1
        have c1 := cont_in (k := 1) (by simpa using h1.1.1.2)
        have c2 := cont_in (k := 2) (by simpa using h1.1.2)
        have c3 := cont_in (k := 3) (by simpa using h1.2)
        split at hj
        · match j, hj with
          | 0, _ => exact zero
          | 1, _ => exact c1
          | 2, _ => exact c2
          | 3, _ => exact c3
        · match j, hj with
          | 0, _ => exact zero
      · match j, hj with
        | 0, _ => exact zero
theorem drop_at (t : ByteArray) (i : Nat) (h : i < t.size) : t.data.toList.drop i = t[i] :: t.data.toList.drop (i + 1) := by
  rw [List.drop_eq_getElem_cons (by simpa using h)]
  rfl
theorem skip_high (t : ByteArray) (pos : Nat) : ∀ n, (∀ j, j < n → ∃ h : pos + j < t.size, 128 ≤ (t[pos + j]'h).toNat) → skipR (t.data.toList.drop pos) true = skipR (t.data.toList.drop (pos + n)) true := by
  intro n
  induction n with
  | zero => intro _; rfl
  | succ n ih =>
    intro h
    rw [ih (fun j hj => h j (by omega))]
    obtain ⟨h1, h2⟩ := h n (by omega)
    rw [drop_at t (pos + n) h1, skipR, if_neg (by intro e; rw [e] at h2; exact absurd h2 (by decide)), if_pos rfl]
    rfl
/-- One round of skip. -/
theorem skip_round (t : ByteArray) (pos : Nat) (h : pos < t.size) (rem : Bool) : ∃ (r : Int) (wd : Nat), ((Utf8.decode t pos).1 : Int) = r ∧ (Utf8.decode t pos).2 = wd ∧ 1 ≤ wd ∧ pos + wd ≤ t.size ∧ 0 ≤ r ∧ r ≤ 2147483647 ∧
    skipR (t.data.toList.drop pos) rem = if r = 10 then skipR (t.data.toList.drop (pos + wd)) false else if rem = true then skipR (t.data.toList.drop (pos + wd)) true else if r = 32 ∨ r = 9 ∨ r = 13 then skipR (t.data.toList.drop (pos + wd)) false else if r = 35 then skipR (t.data.toList.drop (pos + wd)) true else t.data.toList.drop pos := by
  refine ⟨_, _, rfl, rfl, ?_⟩
  by_cases ha : (t[pos]'h).toNat < 128
  · rw [decode_ascii t pos h ha]
    refine ⟨Nat.le_refl _, h, by simp, by simp; omega, ?_⟩
    rw [drop_at t pos h, skipR]
    have e : ∀ n : UInt8, t[pos] = n ↔ (((t[pos]'h).toNat : Nat) : Int) = (n.toNat : Int) := fun n => by
      rw [← UInt8.toNat_inj]; omega
    have hb : blankU t[pos] = true ↔ (((t[pos]'h).toNat : Nat) : Int) = 32 ∨ (((t[pos]'h).toNat : Nat) : Int) = 9 ∨ (((t[pos]'h).toNat : Nat) : Int) = 13 := by
      unfold blankU
      simp only [Bool.or_eq_true, beq_iff_eq, e]
      exact or_assoc
    have e10 : t[pos] = 10 ↔ (((t[pos]'h).toNat : Nat) : Int) = 10 := e 10
    have e35 : t[pos] = 35 ↔ (((t[pos]'h).toNat : Nat) : Int) = 35 := e 35
    dsimp only
    by_cases h1 : t[pos] = 10
    · rw [if_pos h1, if_pos (e10.1 h1)]
    rw [if_neg h1, if_neg (fun q => h1 (e10.2 q))]
    cases rem with
    | true => rfl
    | false =>
      simp only [Bool.false_eq_true, if_false]
      by_cases h2 : blankU t[pos] = true
      · rw [if_pos h2, if_pos (hb.1 h2)]
      rw [if_neg h2, if_neg (fun q => h2 (hb.2 q))]
      by_cases h3 : t[pos] = 35
      · rw [if_pos h3, if_pos (e35.1 h3)]
      · rw [if_neg h3, if_neg (fun q => h3 (e35.2 q))]
  · have hh := decode_high t pos h (by omega)
    have hle := decode_le t pos
    have hb := decode_bytes t pos h (by omega)
    obtain ⟨h9, _⟩ := hb ((Utf8.decode t pos).2 - 1) (by omega)
    refine ⟨hh.2, by omega, by omega, by omega, ?_⟩
    rw [if_neg (by omega)]
    cases rem with
    | true => rw [if_pos rfl]; exact skip_high t pos _ hb
    | false =>
      rw [if_neg (by simp), if_neg (by omega), if_neg (by omega), drop_at t pos h, skipR]
      have hn : ∀ n : UInt8, n.toNat < 128 → t[pos] ≠ n := fun n hn e => by rw [e] at ha; omega
      rw [if_neg (hn 10 (by decide)), if_neg (by simp), if_neg (by unfold blankU; simp [hn 32 (by decide), hn 9 (by decide), hn 13 (by decide)]), if_neg (hn 35 (by decide))]
end Go.Proofs.Ytjmpejbciniceaa.X
/- Printed through xprint.py, parted: scan.letter, digit, Key. -/
namespace Go.Proofs.Ytjmpejbciniceaa.X
open Go.RowKit Go.Proofs.YtjmpejbciniceaaW.PrintWords Go.Proofs.YtjmpejbciniceaaW.PrintLast Go.Proofs.YtjmpejbciniceaaW.PrintMore
attribute [local go_sem] max2_int min2_int max_two min_two max_three min_three max_four min_four   -- for this text's walks alone
set_option linter.unusedVariables false
set_option linter.unusedSimpArgs false

/-! ### scan_letter: function 32 -/
def scan_letter.f (a0 : Int) : Option (Bool) := if a0 ≥ 65 then (if a0 ≤ 90 then (some true) else (if a0 ≥ 97 then (if a0 ≤ 122 then (some true) else (some (a0 == 95))) else (some (a0 == 95)))) else (if a0 ≥ 97 then (if a0 ≤ 122 then (some true) else (some (a0 == 95))) else (some (a0 == 95)))
set_option maxHeartbeats 8000000 in
set_option maxRecDepth 100000 in
theorem scan_letter.calls (a0 : Int) (r : Bool) (w : World) (h : scan_letter.f a0 = some r) :
    Calls Try.prog 32 #[.int .u8 a0] w fun e w' => e = .returned (.bool r) ∧ Drawn0 w w' := by
  have H : (if a0 ≥ 65 then (if a0 ≤ 90 then (some true) else (if a0 ≥ 97 then (if a0 ≤ 122 then (some true) else (some (a0 == 95))) else (some (a0 == 95)))) else (if a0 ≥ 97 then (if a0 ≤ 122 then (some true) else (some (a0 == 95))) else (some (a0 == 95)))) = some r := h
  clear h
  by_cases c2 : a0 ≥ 65
  · rw [if_pos c2] at H
    have c2b0 : decide (65 ≤ a0) = true := decide_eq_true c2
    clear c2
    by_cases c3 : a0 ≤ 90
    · rw [if_pos c3] at H
      have c3b0 : decide (a0 ≤ 90) = true := decide_eq_true c3
      clear c3
      obtain rfl := Option.some.inj H
      go_enter Try.func32, Try.ntmps32
      go_wp2
      go_ret
      exact ⟨by first | rfl | (simp; done) | (simp [*]; done), by repeat (first | exact Drawn0.refl _ | apply Drawn0.step)⟩
    · rw [if_neg c3] at H
      have c3b0 : decide (a0 ≤ 90) = false := decide_eq_false c3
      clear c3
      by_cases c4 : a0 ≥ 97
      · rw [if_pos c4] at H
        have c4b0 : decide (97 ≤ a0) = true := decide_eq_true c4
        clear c4
        by_cases c5 : a0 ≤ 122
        · rw [if_pos c5] at H
          have c5b0 : decide (a0 ≤ 122) = true := decide_eq_true c5
          clear c5
          obtain rfl := Option.some.inj H
          go_enter Try.func32, Try.ntmps32
          go_wp2
          go_ret
          exact ⟨by first | rfl | (simp; done) | (simp [*]; done), by repeat (first | exact Drawn0.refl _ | apply Drawn0.step)⟩
        · rw [if_neg c5] at H
          have c5b0 : decide (a0 ≤ 122) = false := decide_eq_false c5
          clear c5
          obtain rfl := Option.some.inj H
          go_enter Try.func32, Try.ntmps32
          go_wp2
          go_ret
          exact ⟨by first | rfl | (simp; done) | (simp [*]; done), by repeat (first | exact Drawn0.refl _ | apply Drawn0.step)⟩
      · rw [if_neg c4] at H
        have c4b0 : decide (97 ≤ a0) = false := decide_eq_false c4
        clear c4
        obtain rfl := Option.some.inj H
        go_enter Try.func32, Try.ntmps32
        go_wp2
        go_ret
        exact ⟨by first | rfl | (simp; done) | (simp [*]; done), by repeat (first | exact Drawn0.refl _ | apply Drawn0.step)⟩
  · rw [if_neg c2] at H
    have c2b0 : decide (65 ≤ a0) = false := decide_eq_false c2
    clear c2
    by_cases c6 : a0 ≥ 97
    · rw [if_pos c6] at H
      have c6b0 : decide (97 ≤ a0) = true := decide_eq_true c6
      clear c6
      by_cases c7 : a0 ≤ 122
      · rw [if_pos c7] at H
        have c7b0 : decide (a0 ≤ 122) = true := decide_eq_true c7
        clear c7
        obtain rfl := Option.some.inj H
        go_enter Try.func32, Try.ntmps32
        go_wp2
        go_ret
        exact ⟨by first | rfl | (simp; done) | (simp [*]; done), by repeat (first | exact Drawn0.refl _ | apply Drawn0.step)⟩
      · rw [if_neg c7] at H
        have c7b0 : decide (a0 ≤ 122) = false := decide_eq_false c7
        clear c7
        obtain rfl := Option.some.inj H
        go_enter Try.func32, Try.ntmps32
        go_wp2
        go_ret
        exact ⟨by first | rfl | (simp; done) | (simp [*]; done), by repeat (first | exact Drawn0.refl _ | apply Drawn0.step)⟩
    · rw [if_neg c6] at H
      have c6b0 : decide (97 ≤ a0) = false := decide_eq_false c6
      clear c6
      obtain rfl := Option.some.inj H
      go_enter Try.func32, Try.ntmps32
      go_wp2
      go_ret
      exact ⟨by first | rfl | (simp; done) | (simp [*]; done), by repeat (first | exact Drawn0.refl _ | apply Drawn0.step)⟩

/-! ### scan_digit: function 37 -/
def scan_digit.f (a0 : Int) : Option (Bool) := if a0 ≥ 48 then (some (decide (a0 ≤ 57))) else (some false)
set_option maxHeartbeats 8000000 in
set_option maxRecDepth 100000 in
theorem scan_digit.calls (a0 : Int) (r : Bool) (w : World) (h : scan_digit.f a0 = some r) :
    Calls Try.prog 37 #[.int .u8 a0] w fun e w' => e = .returned (.bool r) ∧ Drawn0 w w' := by
  have H : (if a0 ≥ 48 then (some (decide (a0 ≤ 57))) else (some false)) = some r := h
  clear h
  by_cases c2 : a0 ≥ 48
  · rw [if_pos c2] at H
    have c2b0 : decide (48 ≤ a0) = true := decide_eq_true c2
    clear c2
    obtain rfl := Option.some.inj H
    go_enter Try.func37, Try.ntmps37
    go_wp2
    go_ret
    exact ⟨by first | rfl | (simp; done) | (simp [*]; done), by repeat (first | exact Drawn0.refl _ | apply Drawn0.step)⟩
  · rw [if_neg c2] at H
    have c2b0 : decide (48 ≤ a0) = false := decide_eq_false c2
    clear c2
    obtain rfl := Option.some.inj H
    go_enter Try.func37, Try.ntmps37
    go_wp2
    go_ret
    exact ⟨by first | rfl | (simp; done) | (simp [*]; done), by repeat (first | exact Drawn0.refl _ | apply Drawn0.step)⟩

/-- A state of type 54 at block g of W; what its slices lead to came in by w0. -/
def IsS54 (w0 W : World) (g : Nat) (f0 : ByteArray) (f1 : Int) (f2 : List (S29)) : Prop := ∃ A2 c2, W.heap[g]? = some (.cells #[.string f0, .int .i64 f1, .slice A2 f2.length c2] 54 (0, 0)) ∧ w0.heap.size ≤ g ∧ Kd.C k29 w0 A2 f2.length f2
theorem IsS54.grown {w0 W : World} {g : Nat} {f0 : ByteArray} {f1 : Int} {f2 : List (S29)} {W1 : World} {row : Option Nat} (h : IsS54 w0 W g f0 f1 f2) (hw : W.grownBy W1 row) (hne : some g ≠ row) : IsS54 w0 W1 g f0 f1 f2 := by
  obtain ⟨A2, c2, hb, hg, hr2⟩ := h
  exact ⟨A2, c2, blk_grown hb hw hne, hg, hr2⟩
theorem IsS54.own_neN {w0 W : World} {g : Nat} {f0 : ByteArray} {f1 : Int} {f2 : List (S29)} {α : Type} {d : Kd α} {e : Nat} {base : Nat} {ok : Nat → Prop} {v : Value} {xs : List α} (h : IsS54 w0 W g f0 f1 f2) (ho : Kd.N d e W base ok v xs) (ht : e ≠ 54) : some g ≠ v.ownBlock := by
  obtain ⟨A2, c2, hb, hg, hr2⟩ := h
  exact Kd.N_ne ho hb ht
theorem IsS54.fresh {w0 W : World} {g : Nat} {f0 : ByteArray} {f1 : Int} {f2 : List (S29)} (h : IsS54 w0 W g f0 f1 f2) : ∀ k, W.heap.size ≤ k → k ≠ g := by
  obtain ⟨A2, c2, hb, hg, hr2⟩ := h
  exact Kd.freshB hb
theorem IsS54.kept {w0 W : World} {g : Nat} {f0 : ByteArray} {f1 : Int} {f2 : List (S29)} {W1 : World} {S : Nat → Prop} (h : IsS54 w0 W g f0 f1 f2) (hk : Kept W W1 S) (hne : ¬ S g) : IsS54 w0 W1 g f0 f1 f2 := by
  obtain ⟨A2, c2, hb, hg, hr2⟩ := h
  exact ⟨A2, c2, blk_kept hb hk hne, hg, hr2⟩
theorem IsS54.below {w0 W : World} {g : Nat} {f0 : ByteArray} {f1 : Int} {f2 : List (S29)} {W1 : World} (h : IsS54 w0 W g f0 f1 f2) (hw : Below W.heap.size W W1) : IsS54 w0 W1 g f0 f1 f2 := h.grown (grown_of_below hw none) (by simp)
theorem IsS54.alloc {w0 W : World} {g : Nat} {f0 : ByteArray} {f1 : Int} {f2 : List (S29)} (h : IsS54 w0 W g f0 f1 f2) (o : Obj) : IsS54 w0 (W.alloc o) g f0 f1 f2 := h.below (below_alloc (Below.refl _ _) o)
theorem IsS54.drewN {w0 W : World} {g : Nat} {f0 : ByteArray} {f1 : Int} {f2 : List (S29)} (h : IsS54 w0 W g f0 f1 f2) (m : Nat) : IsS54 w0 (W.drewN m) g f0 f1 f2 := h
theorem IsS54.drew {w0 W : World} {g : Nat} {f0 : ByteArray} {f1 : Int} {f2 : List (S29)} (h : IsS54 w0 W g f0 f1 f2) : IsS54 w0 W.drew g f0 f1 f2 := h
theorem IsS54.at_ {w0 W : World} {g : Nat} {f0 : ByteArray} {f1 : Int} {f2 : List (S29)} {w' : World} {m : Nat} (hq : W.drewN m = w') (h : IsS54 w0 W g f0 f1 f2) : IsS54 w0 w' g f0 f1 f2 := by subst hq; exact IsS54.drewN h m
theorem IsS54.apart {w0 W : World} {g : Nat} {f0 : ByteArray} {f1 : Int} {f2 : List (S29)} {α : Type} {d : Kd α} {e : Nat} {base : Nat} {ok : Nat → Prop} {v : Value} {xs : List α} (h : IsS54 w0 W g f0 f1 f2) (ho : d.R e W base ok v xs) (ht : ∀ q, q ∈ e :: d.E → q ≠ 54) : d.R e W base (fun k => ok k ∧ k ≠ g) v xs := by
  obtain ⟨A2, c2, hb, hg, hr2⟩ := h
  exact Kd.R_types ho hb ht
theorem IsS54.own_ne {w0 W : World} {g : Nat} {f0 : ByteArray} {f1 : Int} {f2 : List (S29)} {α : Type} {d : Kd α} {e : Nat} {base : Nat} {ok : Nat → Prop} {v : Value} {xs : List α} (h : IsS54 w0 W g f0 f1 f2) (ho : d.R e W base ok v xs) (ht : e ≠ 54) : some g ≠ v.ownBlock := by
  obtain ⟨A2, c2, hb, hg, hr2⟩ := h
  exact Kd.R_ne ho hb ht
theorem IsS54.apartQ {w0 W : World} {g : Nat} {f0 : ByteArray} {f1 : Int} {f2 : List (S29)} {α : Type} {d : Kd α} {e : Nat} {base : Nat} {ok : Nat → Prop} {v : Value} {xs : List α} (h : IsS54 w0 W g f0 f1 f2) (ho : d.Q e W base ok v xs) (ht : ∀ q, q ∈ e :: d.E → q ≠ 54) : d.Q e W base (fun k => ok k ∧ k ≠ g) v xs := by
  obtain ⟨A2, c2, hb, hg, hr2⟩ := h
  exact Kd.Q_types ho hb ht
theorem IsS54.own_neQ {w0 W : World} {g : Nat} {f0 : ByteArray} {f1 : Int} {f2 : List (S29)} {α : Type} {d : Kd α} {e : Nat} {base : Nat} {ok : Nat → Prop} {v : Value} {xs : List α} (h : IsS54 w0 W g f0 f1 f2) (ho : d.Q e W base ok v xs) (ht : e ≠ 54) : some g ≠ v.ownBlock := by
  obtain ⟨A2, c2, hb, hg, hr2⟩ := h
  exact Kd.Q_ne ho hb ht
theorem IsS54.apartS {w0 W : World} {g : Nat} {f0 : ByteArray} {f1 : Int} {f2 : List (S29)} {α : Type} {d : Kd α} {e : Nat} {base : Nat} {ok : Nat → Prop} {v : Value} {xs : List α} (h : IsS54 w0 W g f0 f1 f2) (ho : d.S e W base ok v xs) (ht : ∀ q, q ∈ e :: d.E → q ≠ 54) : d.S e W base (fun k => ok k ∧ k ≠ g) v xs := by
  obtain ⟨A2, c2, hb, hg, hr2⟩ := h
  exact Kd.S_types ho hb ht
theorem IsS54.own_neS {w0 W : World} {g : Nat} {f0 : ByteArray} {f1 : Int} {f2 : List (S29)} {α : Type} {d : Kd α} {e : Nat} {base : Nat} {ok : Nat → Prop} {v : Value} {xs : List α} (h : IsS54 w0 W g f0 f1 f2) (ho : d.S e W base ok v xs) (ht : e ≠ 54) : some g ≠ v.ownBlock := by
  obtain ⟨A2, c2, hb, hg, hr2⟩ := h
  exact Kd.S_ne ho hb ht
theorem IsS54.lt {w0 W : World} {g : Nat} {f0 : ByteArray} {f1 : Int} {f2 : List (S29)} (h : IsS54 w0 W g f0 f1 f2) : g < W.heap.size := by
  obtain ⟨A2, c2, hb, hg, hr2⟩ := h
  exact blk_lt hb
theorem IsS54.ge {w0 W : World} {g : Nat} {f0 : ByteArray} {f1 : Int} {f2 : List (S29)} (h : IsS54 w0 W g f0 f1 f2) : w0.heap.size ≤ g := by
  obtain ⟨A2, c2, hb, hg, hr2⟩ := h
  exact hg
theorem IsS54.ne_blk {w0 W : World} {g : Nat} {f0 : ByteArray} {f1 : Int} {f2 : List (S29)} {a : Nat} {cs : Array Value} {t : TypeId} {fr : Nat × Nat} (h : IsS54 w0 W g f0 f1 f2) (hb2 : W.heap[a]? = some (.cells cs t fr)) (ht : t ≠ 54) : g ≠ a := by
  obtain ⟨A2, c2, hb, hg, hr2⟩ := h
  rintro rfl
  rw [hb] at hb2
  injection hb2 with hb2
  injection hb2 with _ ht2
  exact ht ht2.symm
theorem IsS54.far {w0 W : World} {g : Nat} {f0 : ByteArray} {f1 : Int} {f2 : List (S29)} {p : Addr} (h : IsS54 w0 W g f0 f1 f2) (hne : g ≠ p.block) (u : Value) : IsS54 w0 (W.setCell p u) g f0 f1 f2 := by
  obtain ⟨A2, c2, hb, hg, hr2⟩ := h
  exact ⟨A2, c2, blk_far hb hne u, hg, hr2⟩
theorem cellS54_0 {W : World} {g : Nat} {A2 : Option Addr} {c2 : Nat} {f0 : ByteArray} {f1 : Int} {f2 : List (S29)} (h : W.heap[g]? = some (.cells #[.string f0, .int .i64 f1, .slice A2 f2.length c2] 54 (0, 0))) : W.cell? ⟨g, 0, none⟩ = some (.string f0) := (blk_cell h 0).trans rfl
theorem IsS54.set_0 {w0 W : World} {g : Nat} {f0 : ByteArray} {f1 : Int} {f2 : List (S29)} (h : IsS54 w0 W g f0 f1 f2) (x : ByteArray) : IsS54 w0 (W.setCell ⟨g, 0, none⟩ (.string x)) g x f1 f2 := by
  obtain ⟨A2, c2, hb, hg, hr2⟩ := h
  exact ⟨A2, c2, by simpa using blk_set hb 0 (.string x), hg, hr2⟩
theorem cellS54_1 {W : World} {g : Nat} {A2 : Option Addr} {c2 : Nat} {f0 : ByteArray} {f1 : Int} {f2 : List (S29)} (h : W.heap[g]? = some (.cells #[.string f0, .int .i64 f1, .slice A2 f2.length c2] 54 (0, 0))) : W.cell? ⟨g, 1, none⟩ = some (.int .i64 f1) := (blk_cell h 1).trans rfl
theorem IsS54.set_1 {w0 W : World} {g : Nat} {f0 : ByteArray} {f1 : Int} {f2 : List (S29)} (h : IsS54 w0 W g f0 f1 f2) (x : Int) : IsS54 w0 (W.setCell ⟨g, 1, none⟩ (.int .i64 x)) g f0 x f2 := by
  obtain ⟨A2, c2, hb, hg, hr2⟩ := h
  exact ⟨A2, c2, by simpa using blk_set hb 1 (.int .i64 x), hg, hr2⟩
theorem cellS54_2 {W : World} {g : Nat} {A2 : Option Addr} {c2 : Nat} {f0 : ByteArray} {f1 : Int} {f2 : List (S29)} (h : W.heap[g]? = some (.cells #[.string f0, .int .i64 f1, .slice A2 f2.length c2] 54 (0, 0))) : W.cell? ⟨g, 2, none⟩ = some (.slice A2 f2.length c2) := (blk_cell h 2).trans rfl
theorem IsS54.new (w0 W : World) (A2 : Option Addr) (c2 : Nat) (f0 : ByteArray) (f1 : Int) (f2 : List (S29)) (hB : Below w0.heap.size w0 W) (hr2 : Kd.C k29 w0 A2 f2.length f2) : IsS54 w0 (W.alloc (.cells #[.string f0, .int .i64 f1, .slice A2 f2.length c2] 54)) W.heap.size f0 f1 f2 := ⟨A2, c2, by simpa using heap_alloc_new W _, hB.size, hr2⟩

/-! ### scan_Key: function 35 -/
def scan_Key.j0 : Nat → ByteArray → Bool → Option (Bool)
  | 0, _, _ => none
  | k + 1, x3, x4 => if x4 = true then (some true) else (if x3.toList = ([102, 115, 116] : List UInt8) then (some true) else (if x3.toList = ([115, 110, 100] : List UInt8) then (some true) else (if x3.toList = ([105, 110, 108] : List UInt8) then (some true) else (if x3.toList = ([105, 110, 114] : List UInt8) then (some true) else (if x3.toList = ([116, 114, 117, 101] : List UInt8) then (some true) else (if x3.toList = ([102, 97, 108, 115, 101] : List UInt8) then (some true) else (if x3.toList = ([105, 110, 116] : List UInt8) then (some true) else (if x3.toList = ([98, 111, 111, 108] : List UInt8) then (some true) else (some false)))))))))
def scan_Key.f (k : Nat) (a0 : ByteArray) : Option (Bool) := if a0.toList = ([108, 101, 116] : List UInt8) then (scan_Key.j0 k a0 (a0.toList == ([108, 101, 116] : List UInt8))) else (if a0.toList = ([105, 110] : List UInt8) then (scan_Key.j0 k a0 (a0.toList == ([105, 110] : List UInt8))) else (if a0.toList = ([105, 102] : List UInt8) then (scan_Key.j0 k a0 (a0.toList == ([105, 102] : List UInt8))) else (if a0.toList = ([116, 104, 101, 110] : List UInt8) then (scan_Key.j0 k a0 (a0.toList == ([116, 104, 101, 110] : List UInt8))) else (if a0.toList = ([101, 108, 115, 101] : List UInt8) then (scan_Key.j0 k a0 (a0.toList == ([101, 108, 115, 101] : List UInt8))) else (if a0.toList = ([114, 101, 99] : List UInt8) then (scan_Key.j0 k a0 (a0.toList == ([114, 101, 99] : List UInt8))) else (if a0.toList = ([99, 97, 115, 101] : List UInt8) then (scan_Key.j0 k a0 (a0.toList == ([99, 97, 115, 101] : List UInt8))) else (scan_Key.j0 k a0 (a0.toList == ([111, 102] : List UInt8)))))))))
theorem scan_Key.mono_l : ∀ k, (∀ y0 y1, LeO (scan_Key.j0 k y0 y1) (scan_Key.j0 (k + 1) y0 y1))
  | 0 => fun _ _ r h => by simp [scan_Key.j0] at h
  | k + 1 => by
    have ih0 := scan_Key.mono_l k
    · intro y0 y1
      unfold scan_Key.j0
      repeat' first
      | (with_reducible exact ih0 _ _)
      | (with_reducible exact LeO.refl _)
      | (with_reducible exact LeO.none _)
      | (with_reducible refine LeO.ite ?_ ?_)
      | (with_reducible refine LeO.bind ?_ (fun _ => ?_))
      | exact ih0 _ _
      | exact LeO.none _
      | refine LeO.ite ?_ ?_
      | refine LeO.bind ?_ (fun _ => ?_)
theorem scan_Key.mono : ∀ a0 k, LeO (scan_Key.f k a0) (scan_Key.f (k + 1) a0) := by
  intro a0 k
  have ih0 := scan_Key.mono_l k
  unfold scan_Key.f
  repeat' first
      | (with_reducible exact ih0 _ _)
      | (with_reducible exact LeO.refl _)
      | (with_reducible exact LeO.none _)
      | (with_reducible refine LeO.ite ?_ ?_)
      | (with_reducible refine LeO.bind ?_ (fun _ => ?_))
      | exact ih0 _ _
      | exact LeO.none _
      | refine LeO.ite ?_ ?_
      | refine LeO.bind ?_ (fun _ => ?_)
set_option maxHeartbeats 8000000 in
set_option maxRecDepth 100000 in
theorem scan_Key.calls (k : Nat) (a0 : ByteArray) (r : Bool) (w : World) (h : scan_Key.f k a0 = some r) :
    Calls Try.prog 35 #[.string a0] w fun e w' => e = .returned (.bool r) ∧ Drawn0 w w' := by
  have H : (if a0.toList = ([108, 101, 116] : List UInt8) then (scan_Key.j0 k a0 (a0.toList == ([108, 101, 116] : List UInt8))) else (if a0.toList = ([105, 110] : List UInt8) then (scan_Key.j0 k a0 (a0.toList == ([105, 110] : List UInt8))) else (if a0.toList = ([105, 102] : List UInt8) then (scan_Key.j0 k a0 (a0.toList == ([105, 102] : List UInt8))) else (if a0.toList = ([116, 104, 101, 110] : List UInt8) then (scan_Key.j0 k a0 (a0.toList == ([116, 104, 101, 110] : List UInt8))) else (if a0.toList = ([101, 108, 115, 101] : List UInt8) then (scan_Key.j0 k a0 (a0.toList == ([101, 108, 115, 101] : List UInt8))) else (if a0.toList = ([114, 101, 99] : List UInt8) then (scan_Key.j0 k a0 (a0.toList == ([114, 101, 99] : List UInt8))) else (if a0.toList = ([99, 97, 115, 101] : List UInt8) then (scan_Key.j0 k a0 (a0.toList == ([99, 97, 115, 101] : List UInt8))) else (scan_Key.j0 k a0 (a0.toList == ([111, 102] : List UInt8)))))))))) = some r := h
  clear h
  have HC2 := Aside0.mk H
  clear H
  go_enter Try.func35, Try.ntmps35
  go_upto_if 4 with (fail)
  go_cut [4] (fun v4 wc => ∃ (kq : Nat) (x4_1 : Bool), v4 = .bool x4_1 ∧ Aside0 (scan_Key.j0 kq a0 x4_1 = some r) ∧ Aside0 (kq ≤ k) ∧ Drawn0 w wc)
  case first =>
    have H := HC2.out
    clear HC2
    by_cases c3 : a0.toList = ([108, 101, 116] : List UInt8)
    · rw [if_pos c3] at H
      have c3b0 : (a0.toList == ([108, 101, 116] : List UInt8)) = true := beq_iff_eq.mpr c3
      have c3b1 : (a0.toList != ([108, 101, 116] : List UInt8)) = false := bne_eq_false_iff_eq.mpr c3
      clear c3
      (first | rw [c3b0] | (simp only [i64_w, i32_w]; rw [c3b0]) | skip)
      have H' := Aside0.mk H
      clear H
      go_wp2
      go_meet
      case rel => exact ⟨_, ((a0.toList == ([108, 101, 116] : List UInt8))), (by first | rfl | (simp; done) | (simp [*]; done)), H', ⟨by first | omega | exact Nat.le_refl _⟩, by repeat (first | exact Drawn0.refl _ | apply Drawn0.step)⟩
    · rw [if_neg c3] at H
      have c3b0 : (a0.toList == ([108, 101, 116] : List UInt8)) = false := beq_eq_false_iff_ne.mpr c3
      have c3b1 : (a0.toList != ([108, 101, 116] : List UInt8)) = true := bne_iff_ne.mpr c3
      (first | rw [c3b0] | (simp only [i64_w, i32_w]; rw [c3b0]) | skip)
      by_cases c4 : a0.toList = ([105, 110] : List UInt8)
      · rw [if_pos c4] at H
        have c4b0 : (a0.toList == ([105, 110] : List UInt8)) = true := beq_iff_eq.mpr c4
        have c4b1 : (a0.toList != ([105, 110] : List UInt8)) = false := bne_eq_false_iff_eq.mpr c4
        clear c4
        have H' := Aside0.mk H
        clear H
        go_wp2
        go_meet
        case rel => exact ⟨_, ((a0.toList == ([105, 110] : List UInt8))), (by first | rfl | (simp; done) | (simp [*]; done)), H', ⟨by first | omega | exact Nat.le_refl _⟩, by repeat (first | exact Drawn0.refl _ | apply Drawn0.step)⟩
      · rw [if_neg c4] at H
        have c4b0 : (a0.toList == ([105, 110] : List UInt8)) = false := beq_eq_false_iff_ne.mpr c4
        have c4b1 : (a0.toList != ([105, 110] : List UInt8)) = true := bne_iff_ne.mpr c4
        by_cases c5 : a0.toList = ([105, 102] : List UInt8)
        · rw [if_pos c5] at H
          have c5b0 : (a0.toList == ([105, 102] : List UInt8)) = true := beq_iff_eq.mpr c5
          have c5b1 : (a0.toList != ([105, 102] : List UInt8)) = false := bne_eq_false_iff_eq.mpr c5
          clear c5
          have H' := Aside0.mk H
          clear H
          go_wp2
          go_meet
          case rel => exact ⟨_, ((a0.toList == ([105, 102] : List UInt8))), (by first | rfl | (simp; done) | (simp [*]; done)), H', ⟨by first | omega | exact Nat.le_refl _⟩, by repeat (first | exact Drawn0.refl _ | apply Drawn0.step)⟩
        · rw [if_neg c5] at H
          have c5b0 : (a0.toList == ([105, 102] : List UInt8)) = false := beq_eq_false_iff_ne.mpr c5
          have c5b1 : (a0.toList != ([105, 102] : List UInt8)) = true := bne_iff_ne.mpr c5
          by_cases c6 : a0.toList = ([116, 104, 101, 110] : List UInt8)
          · rw [if_pos c6] at H
            have c6b0 : (a0.toList == ([116, 104, 101, 110] : List UInt8)) = true := beq_iff_eq.mpr c6
            have c6b1 : (a0.toList != ([116, 104, 101, 110] : List UInt8)) = false := bne_eq_false_iff_eq.mpr c6
            clear c6
            have H' := Aside0.mk H
            clear H
            go_wp2
            go_meet
            case rel => exact ⟨_, ((a0.toList == ([116, 104, 101, 110] : List UInt8))), (by first | rfl | (simp; done) | (simp [*]; done)), H', ⟨by first | omega | exact Nat.le_refl _⟩, by repeat (first | exact Drawn0.refl _ | apply Drawn0.step)⟩
          · rw [if_neg c6] at H
            have c6b0 : (a0.toList == ([116, 104, 101, 110] : List UInt8)) = false := beq_eq_false_iff_ne.mpr c6
            have c6b1 : (a0.toList != ([116, 104, 101, 110] : List UInt8)) = true := bne_iff_ne.mpr c6
            by_cases c7 : a0.toList = ([101, 108, 115, 101] : List UInt8)
            · rw [if_pos c7] at H
              have c7b0 : (a0.toList == ([101, 108, 115, 101] : List UInt8)) = true := beq_iff_eq.mpr c7
              have c7b1 : (a0.toList != ([101, 108, 115, 101] : List UInt8)) = false := bne_eq_false_iff_eq.mpr c7
              clear c7
              have H' := Aside0.mk H
              clear H
              go_wp2
              go_meet
              case rel => exact ⟨_, ((a0.toList == ([101, 108, 115, 101] : List UInt8))), (by first | rfl | (simp; done) | (simp [*]; done)), H', ⟨by first | omega | exact Nat.le_refl _⟩, by repeat (first | exact Drawn0.refl _ | apply Drawn0.step)⟩
            · rw [if_neg c7] at H
              have c7b0 : (a0.toList == ([101, 108, 115, 101] : List UInt8)) = false := beq_eq_false_iff_ne.mpr c7
              have c7b1 : (a0.toList != ([101, 108, 115, 101] : List UInt8)) = true := bne_iff_ne.mpr c7
              by_cases c8 : a0.toList = ([114, 101, 99] : List UInt8)
              · rw [if_pos c8] at H
                have c8b0 : (a0.toList == ([114, 101, 99] : List UInt8)) = true := beq_iff_eq.mpr c8
                have c8b1 : (a0.toList != ([114, 101, 99] : List UInt8)) = false := bne_eq_false_iff_eq.mpr c8
                clear c8
                have H' := Aside0.mk H
                clear H
                go_wp2
                go_meet
                case rel => exact ⟨_, ((a0.toList == ([114, 101, 99] : List UInt8))), (by first | rfl | (simp; done) | (simp [*]; done)), H', ⟨by first | omega | exact Nat.le_refl _⟩, by repeat (first | exact Drawn0.refl _ | apply Drawn0.step)⟩
              · rw [if_neg c8] at H
                have c8b0 : (a0.toList == ([114, 101, 99] : List UInt8)) = false := beq_eq_false_iff_ne.mpr c8
                have c8b1 : (a0.toList != ([114, 101, 99] : List UInt8)) = true := bne_iff_ne.mpr c8
                by_cases c9 : a0.toList = ([99, 97, 115, 101] : List UInt8)
                · rw [if_pos c9] at H
                  have c9b0 : (a0.toList == ([99, 97, 115, 101] : List UInt8)) = true := beq_iff_eq.mpr c9
                  have c9b1 : (a0.toList != ([99, 97, 115, 101] : List UInt8)) = false := bne_eq_false_iff_eq.mpr c9
                  clear c9
                  have H' := Aside0.mk H
                  clear H
                  go_wp2
                  go_meet
                  case rel => exact ⟨_, ((a0.toList == ([99, 97, 115, 101] : List UInt8))), (by first | rfl | (simp; done) | (simp [*]; done)), H', ⟨by first | omega | exact Nat.le_refl _⟩, by repeat (first | exact Drawn0.refl _ | apply Drawn0.step)⟩
                · rw [if_neg c9] at H
                  have c9b0 : (a0.toList == ([99, 97, 115, 101] : List UInt8)) = false := beq_eq_false_iff_ne.mpr c9
                  have c9b1 : (a0.toList != ([99, 97, 115, 101] : List UInt8)) = true := bne_iff_ne.mpr c9
                  have H' := Aside0.mk H
                  clear H
                  go_wp2
                  go_meet
                  case rel => exact ⟨_, ((a0.toList == ([111, 102] : List UInt8))), (by first | rfl | (simp; done) | (simp [*]; done)), H', ⟨by first | omega | exact Nat.le_refl _⟩, by repeat (first | exact Drawn0.refl _ | apply Drawn0.step)⟩
  case rest =>
    clear HC2
    try clear p2
    try clear c3
    try clear c3b0
    try clear c3b1
    try clear c4
    try clear c4b0
    try clear c4b1
    try clear c5
    try clear c5b0
    try clear c5b1
    try clear c6
    try clear c6b0
    try clear c6b1
    try clear c7
    try clear c7b0
    try clear c7b1
    try clear c8
    try clear c8b0
    try clear c8b1
    try clear c9
    try clear c9b0
    try clear c9b1
    obtain ⟨kq, x4_1, rfl, HA, HJ1, ⟨mc1, rfl⟩⟩ := hcut
    cases kq with
    | zero => exact absurd HA.out (by simp [scan_Key.j0])
    | succ kj1 =>
      have H := HA.out
      clear HA
      simp only [scan_Key.j0] at H
      by_cases c10 : x4_1 = true
      · subst c10
        have H1 : (some true) = some r := by rw [if_pos rfl] at H; exact H
        clear H
        have H := H1
        clear H1
        obtain rfl := Option.some.inj H
        go_wp2
        go_ret
        exact ⟨by first | rfl | (simp; done) | (simp [*]; done), by repeat (first | exact Drawn0.refl _ | apply Drawn0.step)⟩
      · replace c10 := Bool.eq_false_iff.mpr c10
        subst c10
        have H1 : (if a0.toList = ([102, 115, 116] : List UInt8) then (some true) else (if a0.toList = ([115, 110, 100] : List UInt8) then (some true) else (if a0.toList = ([105, 110, 108] : List UInt8) then (some true) else (if a0.toList = ([105, 110, 114] : List UInt8) then (some true) else (if a0.toList = ([116, 114, 117, 101] : List UInt8) then (some true) else (if a0.toList = ([102, 97, 108, 115, 101] : List UInt8) then (some true) else (if a0.toList = ([105, 110, 116] : List UInt8) then (some true) else (if a0.toList = ([98, 111, 111, 108] : List UInt8) then (some true) else (some false))))))))) = some r := by rw [if_neg (show ¬ (false = true) by decide)] at H; exact H
        clear H
        have H := H1
        clear H1
        by_cases c11 : a0.toList = ([102, 115, 116] : List UInt8)
        · rw [if_pos c11] at H
          have c11b0 : (a0.toList == ([102, 115, 116] : List UInt8)) = true := beq_iff_eq.mpr c11
          have c11b1 : (a0.toList != ([102, 115, 116] : List UInt8)) = false := bne_eq_false_iff_eq.mpr c11
          clear c11
          obtain rfl := Option.some.inj H
          go_wp2
          go_ret
          exact ⟨by first | rfl | (simp; done) | (simp [*]; done), by repeat (first | exact Drawn0.refl _ | apply Drawn0.step)⟩
        · rw [if_neg c11] at H
          have c11b0 : (a0.toList == ([102, 115, 116] : List UInt8)) = false := beq_eq_false_iff_ne.mpr c11
          have c11b1 : (a0.toList != ([102, 115, 116] : List UInt8)) = true := bne_iff_ne.mpr c11
          by_cases c12 : a0.toList = ([115, 110, 100] : List UInt8)
          · rw [if_pos c12] at H
            have c12b0 : (a0.toList == ([115, 110, 100] : List UInt8)) = true := beq_iff_eq.mpr c12
            have c12b1 : (a0.toList != ([115, 110, 100] : List UInt8)) = false := bne_eq_false_iff_eq.mpr c12
            clear c12
            obtain rfl := Option.some.inj H
            go_wp2
            go_ret
            exact ⟨by first | rfl | (simp; done) | (simp [*]; done), by repeat (first | exact Drawn0.refl _ | apply Drawn0.step)⟩
          · rw [if_neg c12] at H
            have c12b0 : (a0.toList == ([115, 110, 100] : List UInt8)) = false := beq_eq_false_iff_ne.mpr c12
            have c12b1 : (a0.toList != ([115, 110, 100] : List UInt8)) = true := bne_iff_ne.mpr c12
            by_cases c13 : a0.toList = ([105, 110, 108] : List UInt8)
            · rw [if_pos c13] at H
              have c13b0 : (a0.toList == ([105, 110, 108] : List UInt8)) = true := beq_iff_eq.mpr c13
              have c13b1 : (a0.toList != ([105, 110, 108] : List UInt8)) = false := bne_eq_false_iff_eq.mpr c13
              clear c13
              obtain rfl := Option.some.inj H
              go_wp2
              go_ret
              exact ⟨by first | rfl | (simp; done) | (simp [*]; done), by repeat (first | exact Drawn0.refl _ | apply Drawn0.step)⟩
            · rw [if_neg c13] at H
              have c13b0 : (a0.toList == ([105, 110, 108] : List UInt8)) = false := beq_eq_false_iff_ne.mpr c13
              have c13b1 : (a0.toList != ([105, 110, 108] : List UInt8)) = true := bne_iff_ne.mpr c13
              by_cases c14 : a0.toList = ([105, 110, 114] : List UInt8)
              · rw [if_pos c14] at H
                have c14b0 : (a0.toList == ([105, 110, 114] : List UInt8)) = true := beq_iff_eq.mpr c14
                have c14b1 : (a0.toList != ([105, 110, 114] : List UInt8)) = false := bne_eq_false_iff_eq.mpr c14
                clear c14
                obtain rfl := Option.some.inj H
                go_wp2
                go_ret
                exact ⟨by first | rfl | (simp; done) | (simp [*]; done), by repeat (first | exact Drawn0.refl _ | apply Drawn0.step)⟩
              · rw [if_neg c14] at H
                have c14b0 : (a0.toList == ([105, 110, 114] : List UInt8)) = false := beq_eq_false_iff_ne.mpr c14
                have c14b1 : (a0.toList != ([105, 110, 114] : List UInt8)) = true := bne_iff_ne.mpr c14
                by_cases c15 : a0.toList = ([116, 114, 117, 101] : List UInt8)
                · rw [if_pos c15] at H
                  have c15b0 : (a0.toList == ([116, 114, 117, 101] : List UInt8)) = true := beq_iff_eq.mpr c15
                  have c15b1 : (a0.toList != ([116, 114, 117, 101] : List UInt8)) = false := bne_eq_false_iff_eq.mpr c15
                  clear c15
                  obtain rfl := Option.some.inj H
                  go_wp2
                  go_ret
                  exact ⟨by first | rfl | (simp; done) | (simp [*]; done), by repeat (first | exact Drawn0.refl _ | apply Drawn0.step)⟩
                · rw [if_neg c15] at H
                  have c15b0 : (a0.toList == ([116, 114, 117, 101] : List UInt8)) = false := beq_eq_false_iff_ne.mpr c15
                  have c15b1 : (a0.toList != ([116, 114, 117, 101] : List UInt8)) = true := bne_iff_ne.mpr c15
                  by_cases c16 : a0.toList = ([102, 97, 108, 115, 101] : List UInt8)
                  · rw [if_pos c16] at H
                    have c16b0 : (a0.toList == ([102, 97, 108, 115, 101] : List UInt8)) = true := beq_iff_eq.mpr c16
                    have c16b1 : (a0.toList != ([102, 97, 108, 115, 101] : List UInt8)) = false := bne_eq_false_iff_eq.mpr c16
                    clear c16
                    obtain rfl := Option.some.inj H
                    go_wp2
                    go_ret
                    exact ⟨by first | rfl | (simp; done) | (simp [*]; done), by repeat (first | exact Drawn0.refl _ | apply Drawn0.step)⟩
                  · rw [if_neg c16] at H
                    have c16b0 : (a0.toList == ([102, 97, 108, 115, 101] : List UInt8)) = false := beq_eq_false_iff_ne.mpr c16
                    have c16b1 : (a0.toList != ([102, 97, 108, 115, 101] : List UInt8)) = true := bne_iff_ne.mpr c16
                    by_cases c17 : a0.toList = ([105, 110, 116] : List UInt8)
                    · rw [if_pos c17] at H
                      have c17b0 : (a0.toList == ([105, 110, 116] : List UInt8)) = true := beq_iff_eq.mpr c17
                      have c17b1 : (a0.toList != ([105, 110, 116] : List UInt8)) = false := bne_eq_false_iff_eq.mpr c17
                      clear c17
                      obtain rfl := Option.some.inj H
                      go_wp2
                      go_ret
                      exact ⟨by first | rfl | (simp; done) | (simp [*]; done), by repeat (first | exact Drawn0.refl _ | apply Drawn0.step)⟩
                    · rw [if_neg c17] at H
                      have c17b0 : (a0.toList == ([105, 110, 116] : List UInt8)) = false := beq_eq_false_iff_ne.mpr c17
                      have c17b1 : (a0.toList != ([105, 110, 116] : List UInt8)) = true := bne_iff_ne.mpr c17
                      by_cases c18 : a0.toList = ([98, 111, 111, 108] : List UInt8)
                      · rw [if_pos c18] at H
                        have c18b0 : (a0.toList == ([98, 111, 111, 108] : List UInt8)) = true := beq_iff_eq.mpr c18
                        have c18b1 : (a0.toList != ([98, 111, 111, 108] : List UInt8)) = false := bne_eq_false_iff_eq.mpr c18
                        clear c18
                        obtain rfl := Option.some.inj H
                        go_wp2
                        go_ret
                        exact ⟨by first | rfl | (simp; done) | (simp [*]; done), by repeat (first | exact Drawn0.refl _ | apply Drawn0.step)⟩
                      · rw [if_neg c18] at H
                        have c18b0 : (a0.toList == ([98, 111, 111, 108] : List UInt8)) = false := beq_eq_false_iff_ne.mpr c18
                        have c18b1 : (a0.toList != ([98, 111, 111, 108] : List UInt8)) = true := bne_iff_ne.mpr c18
                        obtain rfl := Option.some.inj H
                        go_wp2
                        go_ret
                        exact ⟨by first | rfl | (simp; done) | (simp [*]; done), by repeat (first | exact Drawn0.refl _ | apply Drawn0.step)⟩

end Go.Proofs.Ytjmpejbciniceaa.X
/- The reader of scan in memory, and the contract of its method skip. -/
namespace Go.Proofs.Ytjmpejbciniceaa.X
open Go.RowKit Go.Proofs.YtjmpejbciniceaaW.PrintWords Go.Proofs.YtjmpejbciniceaaW.PrintLast Go.Proofs.YtjmpejbciniceaaW.PrintMore
set_option linter.unusedVariables false
set_option linter.unusedSimpArgs false

/-- A reader in block g: its text, its place, its words (of its own). -/
structure Rd (w0 : World) (g : Nat) (s : ByteArray) (a : Nat) (v : Value) (ws : List S29) (w : World) : Prop where
  blk : w.heap[g]? = some (.cells #[.string s, .int .i64 (a : Int), v] 54 (0, 0))
  row : k29.R 29 w w0.heap.size (fun b => b ≠ g) v ws
  low : w0.heap.size ≤ g
  below : Below w0.heap.size w0 w
theorem Rd.after {w0 : World} {g : Nat} {s : ByteArray} {a : Nat} {v : Value} {ws : List S29} {w w' : World} (h : Rd w0 g s a v ws w) (hb : Below w.heap.size w w') : Rd w0 g s a v ws w' :=
  ⟨blk_below h.blk hb, Kd.R_below h.row hb, h.low, below_then h.below h.below.size hb⟩
theorem Rd.move {w0 : World} {g : Nat} {s : ByteArray} {a : Nat} {v : Value} {ws : List S29} {w : World} (h : Rd w0 g s a v ws w) (a' : Nat) : Rd w0 g s a' v ws (w.setCell ⟨g, 1, none⟩ (.int .i64 (a' : Int))) :=
  ⟨blk_put h.blk 1 _ (by simp), Kd.R_far h.row (p := ⟨g, 1, none⟩) (fun b hb => hb) _, h.low, h.below.setCell (p := ⟨g, 1, none⟩) h.low _⟩
def RdPost (w0 : World) (g : Nat) (s : ByteArray) (a : Nat) (v : Value) (ws : List S29) (e : Ending) (w' : World) : Prop := e = .returned (.tuple #[]) ∧ Rd w0 g s a v ws w'
theorem iter_below (w : World) (t : ByteArray) (p : Nat) : Below w.heap.size w (w.iter t p) := (Below.refl _ _).alloc (Nat.le_refl _) _
def skipTo (s : ByteArray) (a : Nat) : Nat := s.size - (skipR (s.data.toList.drop a) false).length
theorem tail_list (s : ByteArray) (a : Nat) (h : a ≤ s.size) : (s.extract a s.size).data.toList = s.data.toList.drop a := by
  simp
  exact List.take_of_length_le (by simp)
theorem tail_size (s : ByteArray) (a : Nat) (h : a ≤ s.size) : (s.extract a s.size).size = s.size - a := by
  simp
set_option maxRecDepth 100000 in
set_option maxHeartbeats 1600000 in
theorem skip_calls (w0 : World) (g : Nat) (s : ByteArray) (a : Nat) (v : Value) (ws : List S29) (w : World) (h : Rd w0 g s a v ws w) (ha : a ≤ s.size) (hs : s.size ≤ 65536) :
    Calls Try.prog 16 #[.pointer (some ⟨g, 0, none⟩)] w (RdPost w0 g s (skipTo s a) v ws) := by
  have HR := Aside0.mk h
  have hT := tail_list s a ha
  have hZ := tail_size s a ha
  obtain ⟨t, ht⟩ : ∃ t, t = s.extract a s.size := ⟨_, rfl⟩
  rw [← ht] at hT hZ
  have HT := Aside0.mk hT
  have HZ := Aside0.mk hZ
  have HTE := Aside0.mk ht
  clear h hT hZ ht
  go_enter Try.func16, Try.ntmps16
  go_wp2_with fail
  have OK := Aside0.mk (fun (w' : World) (h : Below w.heap.size w w') => (⟨(blk_cell (blk_below HR.out.blk h) 0).trans rfl, (blk_cell (blk_below HR.out.blk h) 1).trans rfl⟩ : w'.cell? ⟨g, 0, none⟩ = some (.string s) ∧ w'.cell? ⟨g, 1, none⟩ = some (.int .i64 (a : Int))))
  have HBW := Aside0.mk (Below.refl w.heap.size w)
  refine wp_region_held_drew (S := (fun w' => w'.cell? ⟨g, 0, none⟩ = some (.string s) ∧ w'.cell? ⟨g, 1, none⟩ = some (.int .i64 (a : Int)))) (by kernel_rfl) (OK.out _ HBW.out.drew) (fun hHeld => ?_)
  replace HR := Aside0.mk (HR.out.after HBW.out.drew)
  refine takeA 5 0 (v := ?_) ?_ hHeld ?_
  rotate_left
  · intro w hSw
    try dsimp only at hSw
    go_simp <;> with_reducible rfl
  try simp only [Act.put, List.setIfInBounds_toArray, List.set_cons_zero, List.set_cons_succ]
  refine takeA 6 1 (v := ?_) ?_ hHeld ?_
  rotate_left
  · intro w hSw
    try dsimp only at hSw
    go_simp <;> with_reducible rfl
  try simp only [Act.put, List.setIfInBounds_toArray, List.set_cons_zero, List.set_cons_succ]
  refine takeA 7 2 (v := ?_) ?_ hHeld ?_
  rotate_left
  · intro w hSw
    try dsimp only at hSw
    go_simp <;> with_reducible rfl
  try simp only [Act.put, List.setIfInBounds_toArray, List.set_cons_zero, List.set_cons_succ]
  refine takeA 8 3 (v := ?_) ?_ hHeld ?_
  rotate_left
  · intro w hSw
    try dsimp only at hSw
    go_simp <;> with_reducible rfl
  try simp only [Act.put, List.setIfInBounds_toArray, List.set_cons_zero, List.set_cons_succ]
  refine takeA 9 4 (v := ?_) ?_ hHeld ?_
  rotate_left
  · intro w hSw
    try dsimp only at hSw
    go_simp <;> with_reducible rfl
  try simp only [Act.put, List.setIfInBounds_toArray, List.set_cons_zero, List.set_cons_succ]
  refine takeA 10 5 (v := ?_) ?_ hHeld ?_
  rotate_left
  · intro w hSw
    try dsimp only at hSw
    go_simp <;> with_reducible rfl
  try simp only [Act.put, List.setIfInBounds_toArray, List.set_cons_zero, List.set_cons_succ]
  refine takeA 11 6 (v := ?_) ?_ hHeld ?_
  rotate_left
  · intro w hSw
    try dsimp only at hSw
    go_simp <;> with_reducible rfl
  try simp only [Act.put, List.setIfInBounds_toArray, List.set_cons_zero, List.set_cons_succ]
  refine takeA 12 7 (v := ?_) ?_ hHeld ?_
  rotate_left
  · intro w hSw
    try dsimp only at hSw
    go_simp <;> with_reducible rfl
  try simp only [Act.put, List.setIfInBounds_toArray, List.set_cons_zero, List.set_cons_succ]
  refine takeA 13 8 (v := ?_) ?_ hHeld ?_
  rotate_left
  · intro w hSw
    try dsimp only at hSw
    go_simp <;> with_reducible rfl
  try simp only [Act.put, List.setIfInBounds_toArray, List.set_cons_zero, List.set_cons_succ]
  rw [← HTE.out]
  have hB1 := iter_below w.drew t 0
  refine wpAnyH_ready (rs := [9]) (by kernel_rfl) (by simp) ?_
  refine AllReadyH.cons rfl (fun K hK => ?_) AllReadyH.nil
  go_simp
  refine hK.out _ _ (OK.out _ (below_then HBW.out.drew HBW.out.drew.size hB1)) (fun hHeld => ?_)
  clear hK K
  refine wpAnyH_done (by kernel_rfl) ?_ _
  clear hB1 OK HBW
  go_wp2_with fail
  go_loopw [2] (fun f wr => ∃ (rem : Bool) (pos : Nat), f = .bool rem ∧ wr = w.drew.iter t pos ∧ pos ≤ t.size ∧ skipR (t.data.toList.drop pos) rem = skipR t.data.toList false) (fun _ wr => t.size - wr.iterPos w.heap.size)
  case atStart => exact ⟨false, 0, rfl, rfl, Nat.zero_le _, by simp⟩
  case round =>
    obtain ⟨rem, pos, rfl, rfl, hp, hsk⟩ := hrel
    have HSK := Aside0.mk hsk
    clear hsk
    by_cases hlt : pos < t.size
    · obtain ⟨r, wd, hr, hw, h1, h2, h3, h4, hstep⟩ := skip_round t pos hlt rem
      have hnx : ∀ ty, (Instr.next (.pointer (some ⟨w.heap.size, 0, none⟩)) true ty).run Try.prog (w.drew.iter t pos) = .ok (.tuple #[.bool true, .int .i64 pos, .int .i32 r]) (w.drew.iter t (pos + wd)) := fun ty => by have := run_next_any (P := Try.prog) w.drew t pos ty hlt; rw [hr, hw] at this; exact this
      have HST := Aside0.mk hstep
      clear hstep hr hw
      have HR2 := Aside0.mk (HR.out.after (iter_below w.drew t (pos + wd)))
      clear hHeld
      by_cases c10 : r = 10
      · have hs2 := HST.out
        rw [if_pos c10, HSK.out] at hs2
        have HS2 := Aside0.mk hs2.symm
        subst c10
        clear hs2 HST HR2
        go_wp2_with fail
        go_roundw
        case rel => exact ⟨false, pos + wd, rfl, rfl, h2, HS2.out⟩
        case measure => simp only [show w.heap.size = w.drew.heap.size from rfl, World.iterPos_iter]; omega
      have d10 : (r == 10) = false := by simp [c10]
      cases rem with
      | true =>
        have hs2 := HST.out
        rw [if_neg c10, if_pos rfl, HSK.out] at hs2
        have HS2 := Aside0.mk hs2.symm
        clear hs2 HST HR2 c10
        go_wp2_with fail
        go_roundw
        case rel => exact ⟨true, pos + wd, rfl, rfl, h2, HS2.out⟩
        case measure => simp only [show w.heap.size = w.drew.heap.size from rfl, World.iterPos_iter]; omega
      | false =>
        by_cases c32 : r = 32
        · have hs2 := HST.out
          rw [if_neg c10, if_neg (by simp), if_pos (.inl c32), HSK.out] at hs2
          have HS2 := Aside0.mk hs2.symm
          subst c32
          clear hs2 HST HR2 c10 d10
          go_wp2_with fail
          go_roundw
          case rel => exact ⟨false, pos + wd, rfl, rfl, h2, HS2.out⟩
          case measure => simp only [show w.heap.size = w.drew.heap.size from rfl, World.iterPos_iter]; omega
        have d32 : (r == 32) = false := by simp [c32]
        by_cases c9 : r = 9
        · have hs2 := HST.out
          rw [if_neg c10, if_neg (by simp), if_pos (.inr (.inl c9)), HSK.out] at hs2
          have HS2 := Aside0.mk hs2.symm
          subst c9
          clear hs2 HST HR2 c10 d10 c32 d32
          go_wp2_with fail
          go_roundw
          case rel => exact ⟨false, pos + wd, rfl, rfl, h2, HS2.out⟩
          case measure => simp only [show w.heap.size = w.drew.heap.size from rfl, World.iterPos_iter]; omega
        have d9 : (r == 9) = false := by simp [c9]
        by_cases c13 : r = 13
        · have hs2 := HST.out
          rw [if_neg c10, if_neg (by simp), if_pos (.inr (.inr c13)), HSK.out] at hs2
          have HS2 := Aside0.mk hs2.symm
          subst c13
          clear hs2 HST HR2 c10 d10 c32 d32 c9 d9
          go_wp2_with fail
          go_roundw
          case rel => exact ⟨false, pos + wd, rfl, rfl, h2, HS2.out⟩
          case measure => simp only [show w.heap.size = w.drew.heap.size from rfl, World.iterPos_iter]; omega
        have d13 : (r == 13) = false := by simp [c13]
        have hno : ¬ (r = 32 ∨ r = 9 ∨ r = 13) := fun h => by rcases h with h | h | h <;> contradiction
        by_cases c35 : r = 35
        · have hs2 := HST.out
          rw [if_neg c10, if_neg (by simp), if_neg hno, if_pos c35, HSK.out] at hs2
          have HS2 := Aside0.mk hs2.symm
          subst c35
          clear hs2 HST HR2 c10 d10 c32 d32 c9 d9 c13 d13 hno
          go_wp2_with fail
          go_roundw
          case rel => exact ⟨true, pos + wd, rfl, rfl, h2, HS2.out⟩
          case measure => simp only [show w.heap.size = w.drew.heap.size from rfl, World.iterPos_iter]; omega
        have d35 : (r == 35) = false := by simp [c35]
        have hs2 := HST.out
        rw [if_neg c10, if_neg (by simp), if_neg hno, if_neg c35, HSK.out] at hs2
        have HE : Aside0 (skipTo s a = a + pos) := .mk (by
          unfold skipTo
          rw [← HT.out, hs2, List.length_drop]
          have h8 := HZ.out
          have h9 : t.data.toList.length = t.size := by simp
          omega)
        have HF := Aside0.mk (HR2.out.move (a + pos))
        have e1 := (blk_cell HR2.out.blk 1).trans rfl
        have z1 := blk_frozen HR2.out.blk 1
        simp at e1
        have hz := HZ.out
        clear hs2 HST HR2 c10 c32 c9 c13 hno c35
        go_wp2_with fail
        go_end0
        refine ⟨rfl, ?_⟩
        rw [HE.out]
        exact HF.out
    · obtain rfl : pos = t.size := by omega
      have hnx : ∀ ty, (Instr.next (.pointer (some ⟨w.heap.size, 0, none⟩)) true ty).run Try.prog (w.drew.iter t t.size) = .ok (.tuple #[.bool false]) (w.drew.iter t t.size) := fun ty => run_next_end w.drew t t.size ty hlt
      have HR2 := Aside0.mk (HR.out.after (iter_below w.drew t t.size))
      have HF := Aside0.mk (HR2.out.move s.size)
      have hsk := HSK.out
      have hd : t.data.toList.drop t.size = [] := List.drop_eq_nil_of_le (by simp)
      rw [hd] at hsk
      have HE : Aside0 (skipTo s a = s.size) := .mk (by
        unfold skipTo
        rw [← HT.out, ← hsk]
        cases rem <;> rfl)
      have e0 := (blk_cell HR2.out.blk 0).trans rfl
      have e1 := (blk_cell HR2.out.blk 1).trans rfl
      have z1 := blk_frozen HR2.out.blk 1
      simp at e0 e1
      clear hsk hd hHeld hlt HR2
      go_wp2_with fail
      go_end0
      refine ⟨rfl, ?_⟩
      rw [HE.out]
      exact HF.out
end Go.Proofs.Ytjmpejbciniceaa.X
