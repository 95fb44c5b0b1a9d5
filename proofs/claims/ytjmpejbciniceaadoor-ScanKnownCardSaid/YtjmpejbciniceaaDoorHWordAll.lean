/- The contract of scan's method word: all cases. -/
import Derived.Test.YtjmpejbciniceaaDoorHWord2
import Derived.Test.YtjmpejbciniceaaDoorHWord3
import Derived.Test.YtjmpejbciniceaaDoorHWord4
namespace Go.Proofs.YtjmpejbciniceaaDoor.X
open Go.RowKit Go.Proofs.YtjmpejbciniceaaDoorW.PrintWords Go.Proofs.YtjmpejbciniceaaDoorW.PrintLast Go.Proofs.YtjmpejbciniceaaDoorW.PrintMore
set_option linter.unusedVariables false
set_option linter.unusedSimpArgs false

theorem span_cons (c : UInt8) (l : List UInt8) (b : Bool) (h : spanP b c = true) : (c :: l).takeWhile (spanP b) = c :: l.takeWhile (spanP b) := by
  rw [List.takeWhile_cons, if_pos h]
theorem q_ne {c d : UInt8} (h : c ≠ d) : ((c.toNat : Int) == (d.toNat : Int)) = false := by
  rw [beq_eq_false_iff_ne]
  intro e
  apply h
  rw [← UInt8.toNat_inj]
  omega
theorem word_calls {w0 : World} {g : Nat} {s : ByteArray} {a : Nat} {v : Value} {ws : List S37} {w : World} (h : Rd w0 g s a v ws w) (ha : a < s.size) (hs : s.size ≤ 65536) (hl : ws.length ≤ 100000) :
    Calls Tryd.prog 26 #[.pointer (some ⟨g, 0, none⟩)] w (WordPost w0 g s a ws w (wordR (s.data.toList.drop a))) := by
  have HR := Aside0.mk h
  have hd := drop_at s a ha
  cases hL : letU (s[a]'ha) with
  | true =>
    refine word_letter HR ha hs hl (.mk rfl) (.mk rfl) (.mk hL) _ (.mk rfl) _ (.mk rfl) _ (.mk ?_)
    rw [hd, span_cons _ _ true (by simp [spanP, hL]), wordR, if_pos hL, span_true]
  | false =>
    cases hD : digU (s[a]'ha) with
    | true =>
      refine word_digit HR ha hs hl (.mk rfl) (.mk rfl) (.mk hL) (.mk hD) _ (.mk rfl) ?_ _ (.mk rfl) _ (.mk ?_)
      · rw [hd, span_cons _ _ false (by simp [spanP, hD])]
        simp
      · have e1 : s.data.toList.drop (a + ((s.data.toList.drop a).takeWhile (spanP false)).length) = (s.data.toList.drop a).dropWhile (spanP false) := by
          rw [← drop_while_len, List.drop_drop]
        rw [e1, hd, span_cons _ _ false (by simp [spanP, hD]), wordR, if_neg (by simp [hL]), if_pos hD, numS, span_false]
        rw [List.dropWhile_cons, if_pos hD]
        simp only [bytesS, List.toList_toArray, List.head?_cons, Option.some.injEq]
        all_goals
          cases numR (s[a] :: List.takeWhile digU (List.drop (a + 1) s.data.toList)) 0 with
          | none => rfl
          | some n => first | rfl | (simp only []; congr)
    | false =>
      have hw : wordR (s.data.toList.drop a) = if s[a]'ha = 45 ∧ (s.data.toList.drop (a + 1)).head? = some 62 then .word 4 [45, 62] 0 else if signU (s[a]'ha) then .word 4 [s[a]'ha] 0 else .fault 10 [s[a]'ha] := by
        rw [hd, wordR, if_neg (by simp [hL]), if_neg (by simp [hD])]
      have HL := Aside0.mk hL
      have HD := Aside0.mk hD
      by_cases h45 : s[a]'ha = 45
      · have hq : ((s[a]'ha).toNat : Int) = 45 := by rw [h45]; rfl
        by_cases hn : a + 1 < s.size
        · have hd1 := drop_at s (a + 1) hn
          by_cases h62 : s[a + 1]'hn = 62
          · refine word_arrow HR ha hs hl (.mk rfl) (.mk hq) HL HD hn (.mk (by rw [h62]; rfl)) _ (.mk ?_)
            rw [hw, hd1, if_pos ⟨h45, by rw [h62]; rfl⟩]
          · refine word_dash HR ha hs hl (.mk h45) (.mk hq) HL HD hn (.mk rfl) (q_ne h62) _ (.mk ?_)
            rw [hw, hd1, if_neg (by intro h; exact h62 (by simpa using h.2)), if_pos (by rw [h45]; rfl), h45]
        · refine word_last HR ha hs hl (.mk h45) (.mk hq) HL HD (by omega) _ (.mk ?_)
          rw [hw, if_neg (by intro h; have := h.2; rw [List.drop_eq_nil_of_le (by simp; omega)] at this; simp at this), if_pos (by rw [h45]; rfl), h45]
      · rw [if_neg (fun h => h45 h.1)] at hw
        by_cases hS : signU (s[a]'ha) = true
        · rw [if_pos hS] at hw
          have hm : s[a]'ha ∈ signsU := by unfold signU at hS; exact List.contains_iff_mem.1 hS
          unfold signsU at hm
          simp only [List.mem_cons, List.not_mem_nil, or_false] at hm
          rcases hm with hm | hm | hm | hm | hm | hm | hm | hm | hm | hm | hm | hm | hm | hm | hm | hm | hm | hm | hm | hm
          · exact word_signsA HR ha hs hl (q := 92) (by decide) (.mk rfl) (.mk (by rw [hm]; rfl)) HL HD _ (.mk hw)
          · exact word_signsA HR ha hs hl (q := 46) (by decide) (.mk rfl) (.mk (by rw [hm]; rfl)) HL HD _ (.mk hw)
          · exact word_signsA HR ha hs hl (q := 58) (by decide) (.mk rfl) (.mk (by rw [hm]; rfl)) HL HD _ (.mk hw)
          · exact word_signsA HR ha hs hl (q := 61) (by decide) (.mk rfl) (.mk (by rw [hm]; rfl)) HL HD _ (.mk hw)
          · exact word_signsA HR ha hs hl (q := 40) (by decide) (.mk rfl) (.mk (by rw [hm]; rfl)) HL HD _ (.mk hw)
          · exact word_signsA HR ha hs hl (q := 41) (by decide) (.mk rfl) (.mk (by rw [hm]; rfl)) HL HD _ (.mk hw)
          · exact word_signsA HR ha hs hl (q := 91) (by decide) (.mk rfl) (.mk (by rw [hm]; rfl)) HL HD _ (.mk hw)
          · exact word_signsA HR ha hs hl (q := 93) (by decide) (.mk rfl) (.mk (by rw [hm]; rfl)) HL HD _ (.mk hw)
          · exact word_signsA HR ha hs hl (q := 123) (by decide) (.mk rfl) (.mk (by rw [hm]; rfl)) HL HD _ (.mk hw)
          · exact word_signsA HR ha hs hl (q := 125) (by decide) (.mk rfl) (.mk (by rw [hm]; rfl)) HL HD _ (.mk hw)
          · exact word_signsB HR ha hs hl (q := 44) (by decide) (.mk rfl) (.mk (by rw [hm]; rfl)) HL HD _ (.mk hw)
          · exact word_signsB HR ha hs hl (q := 124) (by decide) (.mk rfl) (.mk (by rw [hm]; rfl)) HL HD _ (.mk hw)
          · exact word_signsB HR ha hs hl (q := 43) (by decide) (.mk rfl) (.mk (by rw [hm]; rfl)) HL HD _ (.mk hw)
          · exact absurd hm h45
          · exact word_signsB HR ha hs hl (q := 42) (by decide) (.mk rfl) (.mk (by rw [hm]; rfl)) HL HD _ (.mk hw)
          · exact word_signsB HR ha hs hl (q := 47) (by decide) (.mk rfl) (.mk (by rw [hm]; rfl)) HL HD _ (.mk hw)
          · exact word_signsB HR ha hs hl (q := 60) (by decide) (.mk rfl) (.mk (by rw [hm]; rfl)) HL HD _ (.mk hw)
          · exact word_signsB HR ha hs hl (q := 62) (by decide) (.mk rfl) (.mk (by rw [hm]; rfl)) HL HD _ (.mk hw)
          · exact word_signsB HR ha hs hl (q := 63) (by decide) (.mk rfl) (.mk (by rw [hm]; rfl)) HL HD _ (.mk hw)
          · exact word_signsB HR ha hs hl (q := 59) (by decide) (.mk rfl) (.mk (by rw [hm]; rfl)) HL HD _ (.mk hw)
        · rw [if_neg hS] at hw
          have hm : ∀ d ∈ signsU, s[a]'ha ≠ d := fun d hd e => hS (by unfold signU; rw [e]; exact List.contains_iff_mem.2 hd)
          have z : ∀ d ∈ signsU, (((s[a]'ha).toNat : Int) == (d.toNat : Int)) = false := fun d hd => q_ne (hm d hd)
          exact word_other HR ha hs hl (.mk rfl) (.mk rfl) HL HD (z 92 (by decide)) (z 46 (by decide)) (z 58 (by decide)) (z 61 (by decide)) (z 40 (by decide)) (z 41 (by decide)) (z 91 (by decide)) (z 93 (by decide)) (z 123 (by decide)) (z 125 (by decide)) (z 44 (by decide)) (z 124 (by decide)) (z 43 (by decide)) (z 42 (by decide)) (z 47 (by decide)) (z 60 (by decide)) (z 62 (by decide)) (z 63 (by decide)) (z 59 (by decide)) (z 45 (by decide)) _ (.mk hw)
end Go.Proofs.YtjmpejbciniceaaDoor.X
