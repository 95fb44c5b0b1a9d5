/- Texts of this claim, joined: HWordAll, HAll, HTakeW. -/
import Derived.Test.YtjmpejbciniceaaJTypesBack0
import Derived.Test.YtjmpejbciniceaaJTypesBack1
import Derived.Test.YtjmpejbciniceaaJTypesBack2
import Derived.Test.YtjmpejbciniceaaJTypesBack3
import Derived.Test.YtjmpejbciniceaaJTypesBack4
import Derived.Test.YtjmpejbciniceaaJTypesBack5
import Derived.Test.YtjmpejbciniceaaJTypesBack6
import Derived.Test.YtjmpejbciniceaaJTypesBack7
/- The contract of scan's method word: all cases. -/
namespace Go.Proofs.Ytjmpejbciniceaa.X
open Go.RowKit Go.Proofs.YtjmpejbciniceaaW.PrintWords Go.Proofs.YtjmpejbciniceaaW.PrintLast Go.Proofs.YtjmpejbciniceaaW.PrintMore
set_option linter.unusedVariables false
set_option linter.unusedSimpArgs false

theorem span_cons (c : UInt8) (l : List UInt8) (b : Bool) (h : spanP b c = true) : (c :: l).takeWhile (spanP b) = c :: l.takeWhile (spanP b) := by
  rw [List.takeWhile_cons, if_pos h]
theorem q_ne {c d : UInt8} (h : c ≠ d) : ((c.toNat : Int) == (d.toNat : Int)) = false := by
  rw [beq_eq_false_iff_ne]
  intro e
  apply h
  rw [← UInt8.toNat_inj]
  omega
theorem word_calls {w0 : World} {g : Nat} {s : ByteArray} {a : Nat} {v : Value} {ws : List S29} {w : World} (h : Rd w0 g s a v ws w) (ha : a < s.size) (hs : s.size ≤ 65536) (hl : ws.length ≤ 100000) :
    Calls Try.prog 17 #[.pointer (some ⟨g, 0, none⟩)] w (WordPost w0 g s a ws w (wordR (s.data.toList.drop a))) := by
  have HR := Aside0.mk h
  have hd := drop_at s a ha
  cases hL : letU (s[a]'ha) with
  | true =>
    refine word_letter HR ha hs hl (.mk rfl) (.mk rfl) (.mk hL) _ (.mk rfl) _ (.mk rfl) _ (.mk ?_)
    rw [hd, span_cons _ _ true (by simp [spanP, hL]), wordR, if_pos hL, span_true]
  | false =>
    cases hD : digU (s[a]'ha) with
    | true =>
      refine word_digit HR ha hs hl (.mk rfl) (.mk rfl) (.mk hL) (.mk hD) _ (.mk rfl) ?_ _ (.mk rfl) _ (.mk ?_)
      · rw [hd, span_cons _ _ false (by simp [spanP, hD])]
        simp
      · have e1 : s.data.toList.drop (a + ((s.data.toList.drop a).takeWhile (spanP false)).length) = (s.data.toList.drop a).dropWhile (spanP false) := by
          rw [← drop_while_len, List.drop_drop]
        rw [e1, hd, span_cons _ _ false (by simp [spanP, hD]), wordR, if_neg (by simp [hL]), if_pos hD, numS, span_false]
        rw [List.dropWhile_cons, if_pos hD]
        simp only [bytesS, List.toList_toArray, List.head?_cons, Option.some.injEq]
        all_goals
          cases numR (s[a] :: List.takeWhile digU (List.drop (a + 1) s.data.toList)) 0 with
          | none => rfl
          | some n => first | rfl | (simp only []; congr)
    | false =>
      have hw : wordR (s.data.toList.drop a) = if s[a]'ha = 45 ∧ (s.data.toList.drop (a + 1)).head? = some 62 then .word 4 [45, 62] 0 else if signU (s[a]'ha) then .word 4 [s[a]'ha] 0 else .fault 10 [s[a]'ha] := by
        rw [hd, wordR, if_neg (by simp [hL]), if_neg (by simp [hD])]
      have HL := Aside0.mk hL
      have HD := Aside0.mk hD
      by_cases h45 : s[a]'ha = 45
      · have hq : ((s[a]'ha).toNat : Int) = 45 := by rw [h45]; rfl
        by_cases hn : a + 1 < s.size
        · have hd1 := drop_at s (a + 1) hn
          by_cases h62 : s[a + 1]'hn = 62
          · refine word_arrow HR ha hs hl (.mk rfl) (.mk hq) HL HD hn (.mk (by rw [h62]; rfl)) _ (.mk ?_)
            rw [hw, hd1, if_pos ⟨h45, by rw [h62]; rfl⟩]
          · refine word_dash HR ha hs hl (.mk h45) (.mk hq) HL HD hn (.mk rfl) (q_ne h62) _ (.mk ?_)
            rw [hw, hd1, if_neg (by intro h; exact h62 (by simpa using h.2)), if_pos (by rw [h45]; rfl), h45]
        · refine word_last HR ha hs hl (.mk h45) (.mk hq) HL HD (by omega) _ (.mk ?_)
          rw [hw, if_neg (by intro h; have := h.2; rw [List.drop_eq_nil_of_le (by simp; omega)] at this; simp at this), if_pos (by rw [h45]; rfl), h45]
      · rw [if_neg (fun h => h45 h.1)] at hw
        by_cases hS : signU (s[a]'ha) = true
        · rw [if_pos hS] at hw
          have hm : s[a]'ha ∈ signsU := by unfold signU at hS; exact List.contains_iff_mem.1 hS
          unfold signsU at hm
          simp only [List.mem_cons, List.not_mem_nil, or_false] at hm
          rcases hm with hm | hm | hm | hm | hm | hm | hm | hm | hm | hm | hm | hm | hm | hm | hm | hm | hm | hm | hm | hm
          · exact word_signsA HR ha hs hl (q := 92) (by decide) (.mk rfl) (.mk (by rw [hm]; rfl)) HL HD _ (.mk hw)
          · exact word_signsA HR ha hs hl (q := 46) (by decide) (.mk rfl) (.mk (by rw [hm]; rfl)) HL HD _ (.mk hw)
          · exact word_signsA HR ha hs hl (q := 58) (by decide) (.mk rfl) (.mk (by rw [hm]; rfl)) HL HD _ (.mk hw)
          · exact word_signsA HR ha hs hl (q := 61) (by decide) (.mk rfl) (.mk (by rw [hm]; rfl)) HL HD _ (.mk hw)
          · exact word_signsA HR ha hs hl (q := 40) (by decide) (.mk rfl) (.mk (by rw [hm]; rfl)) HL HD _ (.mk hw)
          · exact word_signsA HR ha hs hl (q := 41) (by decide) (.mk rfl) (.mk (by rw [hm]; rfl)) HL HD _ (.mk hw)
          · exact word_signsA HR ha hs hl (q := 91) (by decide) (.mk rfl) (.mk (by rw [hm]; rfl)) HL HD _ (.mk hw)
          · exact word_signsA HR ha hs hl (q := 93) (by decide) (.mk rfl) (.mk (by rw [hm]; rfl)) HL HD _ (.mk hw)
          · exact word_signsA HR ha hs hl (q := 123) (by decide) (.mk rfl) (.mk (by rw [hm]; rfl)) HL HD _ (.mk hw)
          · exact word_signsA HR ha hs hl (q := 125) (by decide) (.mk rfl) (.mk (by rw [hm]; rfl)) HL HD _ (.mk hw)
          · exact word_signsB HR ha hs hl (q := 44) (by decide) (.mk rfl) (.mk (by rw [hm]; rfl)) HL HD _ (.mk hw)
          · exact word_signsB HR ha hs hl (q := 124) (by decide) (.mk rfl) (.mk (by rw [hm]; rfl)) HL HD _ (.mk hw)
          · exact word_signsB HR ha hs hl (q := 43) (by decide) (.mk rfl) (.mk (by rw [hm]; rfl)) HL HD _ (.mk hw)
          · exact absurd hm h45
          · exact word_signsB HR ha hs hl (q := 42) (by decide) (.mk rfl) (.mk (by rw [hm]; rfl)) HL HD _ (.mk hw)
          · exact word_signsB HR ha hs hl (q := 47) (by decide) (.mk rfl) (.mk (by rw [hm]; rfl)) HL HD _ (.mk hw)
          · exact word_signsB HR ha hs hl (q := 60) (by decide) (.mk rfl) (.mk (by rw [hm]; rfl)) HL HD _ (.mk hw)
          · exact word_signsB HR ha hs hl (q := 62) (by decide) (.mk rfl) (.mk (by rw [hm]; rfl)) HL HD _ (.mk hw)
          · exact word_signsB HR ha hs hl (q := 63) (by decide) (.mk rfl) (.mk (by rw [hm]; rfl)) HL HD _ (.mk hw)
          · exact word_signsB HR ha hs hl (q := 59) (by decide) (.mk rfl) (.mk (by rw [hm]; rfl)) HL HD _ (.mk hw)
        · rw [if_neg hS] at hw
          have hm : ∀ d ∈ signsU, s[a]'ha ≠ d := fun d hd e => hS (by unfold signU; rw [e]; exact List.contains_iff_mem.2 hd)
          have z : ∀ d ∈ signsU, (((s[a]'ha).toNat : Int) == (d.toNat : Int)) = false := fun d hd => q_ne (hm d hd)
          exact word_other HR ha hs hl (.mk rfl) (.mk rfl) HL HD (z 92 (by decide)) (z 46 (by decide)) (z 58 (by decide)) (z 61 (by decide)) (z 40 (by decide)) (z 41 (by decide)) (z 91 (by decide)) (z 93 (by decide)) (z 123 (by decide)) (z 125 (by decide)) (z 44 (by decide)) (z 124 (by decide)) (z 43 (by decide)) (z 42 (by decide)) (z 47 (by decide)) (z 60 (by decide)) (z 62 (by decide)) (z 63 (by decide)) (z 59 (by decide)) (z 45 (by decide)) _ (.mk hw)
end Go.Proofs.Ytjmpejbciniceaa.X
/- The contract of scan.All. -/
namespace Go.Proofs.Ytjmpejbciniceaa.X
open Go.RowKit Go.Proofs.YtjmpejbciniceaaW.PrintWords Go.Proofs.YtjmpejbciniceaaW.PrintLast Go.Proofs.YtjmpejbciniceaaW.PrintMore
set_option linter.unusedVariables false
set_option linter.unusedSimpArgs false

def wv (x : SWord) : S29 := ⟨x.kind, bytesS x.text, (x.num : Int), (x.pos : Int)⟩
def endV (n : Nat) : S29 := ⟨0, ⟨#[]⟩, 0, (n : Int)⟩
def AllPost (N : Nat) (w : World) (r : Except (Int × Nat × List UInt8) (List SWord)) (en : Ending) (w' : World) : Prop :=
  match r with
  | .error (e, p, t) => ∃ q, en = .returned (.tuple #[.slice none 0 0, .iface 49 (.pointer (some ⟨q, 0, none⟩))]) ∧ FaultAt w' q e p (bytesS t) ∧ w.heap.size ≤ q ∧ Below w.heap.size w w'
  | .ok ws => ∃ v, en = .returned (.tuple #[v, .nilIface]) ∧ k29.R 29 w' w.heap.size (fun _ => True) v (ws.map wv ++ [endV N]) ∧ Below w.heap.size w w'
def scanAll (s : ByteArray) : Except (Int × Nat × List UInt8) (List SWord) := if 65536 < s.size then .error (3, 0, []) else scanA s.size s.data.toList
theorem preS_error {ws : List SWord} {e : Int × Nat × List UInt8} : preS ws (.error e) = .error e := rfl
theorem skipTo_drop (s : ByteArray) (a : Nat) (ha : a ≤ s.size) : s.data.toList.drop (skipTo s a) = skipR (s.data.toList.drop a) false ∧ skipTo s a ≤ s.size := by
  have h := skip_drop (s.data.toList.drop a)
  have hl := skip_len (s.data.toList.drop a) false
  rw [List.length_drop] at h hl
  have e : s.data.toList.length = s.size := by simp
  rw [List.drop_drop, e] at h
  rw [e] at hl
  unfold skipTo
  refine ⟨?_, by omega⟩
  rw [← h]
  congr 1
  rw [h]
  omega
def placeOf (g : Nat) (w : World) : Nat := match w.cell? ⟨g, 1, none⟩ with
  | some v => (intOf v).toNat
  | none => 0
set_option maxRecDepth 100000 in
set_option maxHeartbeats 3200000 in
theorem all_calls (s : ByteArray) (w : World) : Calls Try.prog 7 #[.string s] w (AllPost s.size w (scanAll s)) := by
  obtain ⟨r, hr⟩ : ∃ r, r = scanAll s := ⟨_, rfl⟩
  rw [← hr]
  unfold scanAll at hr
  by_cases hs : 65536 < s.size
  · rw [if_pos hs] at hr
    have HE := Aside0.mk hr
    clear hr
    go_enter Try.func7, Try.ntmps7
    go_wp2_with fail
    go_ret2
    rw [HE.out]
    exact ⟨w.heap.size, rfl, heap_alloc_new w _, Nat.le_refl _, (Below.refl _ _).alloc (Nat.le_refl _) _⟩
  · rw [if_neg hs] at hr
    have HE := Aside0.mk hr
    clear hr
    go_enter Try.func7, Try.ntmps7
    go_wp2_with fail
    have HR : Aside0 (Rd w w.heap.size s (0 : Nat) (.slice none 0 0) (([] : List SWord).map wv) (w.alloc (.cells #[.string s, .int .i64 0, .slice none 0 0] 54))) := .mk ⟨heap_alloc_new w _, Kd.R_nil _ _ _ _ _, Nat.le_refl _, (Below.refl _ _).alloc (Nat.le_refl _) _⟩
    generalize w.alloc (.cells #[.string s, .int .i64 0, .slice none 0 0] 54) = wb at *
    have hss : s.size ≤ 65536 := by omega
    refine (skip_calls w w.heap.size s 0 _ _ _ HR.out (Nat.zero_le _) hss).mono ?_
    rintro e w2 ⟨rfl, hR2⟩
    have HR2 := Aside0.mk hR2
    clear hR2
    have hq := skipTo_drop s 0 (Nat.zero_le _)
    have HK : Aside0 (preS [] (scanA s.size (s.data.toList.drop (skipTo s 0))) = r ∧ skipTo s 0 ≤ s.size ∧ skipR (s.data.toList.drop (skipTo s 0)) false = s.data.toList.drop (skipTo s 0)) := .mk (by
      rw [hq.1, scanA_skip, skip_idem, List.drop_zero, pre_nil]
      exact ⟨HE.out.symm, hq.2, rfl⟩)
    clear hq
    go_wp2_with fail
    go_loopw [5] (fun i wr => ∃ (a : Nat) (v : Value) (ws : List SWord), Rd w w.heap.size s a v (ws.map wv) wr ∧ a ≤ s.size ∧ ws.length ≤ a ∧ skipR (s.data.toList.drop a) false = s.data.toList.drop a ∧ preS ws (scanA s.size (s.data.toList.drop a)) = r) (fun i wr => s.size - placeOf w.heap.size wr)
    case atStart => exact ⟨skipTo s 0, _, [], HR2.out, HK.out.2.1, Nat.zero_le _, HK.out.2.2, HK.out.1⟩
    case round =>
      obtain ⟨a, v, ws, hR, ha, hwl, hst, hpre⟩ := hrel
      have HR := Aside0.mk hR
      have HPRE := Aside0.mk hpre
      have HST := Aside0.mk hst
      clear hR hpre hst
      have e0 := (blk_cell HR.out.blk 0).trans rfl
      have e1 := (blk_cell HR.out.blk 1).trans rfl
      simp at e0 e1
      have HPL : Aside0 (placeOf w.heap.size wr = a) := .mk (by unfold placeOf; rw [e1]; simp [intOf])
      by_cases hlt : a < s.size
      · go_wp2_with fail
        clear e0 e1
        have hd := drop_at s a hlt
        have hc : startU (s[a]'hlt) := skip_start _ _ _ _ ((HST.out.trans hd))
        have hstep := scanA_step (N := s.size) (m := s.data.toList.drop (a + 1)) hc
        rw [← hd] at hstep
        have HSTEP := Aside0.mk hstep
        have HPFX := Aside0.mk (fun (k : Int) (t : List UInt8) (n : Nat) (h : wordR (s.data.toList.drop a) = .word k t n) => word_prefix h)
        clear hc hstep hd
        refine (word_calls HR.out hlt hss (by simp; omega)).mono ?_
        obtain ⟨x, hx⟩ : ∃ x, x = wordR (s.data.toList.drop a) := ⟨_, rfl⟩
        rw [← hx]
        have HX := Aside0.mk hx
        clear hx
        cases x with
        | fault e t =>
          rintro _ w3 ⟨p, rfl, h1, h2, h3⟩
          have H1 := Aside0.mk h1
          have H3 := Aside0.mk h3
          have H2 := Aside0.mk h2
          clear h1 h2 h3
          go_wp2_with fail
          go_ret2
          have hq := HPRE.out
          rw [HSTEP.out, ← HX.out] at hq
          simp only [preS] at hq
          rw [← hq, show s.size - (s.data.toList.drop a).length = a from by simp; omega]
          exact ⟨p, rfl, H1.out, Nat.le_trans HR.out.below.size H2.out, below_then HR.out.below HR.out.below.size H3.out⟩
        | word k t n =>
          rintro _ w3 ⟨rfl, v3, h3⟩
          have hq := HPRE.out
          rw [HSTEP.out, ← HX.out] at hq
          simp only [pre_pre] at hq
          rw [show s.size - (s.data.toList.drop a).length = a from by simp; omega, List.drop_drop] at hq
          obtain ⟨m, hm, hne⟩ := HPFX.out k t n HX.out.symm
          have h0 : 0 < t.length := List.length_pos_iff.2 hne
          have hle : a + t.length ≤ s.size := by
            have := congrArg List.length hm
            rw [List.length_append, List.length_drop] at this
            simp at this
            omega
          have HQ := Aside0.mk hq
          have H3 := Aside0.mk h3
          clear hq h3 hm hne
          go_wp2_with fail
          refine (skip_calls w w.heap.size s (a + t.length) _ _ _ H3.out hle hss).mono ?_
          rintro e w4 ⟨rfl, hR4⟩
          have HR4 := Aside0.mk hR4
          clear hR4
          have hq := skipTo_drop s (a + t.length) hle
          have hge : a + t.length ≤ skipTo s (a + t.length) := by
            have := skip_len (s.data.toList.drop (a + t.length)) false
            unfold skipTo
            simp at this
            omega
          have HK : Aside0 (preS (ws ++ [⟨k, t, n, a⟩]) (scanA s.size (s.data.toList.drop (skipTo s (a + t.length)))) = r ∧ skipTo s (a + t.length) ≤ s.size ∧ skipR (s.data.toList.drop (skipTo s (a + t.length))) false = s.data.toList.drop (skipTo s (a + t.length))) := .mk (by
            rw [hq.1, scanA_skip, skip_idem]
            exact ⟨HQ.out, hq.2, rfl⟩)
          clear hq
          have HPL4 : Aside0 (placeOf w.heap.size w4 = skipTo s (a + t.length)) := .mk (by
            have e1 := (blk_cell HR4.out.blk 1).trans rfl
            simp at e1
            unfold placeOf; rw [e1]; simp [intOf])
          go_wp2_with fail
          go_roundw
          case rel => exact ⟨skipTo s (a + t.length), v3, ws ++ [⟨k, t, n, a⟩], by rw [List.map_append]; exact HR4.out, HK.out.2.1, by simp; omega, HK.out.2.2, HK.out.1⟩
          case measure => rw [HPL.out, HPL4.out]; omega
      · have e2 := (blk_cell HR.out.blk 2).trans rfl
        have e2 : wr.cell? ⟨w.heap.size, 2, none⟩ = some v := by simpa using e2
        obtain rfl : a = s.size := by omega
        have HOK : Aside0 (r = .ok ws) := .mk (by
          rw [← HPRE.out, List.drop_eq_nil_of_le (by simp), scanA_nil]
          simp [preS])
        have HG := Aside0.mk (blk_lt HR.out.blk)
        have hwl2 : (ws.map wv).length ≤ 65536 := by rw [List.length_map]; omega
        clear HPRE HST HK HR2 HE e0
        go_wp2_with (at_builtin; refine Kd.R_append k29 (w0 := w) w.heap.size rfl (.tmp 35) (.tmp 39) 22 29 (.agg #[.int .i8 0, .string ⟨#[]⟩, .int .i64 0, .int .i64 0]) 40 rfl Try.underlying22 info29 rfl (by decide) (by decide) v (ws.map wv) (endV s.size) [.int .i8 0, .string ⟨#[]⟩, .int .i64 0, .int .i64 (s.size : Int)] (fun b => b ≠ w.heap.size) (fun _ => False) rfl rfl (k29_mkM _ _ _ (endV s.size)) (fun b hb => hb.elim) (fun b hb => by have := HG.out; omega) HR.out.row HR.out.below HR.out.below.size (by omega) ?_; intro v4 w4 hr4 hb4 hg4 hat4; have HR4 := Aside0.mk hr4; have HB4 := Aside0.mk hb4; clear hr4 hb4 hg4 hat4)
        go_ret2
        rw [HOK.out]
        exact ⟨v4, rfl, Kd.R_mono HR4.out (fun _ _ => trivial), HB4.out⟩
end Go.Proofs.Ytjmpejbciniceaa.X
/- The contract of types' method take. -/
namespace Go.Proofs.Ytjmpejbciniceaa.X
open Go.RowKit Go.Proofs.YtjmpejbciniceaaW.PrintWords Go.Proofs.YtjmpejbciniceaaW.PrintLast Go.Proofs.YtjmpejbciniceaaW.PrintMore
set_option linter.unusedVariables false
set_option linter.unusedSimpArgs false

/-- A reader of words in block g, at the i-th word. -/
structure Tr (w0 : World) (g : Nat) (A : Option Addr) (c : Nat) (xs : List S29) (i : Nat) (w : World) : Prop where
  blk : w.heap[g]? = some (.cells #[.slice A xs.length c, .int .i64 (i : Int)] 64 (0, 0))
  words : Kd.C k29 w0 A xs.length xs
  low : w0.heap.size ≤ g
  below : Below w0.heap.size w0 w
theorem Tr.after {w0 : World} {g : Nat} {A : Option Addr} {c : Nat} {xs : List S29} {i : Nat} {w w' : World} (h : Tr w0 g A c xs i w) (hb : Below w.heap.size w w') : Tr w0 g A c xs i w' :=
  ⟨blk_below h.blk hb, h.words, h.low, below_then h.below h.below.size hb⟩
theorem Tr.move {w0 : World} {g : Nat} {A : Option Addr} {c : Nat} {xs : List S29} {i : Nat} {w : World} (h : Tr w0 g A c xs i w) (j : Nat) : Tr w0 g A c xs j (w.setCell ⟨g, 1, none⟩ (.int .i64 (j : Int))) :=
  ⟨blk_put h.blk 1 _ (by simp), h.words, h.low, h.below.setCell (p := ⟨g, 1, none⟩) h.low _⟩
/-- The i-th word is of kind k and text s. -/
def nextIs (xs : List S29) (i : Nat) (k : Int) (s : List UInt8) : Prop := ∃ x, xs[i]? = some x ∧ x.f0 = k ∧ x.f1.toList = s
def TakePost (w0 : World) (g : Nat) (A : Option Addr) (c : Nat) (xs : List S29) (i : Nat) (k : Int) (s : List UInt8) (w : World) (en : Ending) (w' : World) : Prop :=
  (nextIs xs i k s ∧ en = .returned (.bool true) ∧ Tr w0 g A c xs (i + 1) w' ∧ KeepBut w w' g none) ∨ (¬ nextIs xs i k s ∧ en = .returned (.bool false) ∧ Tr w0 g A c xs i w' ∧ KeepBut w w' g none)
set_option maxRecDepth 100000 in
set_option maxHeartbeats 3200000 in
theorem take_end {w0 : World} {g : Nat} {A : Option Addr} {c : Nat} {xs : List S29} {i : Nat} {w : World} (HR : Aside0 (Tr w0 g A c xs i w)) {n : Nat} (HL : Aside0 (xs.length = n)) (hn : n ≤ 200000) (hi : i ≤ n) (k : Int) (s : ByteArray) (hlt : n ≤ i) :
    Calls Try.prog 48 #[.pointer (some ⟨g, 0, none⟩), .int .i8 k, .string s] w fun en w' => en = .returned (.bool false) ∧ Tr w0 g A c xs i w' ∧ KeepBut w w' g none := by
  have e0 := (blk_cell HR.out.blk 0).trans rfl
  have e1 := (blk_cell HR.out.blk 1).trans rfl
  simp at e0 e1
  rw [HL.out] at e0
  go_enter Try.func48, Try.ntmps48
  go_wp2_with fail
  refine wp_region_held_drew (S := fun w' => w'.cell? ⟨g, 0, none⟩ = some (.slice A n c) ∧ w'.cell? ⟨g, 1, none⟩ = some (.int .i64 (i : Int))) (by kernel_rfl) ⟨e0, e1⟩ (fun hHeld => ?_)
  have HD := Aside0.mk ((Below.refl w.heap.size w).drew)
  have HN := Aside0.mk (HR.out.after HD.out)
  generalize w.drew = w1 at *
  refine takeA 7 0 (v := ?_) ?_ hHeld ?_
  rotate_left
  · intro w hSw
    try dsimp only at hSw
    go_simp <;> with_reducible rfl
  try simp only [Act.put, List.setIfInBounds_toArray, List.set_cons_zero, List.set_cons_succ]
  refine takeA 8 1 (v := ?_) ?_ hHeld ?_
  rotate_left
  · intro w hSw
    try dsimp only at hSw
    go_simp <;> with_reducible rfl
  try simp only [Act.put, List.setIfInBounds_toArray, List.set_cons_zero, List.set_cons_succ]
  refine takeA 9 2 (v := ?_) ?_ hHeld ?_
  rotate_left
  · intro w hSw
    try dsimp only at hSw
    go_simp <;> with_reducible rfl
  try simp only [Act.put, List.setIfInBounds_toArray, List.set_cons_zero, List.set_cons_succ]
  refine takeA 10 3 (v := ?_) ?_ hHeld ?_
  rotate_left
  · intro w hSw
    try dsimp only at hSw
    go_simp <;> with_reducible rfl
  try simp only [Act.put, List.setIfInBounds_toArray, List.set_cons_zero, List.set_cons_succ]
  refine takeA 11 4 (v := ?_) ?_ hHeld ?_
  rotate_left
  · intro w hSw
    try dsimp only at hSw
    go_simp <;> with_reducible rfl
  try simp only [Act.put, List.setIfInBounds_toArray, List.set_cons_zero, List.set_cons_succ]
  refine takeA 12 5 (v := ?_) ?_ hHeld ?_
  rotate_left
  · intro w hSw
    try dsimp only at hSw
    go_simp <;> with_reducible rfl
  try simp only [Act.put, List.setIfInBounds_toArray, List.set_cons_zero, List.set_cons_succ]
  refine takeA 13 6 (v := ?_) ?_ hHeld ?_
  rotate_left
  · intro w hSw
    try dsimp only at hSw
    go_simp <;> with_reducible rfl
  try simp only [Act.put, List.setIfInBounds_toArray, List.set_cons_zero, List.set_cons_succ]
  refine takeA 14 7 (v := ?_) ?_ hHeld ?_
  rotate_left
  · intro w hSw
    try dsimp only at hSw
    go_simp <;> with_reducible rfl
  try simp only [Act.put, List.setIfInBounds_toArray, List.set_cons_zero, List.set_cons_succ]
  refine takeA 15 8 (v := ?_) ?_ hHeld ?_
  rotate_left
  · intro w hSw
    try dsimp only at hSw
    go_simp <;> with_reducible rfl
  try simp only [Act.put, List.setIfInBounds_toArray, List.set_cons_zero, List.set_cons_succ]
  refine takeH (d := some 16) (v := .bool false) 9 rfl rfl (by kernel_rfl) (by kernel_rfl) (by kernel_rfl) (fun _ _ _ h => h) (by rfl) (fun w hSw => by (try dsimp only at hSw); go_simp <;> first | done | omega | (simp; omega)) hHeld ?_
  try simp only [Act.put, List.setIfInBounds_toArray, List.set_cons_zero, List.set_cons_succ]
  refine takeA 17 10 (v := ?_) ?_ hHeld ?_
  rotate_left
  · intro w hSw
    try dsimp only at hSw
    go_simp <;> with_reducible rfl
  try simp only [Act.put, List.setIfInBounds_toArray, List.set_cons_zero, List.set_cons_succ]
  refine passA 18 11 hHeld ?_
  try simp only [Act.put, List.setIfInBounds_toArray, List.set_cons_zero, List.set_cons_succ]
  refine passA 19 12 hHeld ?_
  try simp only [Act.put, List.setIfInBounds_toArray, List.set_cons_zero, List.set_cons_succ]
  refine passA 20 13 hHeld ?_
  try simp only [Act.put, List.setIfInBounds_toArray, List.set_cons_zero, List.set_cons_succ]
  refine passA 21 14 hHeld ?_
  try simp only [Act.put, List.setIfInBounds_toArray, List.set_cons_zero, List.set_cons_succ]
  refine passA 22 15 hHeld ?_
  try simp only [Act.put, List.setIfInBounds_toArray, List.set_cons_zero, List.set_cons_succ]
  refine passA 23 16 hHeld ?_
  try simp only [Act.put, List.setIfInBounds_toArray, List.set_cons_zero, List.set_cons_succ]
  refine passA 24 17 hHeld ?_
  try simp only [Act.put, List.setIfInBounds_toArray, List.set_cons_zero, List.set_cons_succ]
  refine passA 25 18 hHeld ?_
  try simp only [Act.put, List.setIfInBounds_toArray, List.set_cons_zero, List.set_cons_succ]
  refine passA 26 19 hHeld ?_
  try simp only [Act.put, List.setIfInBounds_toArray, List.set_cons_zero, List.set_cons_succ]
  refine passA 27 20 hHeld ?_
  try simp only [Act.put, List.setIfInBounds_toArray, List.set_cons_zero, List.set_cons_succ]
  refine passA 28 21 hHeld ?_
  try simp only [Act.put, List.setIfInBounds_toArray, List.set_cons_zero, List.set_cons_succ]
  refine passA 29 22 hHeld ?_
  try simp only [Act.put, List.setIfInBounds_toArray, List.set_cons_zero, List.set_cons_succ]
  refine passA 30 23 hHeld ?_
  try simp only [Act.put, List.setIfInBounds_toArray, List.set_cons_zero, List.set_cons_succ]
  refine takeA 31 24 (v := ?_) ?_ hHeld ?_
  rotate_left
  · intro w hSw
    try dsimp only at hSw
    go_simp <;> with_reducible rfl
  try simp only [Act.put, List.setIfInBounds_toArray, List.set_cons_zero, List.set_cons_succ]
  refine takeA 32 25 (v := ?_) ?_ hHeld ?_
  rotate_left
  · intro w hSw
    try dsimp only at hSw
    go_simp <;> with_reducible rfl
  try simp only [Act.put, List.setIfInBounds_toArray, List.set_cons_zero, List.set_cons_succ]
  refine passA 33 26 hHeld ?_
  try simp only [Act.put, List.setIfInBounds_toArray, List.set_cons_zero, List.set_cons_succ]
  refine passA 34 27 hHeld ?_
  try simp only [Act.put, List.setIfInBounds_toArray, List.set_cons_zero, List.set_cons_succ]
  refine passA 35 28 hHeld ?_
  try simp only [Act.put, List.setIfInBounds_toArray, List.set_cons_zero, List.set_cons_succ]
  refine passA 36 29 hHeld ?_
  try simp only [Act.put, List.setIfInBounds_toArray, List.set_cons_zero, List.set_cons_succ]
  refine passA 37 30 hHeld ?_
  try simp only [Act.put, List.setIfInBounds_toArray, List.set_cons_zero, List.set_cons_succ]
  refine passA 38 31 hHeld ?_
  try simp only [Act.put, List.setIfInBounds_toArray, List.set_cons_zero, List.set_cons_succ]
  refine passA 39 32 hHeld ?_
  try simp only [Act.put, List.setIfInBounds_toArray, List.set_cons_zero, List.set_cons_succ]
  refine passA 40 33 hHeld ?_
  try simp only [Act.put, List.setIfInBounds_toArray, List.set_cons_zero, List.set_cons_succ]
  refine passA 41 34 hHeld ?_
  try simp only [Act.put, List.setIfInBounds_toArray, List.set_cons_zero, List.set_cons_succ]
  refine passA 42 35 hHeld ?_
  try simp only [Act.put, List.setIfInBounds_toArray, List.set_cons_zero, List.set_cons_succ]
  refine passA 43 36 hHeld ?_
  try simp only [Act.put, List.setIfInBounds_toArray, List.set_cons_zero, List.set_cons_succ]
  refine passA 44 37 hHeld ?_
  try simp only [Act.put, List.setIfInBounds_toArray, List.set_cons_zero, List.set_cons_succ]
  refine passA 45 38 hHeld ?_
  try simp only [Act.put, List.setIfInBounds_toArray, List.set_cons_zero, List.set_cons_succ]
  refine takeA 46 39 (v := ?_) ?_ hHeld ?_
  rotate_left
  · intro w hSw
    try dsimp only at hSw
    go_simp <;> with_reducible rfl
  try simp only [Act.put, List.setIfInBounds_toArray, List.set_cons_zero, List.set_cons_succ]
  refine wpAnyH_done (by kernel_rfl) ?_ _
  clear hHeld
  go_wp2_with fail
  go_ret
  exact ⟨rfl, HN.out, KeepBut.of_below HD.out g none⟩
set_option maxRecDepth 100000 in
set_option maxHeartbeats 3200000 in
theorem take_kind {w0 : World} {g : Nat} {ad : Addr} {c : Nat} {xs : List S29} {i : Nat} {w : World} (HR : Aside0 (Tr w0 g (some ad) c xs i w)) {n : Nat} (HL : Aside0 (xs.length = n)) (hn : n ≤ 200000) (hi : i ≤ n) (k : Int) (s : ByteArray) (hlt : i < n) (K : Int) (T : ByteArray) (x0 : w.cell? (ad.add (i * 4)) = some (.int .i8 K)) (x1 : w.cell? ⟨(ad.add (i * 4)).block, (ad.add (i * 4)).off + 1, none⟩ = some (.string T)) (HK : Aside0 (¬ K = k)) :
    Calls Try.prog 48 #[.pointer (some ⟨g, 0, none⟩), .int .i8 k, .string s] w fun en w' => en = .returned (.bool false) ∧ Tr w0 g (some ad) c xs i w' ∧ KeepBut w w' g none := by
  have e0 := (blk_cell HR.out.blk 0).trans rfl
  have e1 := (blk_cell HR.out.blk 1).trans rfl
  simp at e0 e1
  rw [HL.out] at e0
  go_enter Try.func48, Try.ntmps48
  go_wp2_with fail
  refine wp_region_held_drew (S := fun w' => (w'.cell? ⟨g, 0, none⟩ = some (.slice (some ad) n c) ∧ w'.cell? ⟨g, 1, none⟩ = some (.int .i64 (i : Int))) ∧ w'.cell? (ad.add (i * 4)) = some (.int .i8 K) ∧ w'.cell? ⟨(ad.add (i * 4)).block, (ad.add (i * 4)).off + 1, none⟩ = some (.string T)) (by kernel_rfl) ⟨⟨e0, e1⟩, x0, x1⟩ (fun hHeld => ?_)
  have HD := Aside0.mk ((Below.refl w.heap.size w).drew)
  have HN := Aside0.mk (HR.out.after HD.out)
  generalize w.drew = w1 at *
  refine takeA 7 0 (v := ?_) ?_ hHeld ?_
  rotate_left
  · intro w hSw
    try dsimp only at hSw
    go_simp <;> with_reducible rfl
  try simp only [Act.put, List.setIfInBounds_toArray, List.set_cons_zero, List.set_cons_succ]
  refine takeA 8 1 (v := ?_) ?_ hHeld ?_
  rotate_left
  · intro w hSw
    try dsimp only at hSw
    go_simp <;> with_reducible rfl
  try simp only [Act.put, List.setIfInBounds_toArray, List.set_cons_zero, List.set_cons_succ]
  refine takeA 9 2 (v := ?_) ?_ hHeld ?_
  rotate_left
  · intro w hSw
    try dsimp only at hSw
    go_simp <;> with_reducible rfl
  try simp only [Act.put, List.setIfInBounds_toArray, List.set_cons_zero, List.set_cons_succ]
  refine takeA 10 3 (v := ?_) ?_ hHeld ?_
  rotate_left
  · intro w hSw
    try dsimp only at hSw
    go_simp <;> with_reducible rfl
  try simp only [Act.put, List.setIfInBounds_toArray, List.set_cons_zero, List.set_cons_succ]
  refine takeA 11 4 (v := ?_) ?_ hHeld ?_
  rotate_left
  · intro w hSw
    try dsimp only at hSw
    go_simp <;> with_reducible rfl
  try simp only [Act.put, List.setIfInBounds_toArray, List.set_cons_zero, List.set_cons_succ]
  refine takeA 12 5 (v := ?_) ?_ hHeld ?_
  rotate_left
  · intro w hSw
    try dsimp only at hSw
    go_simp <;> with_reducible rfl
  try simp only [Act.put, List.setIfInBounds_toArray, List.set_cons_zero, List.set_cons_succ]
  refine takeA 13 6 (v := ?_) ?_ hHeld ?_
  rotate_left
  · intro w hSw
    try dsimp only at hSw
    go_simp <;> with_reducible rfl
  try simp only [Act.put, List.setIfInBounds_toArray, List.set_cons_zero, List.set_cons_succ]
  refine takeA 14 7 (v := ?_) ?_ hHeld ?_
  rotate_left
  · intro w hSw
    try dsimp only at hSw
    go_simp <;> with_reducible rfl
  try simp only [Act.put, List.setIfInBounds_toArray, List.set_cons_zero, List.set_cons_succ]
  refine takeA 15 8 (v := ?_) ?_ hHeld ?_
  rotate_left
  · intro w hSw
    try dsimp only at hSw
    go_simp <;> with_reducible rfl
  try simp only [Act.put, List.setIfInBounds_toArray, List.set_cons_zero, List.set_cons_succ]
  refine takeH (d := some 16) (v := .bool true) 9 rfl rfl (by kernel_rfl) (by kernel_rfl) (by kernel_rfl) (fun _ _ _ h => h) (by rfl) (fun w hSw => by (try dsimp only at hSw); go_simp <;> first | done | omega | (simp; omega)) hHeld ?_
  try simp only [Act.put, List.setIfInBounds_toArray, List.set_cons_zero, List.set_cons_succ]
  refine takeA 17 10 (v := ?_) ?_ hHeld ?_
  rotate_left
  · intro w hSw
    try dsimp only at hSw
    go_simp <;> with_reducible rfl
  try simp only [Act.put, List.setIfInBounds_toArray, List.set_cons_zero, List.set_cons_succ]
  refine takeA 18 11 (v := ?_) ?_ hHeld ?_
  rotate_left
  · intro w hSw
    try dsimp only at hSw
    go_simp <;> with_reducible rfl
  try simp only [Act.put, List.setIfInBounds_toArray, List.set_cons_zero, List.set_cons_succ]
  refine takeA 19 12 (v := ?_) ?_ hHeld ?_
  rotate_left
  · intro w hSw
    try dsimp only at hSw
    go_simp <;> with_reducible rfl
  try simp only [Act.put, List.setIfInBounds_toArray, List.set_cons_zero, List.set_cons_succ]
  refine takeA 20 13 (v := ?_) ?_ hHeld ?_
  rotate_left
  · intro w hSw
    try dsimp only at hSw
    go_simp <;> with_reducible rfl
  try simp only [Act.put, List.setIfInBounds_toArray, List.set_cons_zero, List.set_cons_succ]
  refine takeA 21 14 (v := ?_) ?_ hHeld ?_
  rotate_left
  · intro w hSw
    try dsimp only at hSw
    go_simp <;> with_reducible rfl
  try simp only [Act.put, List.setIfInBounds_toArray, List.set_cons_zero, List.set_cons_succ]
  refine takeA 22 15 (v := ?_) ?_ hHeld ?_
  rotate_left
  · intro w hSw
    try dsimp only at hSw
    go_simp <;> with_reducible rfl
  try simp only [Act.put, List.setIfInBounds_toArray, List.set_cons_zero, List.set_cons_succ]
  refine takeA 23 16 (v := ?_) ?_ hHeld ?_
  rotate_left
  · intro w hSw
    try dsimp only at hSw
    go_simp <;> with_reducible rfl
  try simp only [Act.put, List.setIfInBounds_toArray, List.set_cons_zero, List.set_cons_succ]
  refine takeA 24 17 (v := ?_) ?_ hHeld ?_
  rotate_left
  · intro w hSw
    try dsimp only at hSw
    go_simp <;> with_reducible rfl
  try simp only [Act.put, List.setIfInBounds_toArray, List.set_cons_zero, List.set_cons_succ]
  refine takeA 25 18 (v := ?_) ?_ hHeld ?_
  rotate_left
  · intro w hSw
    try dsimp only at hSw
    go_simp <;> with_reducible rfl
  try simp only [Act.put, List.setIfInBounds_toArray, List.set_cons_zero, List.set_cons_succ]
  refine takeH (d := some 26) (v := .pointer (some (ad.add (i * 4)))) 19 rfl rfl (by kernel_rfl) (by kernel_rfl) (by kernel_rfl) (fun _ _ _ h => h) (by rfl) (fun w hSw => by (try dsimp only at hSw); go_simp <;> first | done | (rw [if_pos (by omega)]) | (intro hcc; omega)) hHeld ?_
  try simp only [Act.put, List.setIfInBounds_toArray, List.set_cons_zero, List.set_cons_succ]
  refine takeA 27 20 (v := ?_) ?_ hHeld ?_
  rotate_left
  · intro w hSw
    try dsimp only at hSw
    go_simp <;> with_reducible rfl
  try simp only [Act.put, List.setIfInBounds_toArray, List.set_cons_zero, List.set_cons_succ]
  refine takeA 28 21 (v := ?_) ?_ hHeld ?_
  rotate_left
  · intro w hSw
    try dsimp only at hSw
    go_simp <;> with_reducible rfl
  try simp only [Act.put, List.setIfInBounds_toArray, List.set_cons_zero, List.set_cons_succ]
  refine takeA 29 22 (v := ?_) ?_ hHeld ?_
  rotate_left
  · intro w hSw
    try dsimp only at hSw
    go_simp <;> with_reducible rfl
  try simp only [Act.put, List.setIfInBounds_toArray, List.set_cons_zero, List.set_cons_succ]
  refine takeH (d := some 30) (v := .bool false) 23 rfl rfl (by kernel_rfl) (by kernel_rfl) (by kernel_rfl) (fun _ _ _ h => h) (by rfl) (fun w hSw => by (try dsimp only at hSw); go_simp <;> first | done | exact HK.out | simp) hHeld ?_
  try simp only [Act.put, List.setIfInBounds_toArray, List.set_cons_zero, List.set_cons_succ]
  refine takeA 31 24 (v := ?_) ?_ hHeld ?_
  rotate_left
  · intro w hSw
    try dsimp only at hSw
    go_simp <;> with_reducible rfl
  try simp only [Act.put, List.setIfInBounds_toArray, List.set_cons_zero, List.set_cons_succ]
  refine takeA 32 25 (v := ?_) ?_ hHeld ?_
  rotate_left
  · intro w hSw
    try dsimp only at hSw
    go_simp <;> with_reducible rfl
  try simp only [Act.put, List.setIfInBounds_toArray, List.set_cons_zero, List.set_cons_succ]
  refine passA 33 26 hHeld ?_
  try simp only [Act.put, List.setIfInBounds_toArray, List.set_cons_zero, List.set_cons_succ]
  refine passA 34 27 hHeld ?_
  try simp only [Act.put, List.setIfInBounds_toArray, List.set_cons_zero, List.set_cons_succ]
  refine passA 35 28 hHeld ?_
  try simp only [Act.put, List.setIfInBounds_toArray, List.set_cons_zero, List.set_cons_succ]
  refine passA 36 29 hHeld ?_
  try simp only [Act.put, List.setIfInBounds_toArray, List.set_cons_zero, List.set_cons_succ]
  refine passA 37 30 hHeld ?_
  try simp only [Act.put, List.setIfInBounds_toArray, List.set_cons_zero, List.set_cons_succ]
  refine passA 38 31 hHeld ?_
  try simp only [Act.put, List.setIfInBounds_toArray, List.set_cons_zero, List.set_cons_succ]
  refine passA 39 32 hHeld ?_
  try simp only [Act.put, List.setIfInBounds_toArray, List.set_cons_zero, List.set_cons_succ]
  refine passA 40 33 hHeld ?_
  try simp only [Act.put, List.setIfInBounds_toArray, List.set_cons_zero, List.set_cons_succ]
  refine passA 41 34 hHeld ?_
  try simp only [Act.put, List.setIfInBounds_toArray, List.set_cons_zero, List.set_cons_succ]
  refine passA 42 35 hHeld ?_
  try simp only [Act.put, List.setIfInBounds_toArray, List.set_cons_zero, List.set_cons_succ]
  refine passA 43 36 hHeld ?_
  try simp only [Act.put, List.setIfInBounds_toArray, List.set_cons_zero, List.set_cons_succ]
  refine passA 44 37 hHeld ?_
  try simp only [Act.put, List.setIfInBounds_toArray, List.set_cons_zero, List.set_cons_succ]
  refine passA 45 38 hHeld ?_
  try simp only [Act.put, List.setIfInBounds_toArray, List.set_cons_zero, List.set_cons_succ]
  refine takeA 46 39 (v := ?_) ?_ hHeld ?_
  rotate_left
  · intro w hSw
    try dsimp only at hSw
    go_simp <;> with_reducible rfl
  try simp only [Act.put, List.setIfInBounds_toArray, List.set_cons_zero, List.set_cons_succ]
  refine wpAnyH_done (by kernel_rfl) ?_ _
  clear hHeld
  go_wp2_with fail
  go_ret
  exact ⟨rfl, HN.out, KeepBut.of_below HD.out g none⟩
set_option maxRecDepth 100000 in
set_option maxHeartbeats 3200000 in
theorem take_text {w0 : World} {g : Nat} {ad : Addr} {c : Nat} {xs : List S29} {i : Nat} {w : World} (HR : Aside0 (Tr w0 g (some ad) c xs i w)) {n : Nat} (HL : Aside0 (xs.length = n)) (hn : n ≤ 200000) (hi : i ≤ n) (k : Int) (s : ByteArray) (hlt : i < n) (K : Int) (T : ByteArray) (x0 : w.cell? (ad.add (i * 4)) = some (.int .i8 K)) (x1 : w.cell? ⟨(ad.add (i * 4)).block, (ad.add (i * 4)).off + 1, none⟩ = some (.string T)) (hk : K = k) (HT : Aside0 (¬ T.toList = s.toList)) :
    Calls Try.prog 48 #[.pointer (some ⟨g, 0, none⟩), .int .i8 k, .string s] w fun en w' => en = .returned (.bool false) ∧ Tr w0 g (some ad) c xs i w' ∧ KeepBut w w' g none := by
  subst hk
  have e0 := (blk_cell HR.out.blk 0).trans rfl
  have e1 := (blk_cell HR.out.blk 1).trans rfl
  simp at e0 e1
  rw [HL.out] at e0
  go_enter Try.func48, Try.ntmps48
  go_wp2_with fail
  refine wp_region_held_drew (S := fun w' => (w'.cell? ⟨g, 0, none⟩ = some (.slice (some ad) n c) ∧ w'.cell? ⟨g, 1, none⟩ = some (.int .i64 (i : Int))) ∧ w'.cell? (ad.add (i * 4)) = some (.int .i8 K) ∧ w'.cell? ⟨(ad.add (i * 4)).block, (ad.add (i * 4)).off + 1, none⟩ = some (.string T)) (by kernel_rfl) ⟨⟨e0, e1⟩, x0, x1⟩ (fun hHeld => ?_)
  have HD := Aside0.mk ((Below.refl w.heap.size w).drew)
  have HN := Aside0.mk (HR.out.after HD.out)
  generalize w.drew = w1 at *
  refine takeA 7 0 (v := ?_) ?_ hHeld ?_
  rotate_left
  · intro w hSw
    try dsimp only at hSw
    go_simp <;> with_reducible rfl
  try simp only [Act.put, List.setIfInBounds_toArray, List.set_cons_zero, List.set_cons_succ]
  refine takeA 8 1 (v := ?_) ?_ hHeld ?_
  rotate_left
  · intro w hSw
    try dsimp only at hSw
    go_simp <;> with_reducible rfl
  try simp only [Act.put, List.setIfInBounds_toArray, List.set_cons_zero, List.set_cons_succ]
  refine takeA 9 2 (v := ?_) ?_ hHeld ?_
  rotate_left
  · intro w hSw
    try dsimp only at hSw
    go_simp <;> with_reducible rfl
  try simp only [Act.put, List.setIfInBounds_toArray, List.set_cons_zero, List.set_cons_succ]
  refine takeA 10 3 (v := ?_) ?_ hHeld ?_
  rotate_left
  · intro w hSw
    try dsimp only at hSw
    go_simp <;> with_reducible rfl
  try simp only [Act.put, List.setIfInBounds_toArray, List.set_cons_zero, List.set_cons_succ]
  refine takeA 11 4 (v := ?_) ?_ hHeld ?_
  rotate_left
  · intro w hSw
    try dsimp only at hSw
    go_simp <;> with_reducible rfl
  try simp only [Act.put, List.setIfInBounds_toArray, List.set_cons_zero, List.set_cons_succ]
  refine takeA 12 5 (v := ?_) ?_ hHeld ?_
  rotate_left
  · intro w hSw
    try dsimp only at hSw
    go_simp <;> with_reducible rfl
  try simp only [Act.put, List.setIfInBounds_toArray, List.set_cons_zero, List.set_cons_succ]
  refine takeA 13 6 (v := ?_) ?_ hHeld ?_
  rotate_left
  · intro w hSw
    try dsimp only at hSw
    go_simp <;> with_reducible rfl
  try simp only [Act.put, List.setIfInBounds_toArray, List.set_cons_zero, List.set_cons_succ]
  refine takeA 14 7 (v := ?_) ?_ hHeld ?_
  rotate_left
  · intro w hSw
    try dsimp only at hSw
    go_simp <;> with_reducible rfl
  try simp only [Act.put, List.setIfInBounds_toArray, List.set_cons_zero, List.set_cons_succ]
  refine takeA 15 8 (v := ?_) ?_ hHeld ?_
  rotate_left
  · intro w hSw
    try dsimp only at hSw
    go_simp <;> with_reducible rfl
  try simp only [Act.put, List.setIfInBounds_toArray, List.set_cons_zero, List.set_cons_succ]
  refine takeH (d := some 16) (v := .bool true) 9 rfl rfl (by kernel_rfl) (by kernel_rfl) (by kernel_rfl) (fun _ _ _ h => h) (by rfl) (fun w hSw => by (try dsimp only at hSw); go_simp <;> first | done | omega | (simp; omega)) hHeld ?_
  try simp only [Act.put, List.setIfInBounds_toArray, List.set_cons_zero, List.set_cons_succ]
  refine takeA 17 10 (v := ?_) ?_ hHeld ?_
  rotate_left
  · intro w hSw
    try dsimp only at hSw
    go_simp <;> with_reducible rfl
  try simp only [Act.put, List.setIfInBounds_toArray, List.set_cons_zero, List.set_cons_succ]
  refine takeA 18 11 (v := ?_) ?_ hHeld ?_
  rotate_left
  · intro w hSw
    try dsimp only at hSw
    go_simp <;> with_reducible rfl
  try simp only [Act.put, List.setIfInBounds_toArray, List.set_cons_zero, List.set_cons_succ]
  refine takeA 19 12 (v := ?_) ?_ hHeld ?_
  rotate_left
  · intro w hSw
    try dsimp only at hSw
    go_simp <;> with_reducible rfl
  try simp only [Act.put, List.setIfInBounds_toArray, List.set_cons_zero, List.set_cons_succ]
  refine takeA 20 13 (v := ?_) ?_ hHeld ?_
  rotate_left
  · intro w hSw
    try dsimp only at hSw
    go_simp <;> with_reducible rfl
  try simp only [Act.put, List.setIfInBounds_toArray, List.set_cons_zero, List.set_cons_succ]
  refine takeA 21 14 (v := ?_) ?_ hHeld ?_
  rotate_left
  · intro w hSw
    try dsimp only at hSw
    go_simp <;> with_reducible rfl
  try simp only [Act.put, List.setIfInBounds_toArray, List.set_cons_zero, List.set_cons_succ]
  refine takeA 22 15 (v := ?_) ?_ hHeld ?_
  rotate_left
  · intro w hSw
    try dsimp only at hSw
    go_simp <;> with_reducible rfl
  try simp only [Act.put, List.setIfInBounds_toArray, List.set_cons_zero, List.set_cons_succ]
  refine takeA 23 16 (v := ?_) ?_ hHeld ?_
  rotate_left
  · intro w hSw
    try dsimp only at hSw
    go_simp <;> with_reducible rfl
  try simp only [Act.put, List.setIfInBounds_toArray, List.set_cons_zero, List.set_cons_succ]
  refine takeA 24 17 (v := ?_) ?_ hHeld ?_
  rotate_left
  · intro w hSw
    try dsimp only at hSw
    go_simp <;> with_reducible rfl
  try simp only [Act.put, List.setIfInBounds_toArray, List.set_cons_zero, List.set_cons_succ]
  refine takeA 25 18 (v := ?_) ?_ hHeld ?_
  rotate_left
  · intro w hSw
    try dsimp only at hSw
    go_simp <;> with_reducible rfl
  try simp only [Act.put, List.setIfInBounds_toArray, List.set_cons_zero, List.set_cons_succ]
  refine takeH (d := some 26) (v := .pointer (some (ad.add (i * 4)))) 19 rfl rfl (by kernel_rfl) (by kernel_rfl) (by kernel_rfl) (fun _ _ _ h => h) (by rfl) (fun w hSw => by (try dsimp only at hSw); go_simp <;> first | done | (rw [if_pos (by omega)]) | (intro hcc; omega)) hHeld ?_
  try simp only [Act.put, List.setIfInBounds_toArray, List.set_cons_zero, List.set_cons_succ]
  refine takeA 27 20 (v := ?_) ?_ hHeld ?_
  rotate_left
  · intro w hSw
    try dsimp only at hSw
    go_simp <;> with_reducible rfl
  try simp only [Act.put, List.setIfInBounds_toArray, List.set_cons_zero, List.set_cons_succ]
  refine takeA 28 21 (v := ?_) ?_ hHeld ?_
  rotate_left
  · intro w hSw
    try dsimp only at hSw
    go_simp <;> with_reducible rfl
  try simp only [Act.put, List.setIfInBounds_toArray, List.set_cons_zero, List.set_cons_succ]
  refine takeA 29 22 (v := ?_) ?_ hHeld ?_
  rotate_left
  · intro w hSw
    try dsimp only at hSw
    go_simp <;> with_reducible rfl
  try simp only [Act.put, List.setIfInBounds_toArray, List.set_cons_zero, List.set_cons_succ]
  refine takeH (d := some 30) (v := .bool true) 23 rfl rfl (by kernel_rfl) (by kernel_rfl) (by kernel_rfl) (fun _ _ _ h => h) (by rfl) (fun w hSw => by (try dsimp only at hSw); go_simp <;> first | done | exact HK.out | simp) hHeld ?_
  try simp only [Act.put, List.setIfInBounds_toArray, List.set_cons_zero, List.set_cons_succ]
  refine takeA 31 24 (v := ?_) ?_ hHeld ?_
  rotate_left
  · intro w hSw
    try dsimp only at hSw
    go_simp <;> with_reducible rfl
  try simp only [Act.put, List.setIfInBounds_toArray, List.set_cons_zero, List.set_cons_succ]
  refine takeA 32 25 (v := ?_) ?_ hHeld ?_
  rotate_left
  · intro w hSw
    try dsimp only at hSw
    go_simp <;> with_reducible rfl
  try simp only [Act.put, List.setIfInBounds_toArray, List.set_cons_zero, List.set_cons_succ]
  refine takeA 33 26 (v := ?_) ?_ hHeld ?_
  rotate_left
  · intro w hSw
    try dsimp only at hSw
    go_simp <;> with_reducible rfl
  try simp only [Act.put, List.setIfInBounds_toArray, List.set_cons_zero, List.set_cons_succ]
  refine takeA 34 27 (v := ?_) ?_ hHeld ?_
  rotate_left
  · intro w hSw
    try dsimp only at hSw
    go_simp <;> with_reducible rfl
  try simp only [Act.put, List.setIfInBounds_toArray, List.set_cons_zero, List.set_cons_succ]
  refine takeA 35 28 (v := ?_) ?_ hHeld ?_
  rotate_left
  · intro w hSw
    try dsimp only at hSw
    go_simp <;> with_reducible rfl
  try simp only [Act.put, List.setIfInBounds_toArray, List.set_cons_zero, List.set_cons_succ]
  refine takeA 36 29 (v := ?_) ?_ hHeld ?_
  rotate_left
  · intro w hSw
    try dsimp only at hSw
    go_simp <;> with_reducible rfl
  try simp only [Act.put, List.setIfInBounds_toArray, List.set_cons_zero, List.set_cons_succ]
  refine takeA 37 30 (v := ?_) ?_ hHeld ?_
  rotate_left
  · intro w hSw
    try dsimp only at hSw
    go_simp <;> with_reducible rfl
  try simp only [Act.put, List.setIfInBounds_toArray, List.set_cons_zero, List.set_cons_succ]
  refine takeA 38 31 (v := ?_) ?_ hHeld ?_
  rotate_left
  · intro w hSw
    try dsimp only at hSw
    go_simp <;> with_reducible rfl
  try simp only [Act.put, List.setIfInBounds_toArray, List.set_cons_zero, List.set_cons_succ]
  refine takeA 39 32 (v := ?_) ?_ hHeld ?_
  rotate_left
  · intro w hSw
    try dsimp only at hSw
    go_simp <;> with_reducible rfl
  try simp only [Act.put, List.setIfInBounds_toArray, List.set_cons_zero, List.set_cons_succ]
  refine takeA 40 33 (v := ?_) ?_ hHeld ?_
  rotate_left
  · intro w hSw
    try dsimp only at hSw
    go_simp <;> with_reducible rfl
  try simp only [Act.put, List.setIfInBounds_toArray, List.set_cons_zero, List.set_cons_succ]
  refine takeH (d := some 41) (v := .pointer (some (ad.add (i * 4)))) 34 rfl rfl (by kernel_rfl) (by kernel_rfl) (by kernel_rfl) (fun _ _ _ h => h) (by rfl) (fun w hSw => by (try dsimp only at hSw); go_simp <;> first | done | (rw [if_pos (by omega)]) | (intro hcc; omega)) hHeld ?_
  try simp only [Act.put, List.setIfInBounds_toArray, List.set_cons_zero, List.set_cons_succ]
  refine takeA 42 35 (v := ?_) ?_ hHeld ?_
  rotate_left
  · intro w hSw
    try dsimp only at hSw
    go_simp <;> with_reducible rfl
  try simp only [Act.put, List.setIfInBounds_toArray, List.set_cons_zero, List.set_cons_succ]
  refine takeA 43 36 (v := ?_) ?_ hHeld ?_
  rotate_left
  · intro w hSw
    try dsimp only at hSw
    go_simp <;> with_reducible rfl
  try simp only [Act.put, List.setIfInBounds_toArray, List.set_cons_zero, List.set_cons_succ]
  refine takeA 44 37 (v := ?_) ?_ hHeld ?_
  rotate_left
  · intro w hSw
    try dsimp only at hSw
    go_simp <;> with_reducible rfl
  try simp only [Act.put, List.setIfInBounds_toArray, List.set_cons_zero, List.set_cons_succ]
  refine takeH (d := some 45) (v := .bool false) 38 rfl rfl (by kernel_rfl) (by kernel_rfl) (by kernel_rfl) (fun _ _ _ h => h) (by rfl) (fun w hSw => by (try dsimp only at hSw); go_simp <;> first | done | exact HT.out) hHeld ?_
  try simp only [Act.put, List.setIfInBounds_toArray, List.set_cons_zero, List.set_cons_succ]
  refine takeA 46 39 (v := ?_) ?_ hHeld ?_
  rotate_left
  · intro w hSw
    try dsimp only at hSw
    go_simp <;> with_reducible rfl
  try simp only [Act.put, List.setIfInBounds_toArray, List.set_cons_zero, List.set_cons_succ]
  refine wpAnyH_done (by kernel_rfl) ?_ _
  clear hHeld
  go_wp2_with fail
  go_ret
  exact ⟨rfl, HN.out, KeepBut.of_below HD.out g none⟩
set_option maxRecDepth 100000 in
set_option maxHeartbeats 3200000 in
theorem take_yes {w0 : World} {g : Nat} {ad : Addr} {c : Nat} {xs : List S29} {i : Nat} {w : World} (HR : Aside0 (Tr w0 g (some ad) c xs i w)) {n : Nat} (HL : Aside0 (xs.length = n)) (hn : n ≤ 200000) (hi : i ≤ n) (k : Int) (s : ByteArray) (hlt : i < n) (K : Int) (T : ByteArray) (x0 : w.cell? (ad.add (i * 4)) = some (.int .i8 K)) (x1 : w.cell? ⟨(ad.add (i * 4)).block, (ad.add (i * 4)).off + 1, none⟩ = some (.string T)) (hk : K = k) (HT : Aside0 (T.toList = s.toList)) :
    Calls Try.prog 48 #[.pointer (some ⟨g, 0, none⟩), .int .i8 k, .string s] w fun en w' => en = .returned (.bool true) ∧ Tr w0 g (some ad) c xs (i + 1) w' ∧ KeepBut w w' g none := by
  subst hk
  have e0 := (blk_cell HR.out.blk 0).trans rfl
  have e1 := (blk_cell HR.out.blk 1).trans rfl
  simp at e0 e1
  rw [HL.out] at e0
  go_enter Try.func48, Try.ntmps48
  go_wp2_with fail
  refine wp_region_held_drew (S := fun w' => (w'.cell? ⟨g, 0, none⟩ = some (.slice (some ad) n c) ∧ w'.cell? ⟨g, 1, none⟩ = some (.int .i64 (i : Int))) ∧ w'.cell? (ad.add (i * 4)) = some (.int .i8 K) ∧ w'.cell? ⟨(ad.add (i * 4)).block, (ad.add (i * 4)).off + 1, none⟩ = some (.string T)) (by kernel_rfl) ⟨⟨e0, e1⟩, x0, x1⟩ (fun hHeld => ?_)
  have HD := Aside0.mk ((Below.refl w.heap.size w).drew)
  have HN := Aside0.mk (HR.out.after HD.out)
  generalize w.drew = w1 at *
  refine takeA 7 0 (v := ?_) ?_ hHeld ?_
  rotate_left
  · intro w hSw
    try dsimp only at hSw
    go_simp <;> with_reducible rfl
  try simp only [Act.put, List.setIfInBounds_toArray, List.set_cons_zero, List.set_cons_succ]
  refine takeA 8 1 (v := ?_) ?_ hHeld ?_
  rotate_left
  · intro w hSw
    try dsimp only at hSw
    go_simp <;> with_reducible rfl
  try simp only [Act.put, List.setIfInBounds_toArray, List.set_cons_zero, List.set_cons_succ]
  refine takeA 9 2 (v := ?_) ?_ hHeld ?_
  rotate_left
  · intro w hSw
    try dsimp only at hSw
    go_simp <;> with_reducible rfl
  try simp only [Act.put, List.setIfInBounds_toArray, List.set_cons_zero, List.set_cons_succ]
  refine takeA 10 3 (v := ?_) ?_ hHeld ?_
  rotate_left
  · intro w hSw
    try dsimp only at hSw
    go_simp <;> with_reducible rfl
  try simp only [Act.put, List.setIfInBounds_toArray, List.set_cons_zero, List.set_cons_succ]
  refine takeA 11 4 (v := ?_) ?_ hHeld ?_
  rotate_left
  · intro w hSw
    try dsimp only at hSw
    go_simp <;> with_reducible rfl
  try simp only [Act.put, List.setIfInBounds_toArray, List.set_cons_zero, List.set_cons_succ]
  refine takeA 12 5 (v := ?_) ?_ hHeld ?_
  rotate_left
  · intro w hSw
    try dsimp only at hSw
    go_simp <;> with_reducible rfl
  try simp only [Act.put, List.setIfInBounds_toArray, List.set_cons_zero, List.set_cons_succ]
  refine takeA 13 6 (v := ?_) ?_ hHeld ?_
  rotate_left
  · intro w hSw
    try dsimp only at hSw
    go_simp <;> with_reducible rfl
  try simp only [Act.put, List.setIfInBounds_toArray, List.set_cons_zero, List.set_cons_succ]
  refine takeA 14 7 (v := ?_) ?_ hHeld ?_
  rotate_left
  · intro w hSw
    try dsimp only at hSw
    go_simp <;> with_reducible rfl
  try simp only [Act.put, List.setIfInBounds_toArray, List.set_cons_zero, List.set_cons_succ]
  refine takeA 15 8 (v := ?_) ?_ hHeld ?_
  rotate_left
  · intro w hSw
    try dsimp only at hSw
    go_simp <;> with_reducible rfl
  try simp only [Act.put, List.setIfInBounds_toArray, List.set_cons_zero, List.set_cons_succ]
  refine takeH (d := some 16) (v := .bool true) 9 rfl rfl (by kernel_rfl) (by kernel_rfl) (by kernel_rfl) (fun _ _ _ h => h) (by rfl) (fun w hSw => by (try dsimp only at hSw); go_simp <;> first | done | omega | (simp; omega)) hHeld ?_
  try simp only [Act.put, List.setIfInBounds_toArray, List.set_cons_zero, List.set_cons_succ]
  refine takeA 17 10 (v := ?_) ?_ hHeld ?_
  rotate_left
  · intro w hSw
    try dsimp only at hSw
    go_simp <;> with_reducible rfl
  try simp only [Act.put, List.setIfInBounds_toArray, List.set_cons_zero, List.set_cons_succ]
  refine takeA 18 11 (v := ?_) ?_ hHeld ?_
  rotate_left
  · intro w hSw
    try dsimp only at hSw
    go_simp <;> with_reducible rfl
  try simp only [Act.put, List.setIfInBounds_toArray, List.set_cons_zero, List.set_cons_succ]
  refine takeA 19 12 (v := ?_) ?_ hHeld ?_
  rotate_left
  · intro w hSw
    try dsimp only at hSw
    go_simp <;> with_reducible rfl
  try simp only [Act.put, List.setIfInBounds_toArray, List.set_cons_zero, List.set_cons_succ]
  refine takeA 20 13 (v := ?_) ?_ hHeld ?_
  rotate_left
  · intro w hSw
    try dsimp only at hSw
    go_simp <;> with_reducible rfl
  try simp only [Act.put, List.setIfInBounds_toArray, List.set_cons_zero, List.set_cons_succ]
  refine takeA 21 14 (v := ?_) ?_ hHeld ?_
  rotate_left
  · intro w hSw
    try dsimp only at hSw
    go_simp <;> with_reducible rfl
  try simp only [Act.put, List.setIfInBounds_toArray, List.set_cons_zero, List.set_cons_succ]
  refine takeA 22 15 (v := ?_) ?_ hHeld ?_
  rotate_left
  · intro w hSw
    try dsimp only at hSw
    go_simp <;> with_reducible rfl
  try simp only [Act.put, List.setIfInBounds_toArray, List.set_cons_zero, List.set_cons_succ]
  refine takeA 23 16 (v := ?_) ?_ hHeld ?_
  rotate_left
  · intro w hSw
    try dsimp only at hSw
    go_simp <;> with_reducible rfl
  try simp only [Act.put, List.setIfInBounds_toArray, List.set_cons_zero, List.set_cons_succ]
  refine takeA 24 17 (v := ?_) ?_ hHeld ?_
  rotate_left
  · intro w hSw
    try dsimp only at hSw
    go_simp <;> with_reducible rfl
  try simp only [Act.put, List.setIfInBounds_toArray, List.set_cons_zero, List.set_cons_succ]
  refine takeA 25 18 (v := ?_) ?_ hHeld ?_
  rotate_left
  · intro w hSw
    try dsimp only at hSw
    go_simp <;> with_reducible rfl
  try simp only [Act.put, List.setIfInBounds_toArray, List.set_cons_zero, List.set_cons_succ]
  refine takeH (d := some 26) (v := .pointer (some (ad.add (i * 4)))) 19 rfl rfl (by kernel_rfl) (by kernel_rfl) (by kernel_rfl) (fun _ _ _ h => h) (by rfl) (fun w hSw => by (try dsimp only at hSw); go_simp <;> first | done | (rw [if_pos (by omega)]) | (intro hcc; omega)) hHeld ?_
  try simp only [Act.put, List.setIfInBounds_toArray, List.set_cons_zero, List.set_cons_succ]
  refine takeA 27 20 (v := ?_) ?_ hHeld ?_
  rotate_left
  · intro w hSw
    try dsimp only at hSw
    go_simp <;> with_reducible rfl
  try simp only [Act.put, List.setIfInBounds_toArray, List.set_cons_zero, List.set_cons_succ]
  refine takeA 28 21 (v := ?_) ?_ hHeld ?_
  rotate_left
  · intro w hSw
    try dsimp only at hSw
    go_simp <;> with_reducible rfl
  try simp only [Act.put, List.setIfInBounds_toArray, List.set_cons_zero, List.set_cons_succ]
  refine takeA 29 22 (v := ?_) ?_ hHeld ?_
  rotate_left
  · intro w hSw
    try dsimp only at hSw
    go_simp <;> with_reducible rfl
  try simp only [Act.put, List.setIfInBounds_toArray, List.set_cons_zero, List.set_cons_succ]
  refine takeH (d := some 30) (v := .bool true) 23 rfl rfl (by kernel_rfl) (by kernel_rfl) (by kernel_rfl) (fun _ _ _ h => h) (by rfl) (fun w hSw => by (try dsimp only at hSw); go_simp <;> first | done | exact HK.out | simp) hHeld ?_
  try simp only [Act.put, List.setIfInBounds_toArray, List.set_cons_zero, List.set_cons_succ]
  refine takeA 31 24 (v := ?_) ?_ hHeld ?_
  rotate_left
  · intro w hSw
    try dsimp only at hSw
    go_simp <;> with_reducible rfl
  try simp only [Act.put, List.setIfInBounds_toArray, List.set_cons_zero, List.set_cons_succ]
  refine takeA 32 25 (v := ?_) ?_ hHeld ?_
  rotate_left
  · intro w hSw
    try dsimp only at hSw
    go_simp <;> with_reducible rfl
  try simp only [Act.put, List.setIfInBounds_toArray, List.set_cons_zero, List.set_cons_succ]
  refine takeA 33 26 (v := ?_) ?_ hHeld ?_
  rotate_left
  · intro w hSw
    try dsimp only at hSw
    go_simp <;> with_reducible rfl
  try simp only [Act.put, List.setIfInBounds_toArray, List.set_cons_zero, List.set_cons_succ]
  refine takeA 34 27 (v := ?_) ?_ hHeld ?_
  rotate_left
  · intro w hSw
    try dsimp only at hSw
    go_simp <;> with_reducible rfl
  try simp only [Act.put, List.setIfInBounds_toArray, List.set_cons_zero, List.set_cons_succ]
  refine takeA 35 28 (v := ?_) ?_ hHeld ?_
  rotate_left
  · intro w hSw
    try dsimp only at hSw
    go_simp <;> with_reducible rfl
  try simp only [Act.put, List.setIfInBounds_toArray, List.set_cons_zero, List.set_cons_succ]
  refine takeA 36 29 (v := ?_) ?_ hHeld ?_
  rotate_left
  · intro w hSw
    try dsimp only at hSw
    go_simp <;> with_reducible rfl
  try simp only [Act.put, List.setIfInBounds_toArray, List.set_cons_zero, List.set_cons_succ]
  refine takeA 37 30 (v := ?_) ?_ hHeld ?_
  rotate_left
  · intro w hSw
    try dsimp only at hSw
    go_simp <;> with_reducible rfl
  try simp only [Act.put, List.setIfInBounds_toArray, List.set_cons_zero, List.set_cons_succ]
  refine takeA 38 31 (v := ?_) ?_ hHeld ?_
  rotate_left
  · intro w hSw
    try dsimp only at hSw
    go_simp <;> with_reducible rfl
  try simp only [Act.put, List.setIfInBounds_toArray, List.set_cons_zero, List.set_cons_succ]
  refine takeA 39 32 (v := ?_) ?_ hHeld ?_
  rotate_left
  · intro w hSw
    try dsimp only at hSw
    go_simp <;> with_reducible rfl
  try simp only [Act.put, List.setIfInBounds_toArray, List.set_cons_zero, List.set_cons_succ]
  refine takeA 40 33 (v := ?_) ?_ hHeld ?_
  rotate_left
  · intro w hSw
    try dsimp only at hSw
    go_simp <;> with_reducible rfl
  try simp only [Act.put, List.setIfInBounds_toArray, List.set_cons_zero, List.set_cons_succ]
  refine takeH (d := some 41) (v := .pointer (some (ad.add (i * 4)))) 34 rfl rfl (by kernel_rfl) (by kernel_rfl) (by kernel_rfl) (fun _ _ _ h => h) (by rfl) (fun w hSw => by (try dsimp only at hSw); go_simp <;> first | done | (rw [if_pos (by omega)]) | (intro hcc; omega)) hHeld ?_
  try simp only [Act.put, List.setIfInBounds_toArray, List.set_cons_zero, List.set_cons_succ]
  refine takeA 42 35 (v := ?_) ?_ hHeld ?_
  rotate_left
  · intro w hSw
    try dsimp only at hSw
    go_simp <;> with_reducible rfl
  try simp only [Act.put, List.setIfInBounds_toArray, List.set_cons_zero, List.set_cons_succ]
  refine takeA 43 36 (v := ?_) ?_ hHeld ?_
  rotate_left
  · intro w hSw
    try dsimp only at hSw
    go_simp <;> with_reducible rfl
  try simp only [Act.put, List.setIfInBounds_toArray, List.set_cons_zero, List.set_cons_succ]
  refine takeA 44 37 (v := ?_) ?_ hHeld ?_
  rotate_left
  · intro w hSw
    try dsimp only at hSw
    go_simp <;> with_reducible rfl
  try simp only [Act.put, List.setIfInBounds_toArray, List.set_cons_zero, List.set_cons_succ]
  refine takeH (d := some 45) (v := .bool true) 38 rfl rfl (by kernel_rfl) (by kernel_rfl) (by kernel_rfl) (fun _ _ _ h => h) (by rfl) (fun w hSw => by (try dsimp only at hSw); go_simp <;> first | done | exact HT.out) hHeld ?_
  try simp only [Act.put, List.setIfInBounds_toArray, List.set_cons_zero, List.set_cons_succ]
  refine takeA 46 39 (v := ?_) ?_ hHeld ?_
  rotate_left
  · intro w hSw
    try dsimp only at hSw
    go_simp <;> with_reducible rfl
  try simp only [Act.put, List.setIfInBounds_toArray, List.set_cons_zero, List.set_cons_succ]
  refine wpAnyH_done (by kernel_rfl) ?_ _
  clear hHeld
  have e1 := (blk_cell HN.out.blk 1).trans rfl
  have z1 := blk_frozen HN.out.blk 1
  simp at e1
  go_wp2_with fail
  go_ret
  exact ⟨rfl, HN.out.move (i + 1), (KeepBut.of_below HD.out g none).set_ 1 _⟩
end Go.Proofs.Ytjmpejbciniceaa.X
