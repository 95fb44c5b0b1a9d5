/- The contract of scan's method word. -/
import Derived.Test.YtjmpejbciniceaaDoorHNumber
namespace Go.Proofs.YtjmpejbciniceaaDoor.X
open Go.RowKit Go.Proofs.YtjmpejbciniceaaDoorW.PrintWords Go.Proofs.YtjmpejbciniceaaDoorW.PrintLast Go.Proofs.YtjmpejbciniceaaDoorW.PrintMore
set_option linter.unusedVariables false
set_option linter.unusedSimpArgs false

theorem key_yes {l : List UInt8} {k : List UInt8} (h : l = k) (hk : keysU.contains k = true) : some true = some (keysU.contains l) := by rw [h, hk]
theorem key_is (k : Nat) (s : ByteArray) : scan_Key.f (k + 1) s = some (keyU s.toList) := by
  unfold scan_Key.f keyU
  simp only [scan_Key.j0]
  generalize s.toList = l
  by_cases h0 : l = ([108, 101, 116] : List UInt8)
  · rw [if_pos h0, if_pos (beq_iff_eq.2 h0)]; exact key_yes h0 (by decide)
  rw [if_neg h0]
  by_cases h1 : l = ([105, 110] : List UInt8)
  · rw [if_pos h1, if_pos (beq_iff_eq.2 h1)]; exact key_yes h1 (by decide)
  rw [if_neg h1]
  by_cases h2 : l = ([105, 102] : List UInt8)
  · rw [if_pos h2, if_pos (beq_iff_eq.2 h2)]; exact key_yes h2 (by decide)
  rw [if_neg h2]
  by_cases h3 : l = ([116, 104, 101, 110] : List UInt8)
  · rw [if_pos h3, if_pos (beq_iff_eq.2 h3)]; exact key_yes h3 (by decide)
  rw [if_neg h3]
  by_cases h4 : l = ([101, 108, 115, 101] : List UInt8)
  · rw [if_pos h4, if_pos (beq_iff_eq.2 h4)]; exact key_yes h4 (by decide)
  rw [if_neg h4]
  by_cases h5 : l = ([114, 101, 99] : List UInt8)
  · rw [if_pos h5, if_pos (beq_iff_eq.2 h5)]; exact key_yes h5 (by decide)
  rw [if_neg h5]
  by_cases h6 : l = ([99, 97, 115, 101] : List UInt8)
  · rw [if_pos h6, if_pos (beq_iff_eq.2 h6)]; exact key_yes h6 (by decide)
  rw [if_neg h6]
  by_cases h7 : l = ([111, 102] : List UInt8)
  · rw [if_pos (beq_iff_eq.2 h7)]; exact key_yes h7 (by decide)
  rw [if_neg (fun e => h7 (beq_iff_eq.1 e))]
  by_cases h8 : l = ([102, 115, 116] : List UInt8)
  · rw [if_pos h8]; exact key_yes h8 (by decide)
  rw [if_neg h8]
  by_cases h9 : l = ([115, 110, 100] : List UInt8)
  · rw [if_pos h9]; exact key_yes h9 (by decide)
  rw [if_neg h9]
  by_cases h10 : l = ([105, 110, 108] : List UInt8)
  · rw [if_pos h10]; exact key_yes h10 (by decide)
  rw [if_neg h10]
  by_cases h11 : l = ([105, 110, 114] : List UInt8)
  · rw [if_pos h11]; exact key_yes h11 (by decide)
  rw [if_neg h11]
  by_cases h12 : l = ([116, 114, 117, 101] : List UInt8)
  · rw [if_pos h12]; exact key_yes h12 (by decide)
  rw [if_neg h12]
  by_cases h13 : l = ([102, 97, 108, 115, 101] : List UInt8)
  · rw [if_pos h13]; exact key_yes h13 (by decide)
  rw [if_neg h13]
  by_cases h14 : l = ([105, 110, 116] : List UInt8)
  · rw [if_pos h14]; exact key_yes h14 (by decide)
  rw [if_neg h14]
  by_cases h15 : l = ([98, 111, 111, 108] : List UInt8)
  · rw [if_pos h15]; exact key_yes h15 (by decide)
  rw [if_neg h15]
  have : keysU.contains l = false := by simp [keysU, h0, h1, h2, h3, h4, h5, h6, h7, h8, h9, h10, h11, h12, h13, h14, h15]
  rw [this]

theorem bytes_toList (s : ByteArray) : s.toList = s.data.toList := by
  have : ∀ (n i : Nat) (r : List UInt8), s.size - i = n → ByteArray.toList.loop s i r = r.reverse ++ s.data.toList.drop i := by
    intro n
    induction n with
    | zero =>
      intro i r h
      unfold ByteArray.toList.loop
      rw [if_neg (by omega), List.drop_eq_nil_of_le (by simp; omega), List.append_nil]
    | succ n ih =>
      intro i r h
      unfold ByteArray.toList.loop
      rw [if_pos (by omega), ih (i + 1) _ (by omega), drop_at s i (by omega), get_in s i (by omega)]
      simp
  have h := this s.size 0 [] rfl
  simpa [ByteArray.toList] using h
theorem key_calls (t : ByteArray) (w : World) : Calls Tryd.prog 61 #[.string t] w fun e w' => e = .returned (.bool (keyU t.data.toList)) ∧ Below w.heap.size w w' := (scan_Key.calls 1 t _ w (by rw [key_is, bytes_toList])).mono fun e w' h => ⟨h.1, h.2.below⟩
theorem span_true : spanP true = fun d => letU d || digU d := by funext d; simp [spanP, Bool.or_comm]
theorem span_false : spanP false = digU := by funext d; simp [spanP]
theorem take_while_len (p : UInt8 → Bool) (l : List UInt8) : l.take (l.takeWhile p).length = l.takeWhile p := by
  have := List.takeWhile_append_dropWhile (p := p) (l := l)
  conv => lhs; arg 2; rw [← this]
  exact List.take_left
theorem drop_while_len (p : UInt8 → Bool) (l : List UInt8) : l.drop (l.takeWhile p).length = l.dropWhile p := by
  have := List.takeWhile_append_dropWhile (p := p) (l := l)
  conv => lhs; arg 2; rw [← this]
  exact List.drop_left
theorem span_text (s : ByteArray) (a : Nat) (b : Bool) (ha : a ≤ s.size) : (s.extract a (a + spanN s a b)).data.toList = (s.data.toList.drop a).takeWhile (spanP b) := by
  unfold spanN
  have e : (s.extract a (a + ((s.data.toList.drop a).takeWhile (spanP b)).length)).data.toList = (s.data.toList.drop a).take ((s.data.toList.drop a).takeWhile (spanP b)).length := by
    simp
  rw [e, take_while_len]
theorem one_text (s : ByteArray) (a b : Nat) (hb : b = a + 1) (h : a < s.size) : s.extract a b = bytesS [s[a]'h] := by
  subst hb
  apply ByteArray.ext
  apply Array.ext'
  have e : (s.extract a (a + 1)).data.toList = (s.data.toList.drop a).take 1 := by simp
  rw [e, drop_at s a h]
  rfl
theorem WordPost.of_fault {w0 : World} {g : Nat} {s : ByteArray} {a : Nat} {ws : List S37} {w wr : World} {e : Int} {t : List UInt8} {en : Ending} {w' : World} (hb : Below w.heap.size w wr) (h : WordPost w0 g s a ws wr (.fault e t) en w') : WordPost w0 g s a ws w (.fault e t) en w' := FaultPost.lift hb h
theorem WordPost.of {w0 : World} {g : Nat} {s : ByteArray} {a : Nat} {ws : List S37} {w wr : World} {r : SRes} {en : Ending} {w' : World} (hb : Below w.heap.size w wr) (h : WordPost w0 g s a ws wr r en w') : WordPost w0 g s a ws w r en w' := by
  cases r with
  | fault e t => exact FaultPost.lift hb h
  | word k t n => exact h
/-- A post's ending is a returned value. -/
theorem WordPost.ret {w0 : World} {g : Nat} {s : ByteArray} {a : Nat} {ws : List S37} {w : World} {r : SRes} {en : Ending} {w' : World} (h : WordPost w0 g s a ws w r en w') : ∃ v, en = .returned v := by
  cases r with
  | fault e t => obtain ⟨p, h1, _⟩ := h; exact ⟨_, h1⟩
  | word k t n => exact ⟨_, h.1⟩
theorem letter_q {c : UInt8} {q : Int} (h : (c.toNat : Int) = q) (w : World) : Calls Tryd.prog 58 #[.int .u8 q] w fun e w' => e = .returned (.bool (letU c)) ∧ Below w.heap.size w w' := by subst h; exact letter_calls c w
theorem digit_q {c : UInt8} {q : Int} (h : (c.toNat : Int) = q) (w : World) : Calls Tryd.prog 63 #[.int .u8 q] w fun e w' => e = .returned (.bool (digU c)) ∧ Below w.heap.size w w' := by subst h; exact digit_calls c w
theorem takeWhile_all (p : UInt8 → Bool) (l : List UInt8) : ∀ c ∈ l.takeWhile p, p c = true := by
  induction l with
  | nil => simp
  | cons d l ih =>
    rw [List.takeWhile_cons]
    split
    · intro c hc
      rcases List.mem_cons.1 hc with rfl | hc
      · assumption
      · exact ih c hc
    · simp
set_option maxRecDepth 100000 in
set_option maxHeartbeats 3200000 in
theorem word_letter {w0 : World} {g : Nat} {s : ByteArray} {a : Nat} {v : Value} {ws : List S37} {w : World} {q : Int} {c : UInt8} (HR : Aside0 (Rd w0 g s a v ws w)) (ha : a < s.size) (hs : s.size ≤ 65536) (hl : ws.length ≤ 100000) (HC : Aside0 (s[a]'ha = c)) (HQ : Aside0 (((s[a]'ha).toNat : Int) = q)) (HL : Aside0 (letU (s[a]'ha) = true)) (m : List UInt8) (HM : Aside0 ((s.data.toList.drop a).takeWhile (spanP true) = m)) (K : Bool) (HK : Aside0 (keyU m = K)) (r : SRes) (HE : Aside0 (r = (if 64 < m.length then .fault 3 m else .word (if K then 3 else 1) m 0))) :
    Calls Tryd.prog 26 #[.pointer (some ⟨g, 0, none⟩)] w (WordPost w0 g s a ws w r) := by
  go_enter Tryd.func26, Tryd.ntmps26
  go_wp2_with fail
  have e0 := (blk_cell HR.out.blk 0).trans rfl
  have e1 := (blk_cell HR.out.blk 1).trans rfl
  simp at e0 e1
  refine wp_region_held_drew (S := fun w' => w'.cell? ⟨g, 0, none⟩ = some (.string s) ∧ w'.cell? ⟨g, 1, none⟩ = some (.int .i64 (a : Int))) (by kernel_rfl) ⟨e0, e1⟩ (fun hHeld => ?_)
  clear e0 e1
  have HB := Aside0.mk ((Below.refl w.heap.size w).drew)
  replace HR := Aside0.mk (HR.out.after HB.out)
  refine takeA 5 0 (v := ?_) ?_ hHeld ?_
  rotate_left
  · intro w hSw
    try dsimp only at hSw
    go_simp <;> with_reducible rfl
  try simp only [Act.put, List.setIfInBounds_toArray, List.set_cons_zero, List.set_cons_succ]
  refine takeA 6 1 (v := ?_) ?_ hHeld ?_
  rotate_left
  · intro w hSw
    try dsimp only at hSw
    go_simp <;> with_reducible rfl
  try simp only [Act.put, List.setIfInBounds_toArray, List.set_cons_zero, List.set_cons_succ]
  refine takeA 7 2 (v := ?_) ?_ hHeld ?_
  rotate_left
  · intro w hSw
    try dsimp only at hSw
    go_simp <;> with_reducible rfl
  try simp only [Act.put, List.setIfInBounds_toArray, List.set_cons_zero, List.set_cons_succ]
  refine takeA 8 3 (v := ?_) ?_ hHeld ?_
  rotate_left
  · intro w hSw
    try dsimp only at hSw
    go_simp <;> with_reducible rfl
  try simp only [Act.put, List.setIfInBounds_toArray, List.set_cons_zero, List.set_cons_succ]
  refine takeA 9 4 (v := ?_) ?_ hHeld ?_
  rotate_left
  · intro w hSw
    try dsimp only at hSw
    go_simp <;> with_reducible rfl
  try simp only [Act.put, List.setIfInBounds_toArray, List.set_cons_zero, List.set_cons_succ]
  refine takeA 10 5 (v := ?_) ?_ hHeld ?_
  rotate_left
  · intro w hSw
    try dsimp only at hSw
    go_simp <;> with_reducible rfl
  try simp only [Act.put, List.setIfInBounds_toArray, List.set_cons_zero, List.set_cons_succ]
  refine takeA 11 6 (v := ?_) ?_ hHeld ?_
  rotate_left
  · intro w hSw
    try dsimp only at hSw
    go_simp <;> with_reducible rfl
  try simp only [Act.put, List.setIfInBounds_toArray, List.set_cons_zero, List.set_cons_succ]
  refine takeA 12 7 (v := ?_) ?_ hHeld ?_
  rotate_left
  · intro w hSw
    try dsimp only at hSw
    go_simp <;> with_reducible rfl
  try simp only [Act.put, List.setIfInBounds_toArray, List.set_cons_zero, List.set_cons_succ]
  refine takeH (d := some 13) (v := .int .u8 q) 8 rfl rfl (by kernel_rfl) (by kernel_rfl) (by kernel_rfl) (fun _ _ _ h => h) (by rfl) (fun w hSw => by (try dsimp only at hSw); go_simp; rw [HQ.out]) hHeld ?_
  try simp only [Act.put, List.setIfInBounds_toArray, List.set_cons_zero, List.set_cons_succ]
  refine takeA 3 9 (v := ?_) ?_ hHeld ?_
  rotate_left
  · intro w hSw
    try dsimp only at hSw
    go_simp <;> with_reducible rfl
  try simp only [Act.put, List.setIfInBounds_toArray, List.set_cons_zero, List.set_cons_succ]
  refine wpAnyH_done (by kernel_rfl) ?_ _
  clear hHeld
  generalize w.drew = w1 at *
  go_wp2_with fail
  refine (letter_q HQ.out _).mono ?_
  rw [HL.out]
  rintro e w2 ⟨rfl, hB⟩
  replace HR := Aside0.mk (HR.out.after hB)
  replace HB := Aside0.mk (below_then HB.out HB.out.size hB)
  clear hB
  go_wp2_with fail
  refine (span_calls HR.out true (by omega) hs).mono ?_
  rintro e w3 ⟨rfl, hB⟩
  replace HR := Aside0.mk (HR.out.after hB)
  replace HB := Aside0.mk (below_then HB.out HB.out.size hB)
  clear hB
  have hx := span_text s a true (by omega)
  rw [HM.out] at hx
  generalize s.extract a (a + spanN s a true) = t at *
  have HT := Aside0.mk hx
  have hz : t.size = m.length := by rw [← hx]; simp
  have HTB := Aside0.mk (show bytesS m = t by rw [← hx]; exact bytes_of t)
  have hms : m.length ≤ 65536 := by rw [← HM.out]; have := (List.takeWhile_sublist (spanP true) (l := s.data.toList.drop a)).length_le; simp at this; omega
  have HZ := Aside0.mk hz
  clear hx hz
  by_cases hb : 64 < m.length
  · replace HE := Aside0.mk (HE.out.trans (if_pos hb))
    have hb2 : 64 < t.size := by rw [HZ.out]; exact hb
    go_wp2_with fail
    refine (fault_calls HR.out 3 t).mono ?_
    intro e w4 hp
    obtain ⟨p, rfl, hq⟩ := hp.lift HB.out
    have HP := Aside0.mk hq
    clear hp hq
    go_wp2_with fail
    go_ret
    rw [HE.out]
    show FaultPost w 3 a (bytesS m) _ _
    rw [HTB.out]
    exact ⟨p, rfl, HP.out⟩
  · replace HE := Aside0.mk (HE.out.trans (if_neg hb))
    have hb2 : ¬ 64 < t.size := by rw [HZ.out]; exact hb
    go_wp2_with fail
    refine (key_calls t _).mono ?_
    rw [HT.out, HK.out]
    rintro e w4 ⟨rfl, hB⟩
    replace HR := Aside0.mk (HR.out.after hB)
    replace HB := Aside0.mk (below_then HB.out HB.out.size hB)
    clear hB
    cases K with
    | true =>
      go_wp2_with fail
      refine (put_calls HR.out 3 t 0 hl (by omega) (by have := HZ.out; omega)).mono ?_
      rintro e w5 ⟨rfl, v5, hv⟩
      have HV := Aside0.mk hv
      clear hv
      go_wp2_with fail
      go_ret
      rw [HE.out]
      show PutPost w0 g s (a + m.length) (ws ++ [⟨3, bytesS m, ((0 : Nat) : Int), a⟩]) _ _
      rw [HTB.out, ← HZ.out]
      exact ⟨rfl, v5, HV.out⟩
    | false =>
      go_wp2_with fail
      refine (put_calls HR.out 1 t 0 hl (by omega) (by have := HZ.out; omega)).mono ?_
      rintro e w5 ⟨rfl, v5, hv⟩
      have HV := Aside0.mk hv
      clear hv
      go_wp2_with fail
      go_ret
      rw [HE.out]
      show PutPost w0 g s (a + m.length) (ws ++ [⟨1, bytesS m, ((0 : Nat) : Int), a⟩]) _ _
      rw [HTB.out, ← HZ.out]
      exact ⟨rfl, v5, HV.out⟩
set_option maxRecDepth 100000 in
set_option maxHeartbeats 3200000 in
theorem word_digit {w0 : World} {g : Nat} {s : ByteArray} {a : Nat} {v : Value} {ws : List S37} {w : World} {q : Int} {c : UInt8} (HR : Aside0 (Rd w0 g s a v ws w)) (ha : a < s.size) (hs : s.size ≤ 65536) (hl : ws.length ≤ 100000) (HC : Aside0 (s[a]'ha = c)) (HQ : Aside0 (((s[a]'ha).toNat : Int) = q)) (HL : Aside0 (letU (s[a]'ha) = false)) (HD : Aside0 (digU (s[a]'ha) = true)) (m : List UInt8) (HM : Aside0 ((s.data.toList.drop a).takeWhile (spanP false) = m)) (hm1 : 1 ≤ m.length) (h : Bool) (HH : Aside0 (headLet (s.data.toList.drop (a + m.length)) = h)) (r : SRes) (HE : Aside0 (r = (numS (bytesS m) h))) :
    Calls Tryd.prog 26 #[.pointer (some ⟨g, 0, none⟩)] w (WordPost w0 g s a ws w r) := by
  go_enter Tryd.func26, Tryd.ntmps26
  go_wp2_with fail
  have e0 := (blk_cell HR.out.blk 0).trans rfl
  have e1 := (blk_cell HR.out.blk 1).trans rfl
  simp at e0 e1
  refine wp_region_held_drew (S := fun w' => w'.cell? ⟨g, 0, none⟩ = some (.string s) ∧ w'.cell? ⟨g, 1, none⟩ = some (.int .i64 (a : Int))) (by kernel_rfl) ⟨e0, e1⟩ (fun hHeld => ?_)
  clear e0 e1
  have HB := Aside0.mk ((Below.refl w.heap.size w).drew)
  replace HR := Aside0.mk (HR.out.after HB.out)
  refine takeA 5 0 (v := ?_) ?_ hHeld ?_
  rotate_left
  · intro w hSw
    try dsimp only at hSw
    go_simp <;> with_reducible rfl
  try simp only [Act.put, List.setIfInBounds_toArray, List.set_cons_zero, List.set_cons_succ]
  refine takeA 6 1 (v := ?_) ?_ hHeld ?_
  rotate_left
  · intro w hSw
    try dsimp only at hSw
    go_simp <;> with_reducible rfl
  try simp only [Act.put, List.setIfInBounds_toArray, List.set_cons_zero, List.set_cons_succ]
  refine takeA 7 2 (v := ?_) ?_ hHeld ?_
  rotate_left
  · intro w hSw
    try dsimp only at hSw
    go_simp <;> with_reducible rfl
  try simp only [Act.put, List.setIfInBounds_toArray, List.set_cons_zero, List.set_cons_succ]
  refine takeA 8 3 (v := ?_) ?_ hHeld ?_
  rotate_left
  · intro w hSw
    try dsimp only at hSw
    go_simp <;> with_reducible rfl
  try simp only [Act.put, List.setIfInBounds_toArray, List.set_cons_zero, List.set_cons_succ]
  refine takeA 9 4 (v := ?_) ?_ hHeld ?_
  rotate_left
  · intro w hSw
    try dsimp only at hSw
    go_simp <;> with_reducible rfl
  try simp only [Act.put, List.setIfInBounds_toArray, List.set_cons_zero, List.set_cons_succ]
  refine takeA 10 5 (v := ?_) ?_ hHeld ?_
  rotate_left
  · intro w hSw
    try dsimp only at hSw
    go_simp <;> with_reducible rfl
  try simp only [Act.put, List.setIfInBounds_toArray, List.set_cons_zero, List.set_cons_succ]
  refine takeA 11 6 (v := ?_) ?_ hHeld ?_
  rotate_left
  · intro w hSw
    try dsimp only at hSw
    go_simp <;> with_reducible rfl
  try simp only [Act.put, List.setIfInBounds_toArray, List.set_cons_zero, List.set_cons_succ]
  refine takeA 12 7 (v := ?_) ?_ hHeld ?_
  rotate_left
  · intro w hSw
    try dsimp only at hSw
    go_simp <;> with_reducible rfl
  try simp only [Act.put, List.setIfInBounds_toArray, List.set_cons_zero, List.set_cons_succ]
  refine takeH (d := some 13) (v := .int .u8 q) 8 rfl rfl (by kernel_rfl) (by kernel_rfl) (by kernel_rfl) (fun _ _ _ h => h) (by rfl) (fun w hSw => by (try dsimp only at hSw); go_simp; rw [HQ.out]) hHeld ?_
  try simp only [Act.put, List.setIfInBounds_toArray, List.set_cons_zero, List.set_cons_succ]
  refine takeA 3 9 (v := ?_) ?_ hHeld ?_
  rotate_left
  · intro w hSw
    try dsimp only at hSw
    go_simp <;> with_reducible rfl
  try simp only [Act.put, List.setIfInBounds_toArray, List.set_cons_zero, List.set_cons_succ]
  refine wpAnyH_done (by kernel_rfl) ?_ _
  clear hHeld
  generalize w.drew = w1 at *
  go_wp2_with fail
  refine (letter_q HQ.out _).mono ?_
  rw [HL.out]
  rintro e w2 ⟨rfl, hB⟩
  replace HR := Aside0.mk (HR.out.after hB)
  replace HB := Aside0.mk (below_then HB.out HB.out.size hB)
  clear hB
  go_wp2_with fail
  refine (digit_q HQ.out _).mono ?_
  rw [HD.out]
  rintro e w3 ⟨rfl, hB⟩
  replace HR := Aside0.mk (HR.out.after hB)
  replace HB := Aside0.mk (below_then HB.out HB.out.size hB)
  clear hB
  go_wp2_with fail
  refine (span_calls HR.out false (by omega) hs).mono ?_
  rintro e w4 ⟨rfl, hB⟩
  replace HR := Aside0.mk (HR.out.after hB)
  replace HB := Aside0.mk (below_then HB.out HB.out.size hB)
  clear hB
  have hx := span_text s a false (by omega)
  rw [HM.out] at hx
  generalize s.extract a (a + spanN s a false) = t at *
  have hz : t.size = m.length := by rw [← hx]; simp
  have HTB := Aside0.mk (show bytesS m = t by rw [← hx]; exact bytes_of t)
  have hms : a + m.length ≤ s.size := by rw [← HM.out]; have := (List.takeWhile_sublist (spanP false) (l := s.data.toList.drop a)).length_le; simp at this; omega
  have hdg : ∀ c ∈ t.data.toList, digU c = true := by
    intro c hc
    rw [hx, ← HM.out, span_false] at hc
    exact takeWhile_all _ _ c hc
  have HDG := Aside0.mk hdg
  have HZ := Aside0.mk hz
  clear hx hz hdg
  go_wp2_with fail
  refine (number_calls HR.out t HDG.out (by rw [HZ.out]; exact hm1) (by rw [HZ.out]; exact hms) hs hl).mono ?_
  rw [HZ.out, HH.out]
  intro e w5 hp
  rw [← HTB.out, ← HE.out] at hp
  obtain ⟨vv, rfl⟩ := hp.ret
  have HP := Aside0.mk (hp.of HB.out)
  clear hp
  go_wp2_with fail
  go_ret
  exact HP.out
end Go.Proofs.YtjmpejbciniceaaDoor.X
