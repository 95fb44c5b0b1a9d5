/- The document's Line by its contract. -/
import Derived.Test.YtamfknhgjkmdfaaDoorHRefB
namespace Go.Proofs.YtamfknhgjkmdfaaDoor.X
open Go.RowKit Go.Proofs.YtamfknhgjkmdfaaDoorW.PrintWords Go.Proofs.YtamfknhgjkmdfaaDoorW.PrintLast Go.Proofs.YtamfknhgjkmdfaaDoorW.PrintMore
set_option linter.unusedVariables false
set_option linter.unusedSimpArgs false
theorem lp_at (xs : List UInt8) (f : Nat) (h : ∀ c ∈ xs.drop f, nl c = true) (h0 : f = 0 ∨ ∃ g, f = g + 1 ∧ xs[g]? = some 10) : xs.drop f = lastPart xs := by
  rcases h0 with rfl | ⟨g, rfl, hg⟩
  · rw [List.drop_zero] at *; exact (lastPart_all _ h).symm
  · obtain ⟨hl, he⟩ := List.getElem?_eq_some_iff.1 hg
    have e : xs = xs.take g ++ 10 :: xs.drop (g + 1) := by rw [← he, ← List.drop_eq_getElem_cons hl, List.take_append_drop]
    have := lastPart_of (xs.take g) (xs.drop (g + 1)) h
    rw [← e] at this
    exact this.symm
theorem tw_at (l : List UInt8) (k t : Nat) (hkt : k ≤ t) (h : ∀ c ∈ (l.drop k).take (t - k), nl c = true) (h0 : l.length ≤ t ∨ l[t]? = some 10) : (l.drop k).takeWhile nl = (l.drop k).take (t - k) := by
  have e : l.drop k = (l.drop k).take (t - k) ++ l.drop t := by
    have : l.drop t = (l.drop k).drop (t - k) := by rw [List.drop_drop]; congr 1; omega
    rw [this, List.take_append_drop]
  have e2 : (l.drop t).takeWhile nl = [] := by
    rcases h0 with h0 | h0
    · rw [List.drop_of_length_le h0]; rfl
    · obtain ⟨hl, he⟩ := List.getElem?_eq_some_iff.1 h0
      rw [List.drop_eq_getElem_cons hl, he]; rfl
  conv => lhs; rw [e]
  rw [takeWhile_app h, e2, List.append_nil]
theorem line_end (l : List UInt8) (f k t : Nat) (hf : f ≤ k) (hkt : k ≤ t) (hk : k ≤ l.length) (hA : (l.take k).drop f = lastPart (l.take k)) (hB : (l.drop k).takeWhile nl = (l.drop k).take (t - k)) : (l.take t).drop f = lineB l k := by
  unfold lineB
  rw [← hA, hB]
  have : l.take t = l.take k ++ (l.drop k).take (t - k) := by rw [← List.take_add]; congr 1; omega
  rw [this, List.drop_append_of_le_length (by simp; omega)]
theorem nl_of {s : ByteArray} {j : Nat} {h : j < s.size} (hx : s[j]'h ≠ 10) : nl (s[j]'h) = true := by unfold nl; simpa using hx
theorem get_list (s : ByteArray) (j : Nat) (h : j < s.size) : s.data.toList[j]? = some (s[j]'h) := by rw [List.getElem?_eq_getElem (by simpa using h)]; rfl
theorem e10 {s : ByteArray} {j : Nat} {h : j < s.size} : (((s[j]'h).toNat : Int) == 10) = decide (s[j]'h = 10) := by
  by_cases hx : s[j]'h = 10
  · rw [hx]; rfl
  · rw [decide_eq_false hx]
    simp only [beq_eq_false_iff_ne, ne_eq]
    intro h2; exact hx (UInt8.toNat_inj.1 (show (s[j]'h).toNat = 10 by omega))
set_option maxRecDepth 100000 in
set_option maxHeartbeats 3200000 in
theorem rline_calls (s : ByteArray) (a : Int) (w : World) (hs : s.size ≤ 140737488355328) :
    Calls Tryd.prog 15 #[.string s, .int .i64 a] w fun e w' => e = .returned (.string ⟨(lineB s.data.toList (atN a s.size)).toArray⟩) ∧ Below w.heap.size w w' := by
  go_enter Tryd.func15, Tryd.ntmps15
  go_wp2_with fail
  rw [← atN_eq a s.size]
  have hk := atN_le a s.size
  obtain ⟨k, hkk⟩ : ∃ k, k = atN a s.size := ⟨_, rfl⟩
  rw [← hkk] at hk ⊢
  have HK := Aside0.mk hkk
  clear hkk
  go_loopw [5] (fun i wr => ∃ f : Nat, i = .int .i64 f ∧ f ≤ k ∧ (∀ c ∈ (s.data.toList.take k).drop f, nl c = true) ∧ Below w.heap.size w wr) (fun i _ => (intOf i).toNat)
  case atStart => exact ⟨k, rfl, Nat.le_refl _, by rw [List.drop_of_length_le (by simp; omega)]; simp, Below.refl _ _⟩
  case round =>
    obtain ⟨f, rfl, hf, hall, hb⟩ := hrel
    have HB := Aside0.mk hb
    have HAL := Aside0.mk hall
    clear hb hall
    by_cases hf0 : f = 0
    · subst hf0
      have HA := Aside0.mk (lp_at _ _ HAL.out (.inl rfl))
      go_wp2_with fail
      go_loopw [6] (fun i wr2 => ∃ t : Nat, i = .int .i64 t ∧ k ≤ t ∧ t ≤ s.size ∧ (∀ c ∈ (s.data.toList.drop k).take (t - k), nl c = true) ∧ Below w.heap.size w wr2) (fun i _ => s.size - (intOf i).toNat)
      case atStart => exact ⟨k, rfl, Nat.le_refl _, hk, by simp, HB.out⟩
      case round =>
        obtain ⟨t, rfl, hkt, hts, hall, hb2⟩ := hrel
        have HB2 := Aside0.mk hb2
        have HAL := Aside0.mk hall
        clear hb2 hall HB
        by_cases htn : t < s.size
        · by_cases hx : s[t]'htn = 10
          · have e0 : (((s[t]'htn).toNat : Int) == 10) = true := by rw [e10, decide_eq_true hx]
            have HTW := Aside0.mk (tw_at s.data.toList k t hkt HAL.out (.inr (by rw [get_list s t htn, hx])))
            clear hx
            have HLE := Aside0.mk (line_end s.data.toList 0 k t hf hkt (by simp; omega) HA.out HTW.out)
            have hsl : ∀ wx, (Instr.slice 9 (.string s) (some (.int .i64 (((0 : Nat) : Nat) : Int))) (some (.int .i64 (t : Int))) none).run Tryd.prog wx = .ok (.string (s.extract 0 t)) wx := fun wx => (run_slice_string (P := Tryd.prog) wx 9 s .i64 .i64 _ _ Tryd.underlying9 (by omega) (by omega) (by omega)).trans rfl
            push_cast at hsl
            go_wp2_with fail
            go_ret
            refine ⟨?_, HB2.out⟩
            show Ending.returned (.string _) = Ending.returned (.string _)
            rw [← HK.out]
            refine congrArg _ (congrArg _ (bytes_eq ?_))
            first
              | rw [extract_list, HLE.out]
              | (have e := HLE.out; rw [List.drop_zero, List.take_of_length_le (by simp)] at e; exact e)
          · have e0 : (((s[t]'htn).toNat : Int) == 10) = false := by rw [e10, decide_eq_false hx]
            have HN : Aside0 (∀ c ∈ (s.data.toList.drop k).take (t + 1 - k), nl c = true) := .mk (by
              have : t + 1 - k = (t - k) + 1 := by omega
              rw [this, List.take_add_one, List.getElem?_drop, show k + (t - k) = t by omega, get_list s t htn]
              intro c hc
              rw [List.mem_append] at hc
              rcases hc with hc | hc
              · exact HAL.out c hc
              · simp at hc; subst hc; exact nl_of hx)
            clear hx
            go_wp2_with fail
            exact ⟨⟨t + 1, by first | rfl | simp, by omega, by omega, HN.out, HB2.out⟩, by first | (simp [intOf]; done) | (simp [intOf]; omega)⟩
        · have htz : t = s.size := by omega
          subst htz
          have HTW := Aside0.mk (tw_at s.data.toList k s.size hkt HAL.out (.inl (by simp)))
          clear htn hts
          have HLE := Aside0.mk (line_end s.data.toList 0 k s.size hf hkt (by simp; omega) HA.out HTW.out)
          have hsl : ∀ wx, (Instr.slice 9 (.string s) (some (.int .i64 (((0 : Nat) : Nat) : Int))) (some (.int .i64 (s.size : Int))) none).run Tryd.prog wx = .ok (.string (s.extract 0 s.size)) wx := fun wx => (run_slice_string (P := Tryd.prog) wx 9 s .i64 .i64 _ _ Tryd.underlying9 (by omega) (by omega) (by omega)).trans rfl
          push_cast at hsl
          go_wp2_with fail
          go_ret
          refine ⟨?_, HB2.out⟩
          show Ending.returned (.string _) = Ending.returned (.string _)
          rw [← HK.out]
          refine congrArg _ (congrArg _ (bytes_eq ?_))
          first
            | rw [extract_list, HLE.out]
            | (have e := HLE.out; rw [List.drop_zero, List.take_of_length_le (by simp)] at e; exact e)
    · obtain ⟨g, rfl⟩ : ∃ g, f = g + 1 := ⟨f - 1, by omega⟩
      have hgs : g < s.size := by omega
      by_cases hx : s[g]'hgs = 10
      · have e0 : (((s[g]'hgs).toNat : Int) == 10) = true := by rw [e10, decide_eq_true hx]
        have HA := Aside0.mk (lp_at (s.data.toList.take k) (g + 1) HAL.out (.inr ⟨g, rfl, by rw [List.getElem?_take_of_lt (by omega), get_list s g hgs, hx]⟩))
        clear hx
        go_wp2_with fail
        go_loopw [6] (fun i wr2 => ∃ t : Nat, i = .int .i64 t ∧ k ≤ t ∧ t ≤ s.size ∧ (∀ c ∈ (s.data.toList.drop k).take (t - k), nl c = true) ∧ Below w.heap.size w wr2) (fun i _ => s.size - (intOf i).toNat)
        case atStart => exact ⟨k, rfl, Nat.le_refl _, hk, by simp, HB.out⟩
        case round =>
          obtain ⟨t, rfl, hkt, hts, hall, hb2⟩ := hrel
          have HB2 := Aside0.mk hb2
          have HAL := Aside0.mk hall
          clear hb2 hall HB
          by_cases htn : t < s.size
          · by_cases hx : s[t]'htn = 10
            · have e0 : (((s[t]'htn).toNat : Int) == 10) = true := by rw [e10, decide_eq_true hx]
              have HTW := Aside0.mk (tw_at s.data.toList k t hkt HAL.out (.inr (by rw [get_list s t htn, hx])))
              clear hx
              have HLE := Aside0.mk (line_end s.data.toList (g + 1) k t hf hkt (by simp; omega) HA.out HTW.out)
              have hsl : ∀ wx, (Instr.slice 9 (.string s) (some (.int .i64 ((((g + 1) : Nat) : Nat) : Int))) (some (.int .i64 (t : Int))) none).run Tryd.prog wx = .ok (.string (s.extract (g + 1) t)) wx := fun wx => (run_slice_string (P := Tryd.prog) wx 9 s .i64 .i64 _ _ Tryd.underlying9 (by omega) (by omega) (by omega)).trans rfl
              push_cast at hsl
              go_wp2_with fail
              go_ret
              refine ⟨?_, HB2.out⟩
              show Ending.returned (.string _) = Ending.returned (.string _)
              rw [← HK.out]
              refine congrArg _ (congrArg _ (bytes_eq ?_))
              first
                | rw [extract_list, HLE.out]
                | (have e := HLE.out; rw [List.drop_zero, List.take_of_length_le (by simp)] at e; exact e)
            · have e0 : (((s[t]'htn).toNat : Int) == 10) = false := by rw [e10, decide_eq_false hx]
              have HN : Aside0 (∀ c ∈ (s.data.toList.drop k).take (t + 1 - k), nl c = true) := .mk (by
                have : t + 1 - k = (t - k) + 1 := by omega
                rw [this, List.take_add_one, List.getElem?_drop, show k + (t - k) = t by omega, get_list s t htn]
                intro c hc
                rw [List.mem_append] at hc
                rcases hc with hc | hc
                · exact HAL.out c hc
                · simp at hc; subst hc; exact nl_of hx)
              clear hx
              go_wp2_with fail
              exact ⟨⟨t + 1, by first | rfl | simp, by omega, by omega, HN.out, HB2.out⟩, by first | (simp [intOf]; done) | (simp [intOf]; omega)⟩
          · have htz : t = s.size := by omega
            subst htz
            have HTW := Aside0.mk (tw_at s.data.toList k s.size hkt HAL.out (.inl (by simp)))
            clear htn hts
            have HLE := Aside0.mk (line_end s.data.toList (g + 1) k s.size hf hkt (by simp; omega) HA.out HTW.out)
            have hsl : ∀ wx, (Instr.slice 9 (.string s) (some (.int .i64 ((((g + 1) : Nat) : Nat) : Int))) (some (.int .i64 (s.size : Int))) none).run Tryd.prog wx = .ok (.string (s.extract (g + 1) s.size)) wx := fun wx => (run_slice_string (P := Tryd.prog) wx 9 s .i64 .i64 _ _ Tryd.underlying9 (by omega) (by omega) (by omega)).trans rfl
            push_cast at hsl
            go_wp2_with fail
            go_ret
            refine ⟨?_, HB2.out⟩
            show Ending.returned (.string _) = Ending.returned (.string _)
            rw [← HK.out]
            refine congrArg _ (congrArg _ (bytes_eq ?_))
            first
              | rw [extract_list, HLE.out]
              | (have e := HLE.out; rw [List.drop_zero, List.take_of_length_le (by simp)] at e; exact e)
      · have e0 : (((s[g]'hgs).toNat : Int) == 10) = false := by rw [e10, decide_eq_false hx]
        have HN : Aside0 (∀ c ∈ (s.data.toList.take k).drop g, nl c = true) := .mk (by
          have hgl : g < (s.data.toList.take k).length := by simp; omega
          rw [List.drop_eq_getElem_cons hgl]
          intro c hc
          rw [List.mem_cons] at hc
          rcases hc with hc | hc
          · have : (s.data.toList.take k)[g]? = some (s[g]'hgs) := by rw [List.getElem?_take_of_lt (by omega), get_list s g hgs]
            rw [List.getElem?_eq_getElem hgl] at this
            rw [hc, Option.some.inj this]; exact nl_of hx
          · exact HAL.out c hc)
        clear hx
        go_wp2_with fail
        exact ⟨⟨g, by first | rfl | simp, by omega, HN.out, HB.out⟩, by first | (simp [intOf]; done) | (simp [intOf]; omega)⟩
end Go.Proofs.YtamfknhgjkmdfaaDoor.X
