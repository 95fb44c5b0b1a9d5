/- The contract of scan's method number. -/
import Derived.Test.YtjmpejbciniceaaDoorHSpan
import Derived.Lib.ConvBytes
namespace Go.Proofs.YtjmpejbciniceaaDoor.X
open Go.RowKit Go.Proofs.YtjmpejbciniceaaDoorW.PrintWords Go.Proofs.YtjmpejbciniceaaDoorW.PrintLast Go.Proofs.YtjmpejbciniceaaDoorW.PrintMore
set_option linter.unusedVariables false
set_option linter.unusedSimpArgs false

def bytesS (l : List UInt8) : ByteArray := ⟨l.toArray⟩
def WordPost (w0 : World) (g : Nat) (s : ByteArray) (a : Nat) (ws : List S37) (w : World) : SRes → Ending → World → Prop
  | .fault e t => FaultPost w e a (bytesS t)
  | .word k t n => PutPost w0 g s (a + t.length) (ws ++ [⟨k, bytesS t, (n : Int), a⟩])
def numS (t : ByteArray) (more : Bool) : SRes :=
  match numR t.data.toList 0 with
  | none => .fault 3 t.data.toList
  | some n => if (1 < t.data.toList.length ∧ t.data.toList.head? = some 48) ∨ more = true then .fault 10 t.data.toList else .word 2 t.data.toList n
theorem bytes_of (t : ByteArray) : bytesS t.data.toList = t := by
  simp [bytesS]
def bound63 : Int := 9223372036854775807
def numOver (n d : Int) : Bool := decide ((9223372036854775807 - d) / 10 < n)
theorem FaultPost.lift {w wr : World} {e a : Int} {s : ByteArray} {en : Ending} {w' : World} (hb : Below w.heap.size w wr) (h : FaultPost wr e a s en w') : FaultPost w e a s en w' := by
  obtain ⟨p, h1, h2, h3, h4⟩ := h
  exact ⟨p, h1, h2, Nat.le_trans hb.size h3, below_then hb hb.size h4⟩
set_option maxRecDepth 100000 in
set_option maxHeartbeats 1600000 in
theorem number_calls {w0 : World} {g : Nat} {s : ByteArray} {a : Nat} {v : Value} {ws : List S37} {w : World} (h : Rd w0 g s a v ws w) (t : ByteArray) (hd : ∀ c ∈ t.data.toList, digU c = true) (ht : 1 ≤ t.size) (hat : a + t.size ≤ s.size) (hs : s.size ≤ 65536) (hl : ws.length ≤ 100000) :
    Calls Tryd.prog 64 #[.pointer (some ⟨g, 0, none⟩), .string t] w (WordPost w0 g s a ws w (numS t (headLet (s.data.toList.drop (a + t.size))))) := by
  have HR := Aside0.mk h
  have HD := Aside0.mk hd
  have hcv := fun W : World => Lib.run_convert_string_bytes (P := Tryd.prog) W 9 111 5 t Tryd.underlying9 Tryd.underlying111 Tryd.underlying5
  clear h hd
  go_enter Tryd.func64, Tryd.ntmps64
  go_wp2_with fail
  have hcell : ∀ j, j < t.size → (Lib.bytesWorld w 5 t).cell? ⟨w.heap.size, j, none⟩ = some (.int .u8 ((t.data.toList.getD j 0).toNat : Int)) := fun j hj => Lib.bytesWorld_cell w 5 t j hj
  have hB3 : Below w.heap.size w (Lib.bytesWorld w 5 t) := ⟨rfl, rfl, rfl, by rw [Lib.bytesWorld_size]; omega, fun k hk => Lib.bytesWorld_at_old w 5 t k hk⟩
  have hs3 : w.heap.size < (Lib.bytesWorld w 5 t).heap.size := by rw [Lib.bytesWorld_size]; omega
  clear hcv
  generalize Lib.bytesWorld w 5 t = W3 at *
  have HC := Aside0.mk hcell
  have HB3 := Aside0.mk hB3
  have hl : t.data.toList.length = t.size := by simp
  have HL := Aside0.mk hl
  clear hcell hB3 hl
  go_loopw [5, 13] (fun n i wr => ∃ (j m : Nat), i = .int .i64 j ∧ n = .int .u64 m ∧ j ≤ t.size ∧ m ≤ 9223372036854775807 ∧ numR (t.data.toList.drop j) m = numR t.data.toList 0 ∧ Below W3.heap.size W3 wr) (fun _ i _ => t.size - (intOf i).toNat)
  case atStart => exact ⟨0, 0, rfl, rfl, Nat.zero_le _, Nat.zero_le _, rfl, Below.refl _ _⟩
  case round =>
    obtain ⟨j, m, rfl, rfl, hj, hm, hnum, hB⟩ := hrel
    have HB := Aside0.mk hB
    have HN := Aside0.mk hnum
    clear hB hnum
    by_cases hlt : j < t.size
    · have hx : wr.cell? ⟨w.heap.size, j, none⟩ = some (.int .u8 ((t.data.toList.getD j 0).toNat : Int)) := (HB.out.cell hs3).trans (HC.out j hlt)
      have hn : ((t.data.toList.getD j 0).toNat : Int) = ((t.data.toList[j]'(by rw [HL.out]; exact hlt)).toNat : Int) := by rw [List.getD_eq_getElem?_getD, List.getElem?_eq_getElem]; rfl
      have HT := Aside0.mk (show t.data.toList.drop j = t.data.toList[j]'(by rw [HL.out]; exact hlt) :: t.data.toList.drop (j + 1) from List.drop_eq_getElem_cons (by rw [HL.out]; exact hlt))
      have hdx := HD.out (t.data.toList[j]'(by rw [HL.out]; exact hlt)) (List.getElem_mem _)
      rw [hn] at hx
      generalize t.data.toList[j]'(by rw [HL.out]; exact hlt) = x at *
      have hb : 48 ≤ x.toNat ∧ x.toNat ≤ 57 := by
        unfold digU at hdx
        simp only [Bool.and_eq_true, decide_eq_true_eq, UInt8.le_iff_toNat_le] at hdx
        exact hdx
      obtain ⟨d, hxd, hd9⟩ : ∃ d : Nat, x.toNat = d + 48 ∧ d ≤ 9 := ⟨x.toNat - 48, by omega, by omega⟩
      have HN2 := Aside0.mk (show numR t.data.toList 0 = if (9223372036854775807 - d) / 10 < m then none else numR (t.data.toList.drop (j + 1)) (m * 10 + d) from by
        rw [← HN.out, HT.out, numR, hxd, Nat.add_sub_cancel])
      rw [hxd] at hx
      clear hn hdx hb HN HT hxd
      by_cases hov : (9223372036854775807 - d) / 10 < m
      · go_wp2_with fail
        refine (fault_calls (HR.out.after (below_then HB3.out HB3.out.size HB.out)) 3 t).mono ?_
        intro e w5 hp
        have HV := Aside0.mk (show numR t.data.toList 0 = none from by rw [HN2.out, if_pos hov])
        obtain ⟨p, rfl, hq⟩ := hp.lift (below_then HB3.out HB3.out.size HB.out)
        have HQ := Aside0.mk hq
        clear hp hq hx HN2 hov
        go_wp2_with fail
        go_ret
        unfold numS
        rw [HV.out]
        show FaultPost w 3 a (bytesS t.data.toList) _ _
        rw [bytes_of]
        exact ⟨p, rfl, HQ.out⟩
      · have HN3 := Aside0.mk (show numR (t.data.toList.drop (j + 1)) (m * 10 + d) = numR t.data.toList 0 from by rw [HN2.out, if_neg hov])
        have hov2 : m ≤ (9223372036854775807 - d) / 10 := by omega
        have hov3 : ¬ (9223372036854775807 - (d : Int)) / 10 < (m : Int) := by omega
        clear HN2 hov
        go_wp2_with fail
        go_roundw
        case rel => exact ⟨j + 1, m * 10 + d, by go_num, by go_num, by omega, by omega, HN3.out, HB.out⟩
        case measure => simp [intOf]; omega
    · obtain rfl : j = t.size := by omega
      have HV := Aside0.mk (show numR t.data.toList 0 = some m from by rw [← HN.out, List.drop_eq_nil_of_le (by rw [HL.out]; exact Nat.le_refl _)]; rfl)
      have HBW := Aside0.mk (below_then HB3.out HB3.out.size HB.out)
      replace HR := Aside0.mk (HR.out.after HBW.out)
      have h00 : 0 < t.size := by omega
      have hhd : t.data.toList.head? = some (t[0]'h00) := by
        have := drop_at t 0 h00
        rw [List.drop_zero] at this
        rw [this]
        rfl
      have HHD := Aside0.mk hhd
      have HLL := HL
      have e0 := (blk_cell HR.out.blk 0).trans rfl
      have e1 := (blk_cell HR.out.blk 1).trans rfl
      simp at e0 e1
      clear hhd HN HB hs3 HC HB3 hlt
      by_cases c1 : 1 < t.size ∧ t[0]'h00 = 48
      · obtain ⟨c2, c3⟩ := c1
        have d48 : ((((t[0]'h00).toNat : Nat) : Int) == 48) = true := by rw [c3]; rfl
        have HE : Aside0 (numS t (headLet (s.data.toList.drop (a + t.size))) = .fault 10 t.data.toList) := .mk (by
          unfold numS
          rw [HV.out]
          simp only
          rw [if_pos (.inl ⟨by rw [HLL.out]; exact c2, by rw [HHD.out, c3]⟩)])
        clear c3
        go_wp2_with fail
        clear e0 e1
        refine (fault_calls HR.out 10 t).mono ?_
        intro e w5 hp
        obtain ⟨p, rfl, hq⟩ := hp.lift HBW.out
        have HQ := Aside0.mk hq
        clear hp hq
        go_wp2_with fail
        go_ret
        rw [HE.out]
        show FaultPost w 10 a (bytesS t.data.toList) _ _
        rw [bytes_of]
        exact ⟨p, rfl, HQ.out⟩
      · have hz : ¬ (1 < t.data.toList.length ∧ t.data.toList.head? = some 48) := by
          rw [HLL.out, HHD.out]
          intro h
          exact c1 ⟨h.1, by have := h.2; simpa using this⟩
        have HZ := Aside0.mk hz
        have hd48 : ¬ 1 < t.size ∨ ((((t[0]'h00).toNat : Nat) : Int) == 48) = false := by
          by_cases c2 : 1 < t.size
          · right
            have : t[0]'h00 ≠ 48 := fun e => c1 ⟨c2, e⟩
            rw [beq_eq_false_iff_ne]
            intro e
            apply this
            rw [← UInt8.toNat_inj]
            show (t[0]'h00).toNat = 48
            omega
          · exact .inl c2
        clear c1 hz
        by_cases he : a + t.size < s.size
        · have HLT := Aside0.mk (show headLet (s.data.toList.drop (a + t.size)) = letU (s[a + t.size]'he) from by rw [drop_at s _ he]; rfl)
          rcases hd48 with c2 | d48
          · go_wp2_with fail
            clear e0 e1
            refine (letter_calls _ _).mono ?_
            rintro e w4 ⟨rfl, hB4⟩
            replace HR := Aside0.mk (HR.out.after hB4)
            replace HBW := Aside0.mk (below_then HBW.out HBW.out.size hB4)
            clear hB4
            have e0 := trivial
            have e1 := trivial
            cases hle : letU (s[a + t.size]'he) with
            | true =>
              rw [hle] at HLT
              have HE : Aside0 (numS t (headLet (s.data.toList.drop (a + t.size))) = .fault 10 t.data.toList) := .mk (by
                unfold numS
                rw [HV.out]
                simp only
                rw [if_pos (.inr HLT.out)])
              clear hle
              go_wp2_with fail
              clear e0 e1
              refine (fault_calls HR.out 10 t).mono ?_
              intro e w5 hp
              obtain ⟨p, rfl, hq⟩ := hp.lift HBW.out
              have HQ := Aside0.mk hq
              clear hp hq
              go_wp2_with fail
              go_ret
              rw [HE.out]
              show FaultPost w 10 a (bytesS t.data.toList) _ _
              rw [bytes_of]
              exact ⟨p, rfl, HQ.out⟩
            | false =>
              rw [hle] at HLT
              clear hle
              go_wp2_with fail
              clear e0 e1
              have HE : Aside0 (numS t (headLet (s.data.toList.drop (a + t.size))) = .word 2 t.data.toList m) := .mk (by
                unfold numS
                rw [HV.out]
                simp only
                rw [if_neg]
                intro h
                rcases h with h | h
                · exact HZ.out h
                · rw [HLT.out] at h; exact absurd h (by decide))
              refine (put_calls HR.out 2 t m hl (by omega) (by omega)).mono ?_
              rintro e w5 ⟨rfl, v5, hv⟩
              have HVV := Aside0.mk hv
              clear hv
              go_wp2_with fail
              go_ret
              rw [HE.out]
              show PutPost w0 g s (a + t.data.toList.length) (ws ++ [⟨2, bytesS t.data.toList, (m : Int), a⟩]) _ _
              rw [bytes_of, HLL.out]
              exact ⟨rfl, v5, HVV.out⟩
          · by_cases c2 : 1 < t.size
            · go_wp2_with fail
              clear e0 e1
              refine (letter_calls _ _).mono ?_
              rintro e w4 ⟨rfl, hB4⟩
              replace HR := Aside0.mk (HR.out.after hB4)
              replace HBW := Aside0.mk (below_then HBW.out HBW.out.size hB4)
              clear hB4
              have e0 := trivial
              have e1 := trivial
              cases hle : letU (s[a + t.size]'he) with
              | true =>
                rw [hle] at HLT
                have HE : Aside0 (numS t (headLet (s.data.toList.drop (a + t.size))) = .fault 10 t.data.toList) := .mk (by
                  unfold numS
                  rw [HV.out]
                  simp only
                  rw [if_pos (.inr HLT.out)])
                clear hle
                go_wp2_with fail
                clear e0 e1
                refine (fault_calls HR.out 10 t).mono ?_
                intro e w5 hp
                obtain ⟨p, rfl, hq⟩ := hp.lift HBW.out
                have HQ := Aside0.mk hq
                clear hp hq
                go_wp2_with fail
                go_ret
                rw [HE.out]
                show FaultPost w 10 a (bytesS t.data.toList) _ _
                rw [bytes_of]
                exact ⟨p, rfl, HQ.out⟩
              | false =>
                rw [hle] at HLT
                clear hle
                go_wp2_with fail
                clear e0 e1
                have HE : Aside0 (numS t (headLet (s.data.toList.drop (a + t.size))) = .word 2 t.data.toList m) := .mk (by
                  unfold numS
                  rw [HV.out]
                  simp only
                  rw [if_neg]
                  intro h
                  rcases h with h | h
                  · exact HZ.out h
                  · rw [HLT.out] at h; exact absurd h (by decide))
                refine (put_calls HR.out 2 t m hl (by omega) (by omega)).mono ?_
                rintro e w5 ⟨rfl, v5, hv⟩
                have HVV := Aside0.mk hv
                clear hv
                go_wp2_with fail
                go_ret
                rw [HE.out]
                show PutPost w0 g s (a + t.data.toList.length) (ws ++ [⟨2, bytesS t.data.toList, (m : Int), a⟩]) _ _
                rw [bytes_of, HLL.out]
                exact ⟨rfl, v5, HVV.out⟩
            · clear d48
              go_wp2_with fail
              clear e0 e1
              refine (letter_calls _ _).mono ?_
              rintro e w4 ⟨rfl, hB4⟩
              replace HR := Aside0.mk (HR.out.after hB4)
              replace HBW := Aside0.mk (below_then HBW.out HBW.out.size hB4)
              clear hB4
              have e0 := trivial
              have e1 := trivial
              cases hle : letU (s[a + t.size]'he) with
              | true =>
                rw [hle] at HLT
                have HE : Aside0 (numS t (headLet (s.data.toList.drop (a + t.size))) = .fault 10 t.data.toList) := .mk (by
                  unfold numS
                  rw [HV.out]
                  simp only
                  rw [if_pos (.inr HLT.out)])
                clear hle
                go_wp2_with fail
                clear e0 e1
                refine (fault_calls HR.out 10 t).mono ?_
                intro e w5 hp
                obtain ⟨p, rfl, hq⟩ := hp.lift HBW.out
                have HQ := Aside0.mk hq
                clear hp hq
                go_wp2_with fail
                go_ret
                rw [HE.out]
                show FaultPost w 10 a (bytesS t.data.toList) _ _
                rw [bytes_of]
                exact ⟨p, rfl, HQ.out⟩
              | false =>
                rw [hle] at HLT
                clear hle
                go_wp2_with fail
                clear e0 e1
                have HE : Aside0 (numS t (headLet (s.data.toList.drop (a + t.size))) = .word 2 t.data.toList m) := .mk (by
                  unfold numS
                  rw [HV.out]
                  simp only
                  rw [if_neg]
                  intro h
                  rcases h with h | h
                  · exact HZ.out h
                  · rw [HLT.out] at h; exact absurd h (by decide))
                refine (put_calls HR.out 2 t m hl (by omega) (by omega)).mono ?_
                rintro e w5 ⟨rfl, v5, hv⟩
                have HVV := Aside0.mk hv
                clear hv
                go_wp2_with fail
                go_ret
                rw [HE.out]
                show PutPost w0 g s (a + t.data.toList.length) (ws ++ [⟨2, bytesS t.data.toList, (m : Int), a⟩]) _ _
                rw [bytes_of, HLL.out]
                exact ⟨rfl, v5, HVV.out⟩
        · have HLT := Aside0.mk (show headLet (s.data.toList.drop (a + t.size)) = false from by rw [List.drop_eq_nil_of_le (by simp; omega)]; rfl)
          rcases hd48 with c2 | d48
          · go_wp2_with fail
            clear e0 e1
            have HE : Aside0 (numS t (headLet (s.data.toList.drop (a + t.size))) = .word 2 t.data.toList m) := .mk (by
              unfold numS
              rw [HV.out]
              simp only
              rw [if_neg]
              intro h
              rcases h with h | h
              · exact HZ.out h
              · rw [HLT.out] at h; exact absurd h (by decide))
            refine (put_calls HR.out 2 t m hl (by omega) (by omega)).mono ?_
            rintro e w5 ⟨rfl, v5, hv⟩
            have HVV := Aside0.mk hv
            clear hv
            go_wp2_with fail
            go_ret
            rw [HE.out]
            show PutPost w0 g s (a + t.data.toList.length) (ws ++ [⟨2, bytesS t.data.toList, (m : Int), a⟩]) _ _
            rw [bytes_of, HLL.out]
            exact ⟨rfl, v5, HVV.out⟩
          · by_cases c2 : 1 < t.size
            · go_wp2_with fail
              clear e0 e1
              have HE : Aside0 (numS t (headLet (s.data.toList.drop (a + t.size))) = .word 2 t.data.toList m) := .mk (by
                unfold numS
                rw [HV.out]
                simp only
                rw [if_neg]
                intro h
                rcases h with h | h
                · exact HZ.out h
                · rw [HLT.out] at h; exact absurd h (by decide))
              refine (put_calls HR.out 2 t m hl (by omega) (by omega)).mono ?_
              rintro e w5 ⟨rfl, v5, hv⟩
              have HVV := Aside0.mk hv
              clear hv
              go_wp2_with fail
              go_ret
              rw [HE.out]
              show PutPost w0 g s (a + t.data.toList.length) (ws ++ [⟨2, bytesS t.data.toList, (m : Int), a⟩]) _ _
              rw [bytes_of, HLL.out]
              exact ⟨rfl, v5, HVV.out⟩
            · clear d48
              go_wp2_with fail
              clear e0 e1
              have HE : Aside0 (numS t (headLet (s.data.toList.drop (a + t.size))) = .word 2 t.data.toList m) := .mk (by
                unfold numS
                rw [HV.out]
                simp only
                rw [if_neg]
                intro h
                rcases h with h | h
                · exact HZ.out h
                · rw [HLT.out] at h; exact absurd h (by decide))
              refine (put_calls HR.out 2 t m hl (by omega) (by omega)).mono ?_
              rintro e w5 ⟨rfl, v5, hv⟩
              have HVV := Aside0.mk hv
              clear hv
              go_wp2_with fail
              go_ret
              rw [HE.out]
              show PutPost w0 g s (a + t.data.toList.length) (ws ++ [⟨2, bytesS t.data.toList, (m : Int), a⟩]) _ _
              rw [bytes_of, HLL.out]
              exact ⟨rfl, v5, HVV.out⟩
end Go.Proofs.YtjmpejbciniceaaDoor.X
