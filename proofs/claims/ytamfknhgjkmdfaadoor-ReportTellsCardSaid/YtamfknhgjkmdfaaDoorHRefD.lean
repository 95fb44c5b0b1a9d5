/- The document's Quoted and Fault by their contracts. -/
import Derived.Test.YtamfknhgjkmdfaaDoorHRefC
import Derived.Test.YtamfknhgjkmdfaaDoorHQuoted
import Derived.Test.YtamfknhgjkmdfaaDoorPurePlaces
namespace Go.Proofs.YtamfknhgjkmdfaaDoor.X
open Go.RowKit Go.Proofs.YtamfknhgjkmdfaaDoorW.PrintWords Go.Proofs.YtamfknhgjkmdfaaDoorW.PrintLast Go.Proofs.YtamfknhgjkmdfaaDoorW.PrintMore
set_option linter.unusedVariables false
set_option linter.unusedSimpArgs false
theorem quote_take (s : ByteArray) (j : Nat) (h : j < s.size) : 34 :: (s.data.toList.take (j + 1)).flatMap quoteB = (34 :: (s.data.toList.take j).flatMap quoteB) ++ quoteB (s[j]'h) := by
  have hl : j < s.data.toList.length := by simpa using h
  rw [List.take_add_one, List.getElem?_eq_getElem hl, List.flatMap_append]; simp; rfl
theorem hexs (k : Nat) (h : k < 16) : (⟨#[48, 49, 50, 51, 52, 53, 54, 55, 56, 57, 97, 98, 99, 100, 101, 102]⟩ : ByteArray).extract k (k + 1) = ⟨[hexB k].toArray⟩ := by
  have hk : k = 0 ∨ k = 1 ∨ k = 2 ∨ k = 3 ∨ k = 4 ∨ k = 5 ∨ k = 6 ∨ k = 7 ∨ k = 8 ∨ k = 9 ∨ k = 10 ∨ k = 11 ∨ k = 12 ∨ k = 13 ∨ k = 14 ∨ k = 15 := by omega
  rcases hk with rfl | rfl | rfl | rfl | rfl | rfl | rfl | rfl | rfl | rfl | rfl | rfl | rfl | rfl | rfl | rfl <;> decide
theorem wrap_u8s (k : Nat) (h : k < 16) : IntKind.u8.wrap ((k : Int) + 1) = (k : Int) + 1 := by
  have hk : k = 0 ∨ k = 1 ∨ k = 2 ∨ k = 3 ∨ k = 4 ∨ k = 5 ∨ k = 6 ∨ k = 7 ∨ k = 8 ∨ k = 9 ∨ k = 10 ∨ k = 11 ∨ k = 12 ∨ k = 13 ∨ k = 14 ∨ k = 15 := by omega
  rcases hk with rfl | rfl | rfl | rfl | rfl | rfl | rfl | rfl | rfl | rfl | rfl | rfl | rfl | rfl | rfl | rfl <;> rfl
theorem hex_slice (k : Nat) (h : k < 16) (w : World) : (Instr.slice 9 (.string ⟨#[48, 49, 50, 51, 52, 53, 54, 55, 56, 57, 97, 98, 99, 100, 101, 102]⟩) (some (.int .u8 (k : Int))) (some (.int .u8 ((k : Int) + 1))) none).run Tryd.prog w = .ok (.string ⟨[hexB k].toArray⟩) w := by
  refine (run_slice_string (P := Tryd.prog) w 9 _ .u8 .u8 (k : Int) ((k : Int) + 1) Tryd.underlying9 (by omega) (by omega) (by show (k : Int) + 1 ≤ 16; omega)).trans ?_
  rw [show ((k : Int) + 1).toNat = k + 1 by omega, Int.toNat_natCast, hexs k h]
set_option maxRecDepth 100000 in
set_option maxHeartbeats 3200000 in
theorem rquoted_calls (s : ByteArray) (w : World) (hs : s.size ≤ 4000000000) :
    Calls Tryd.prog 39 #[.string s] w fun e w' => e = .returned (.string ⟨(quotedB s.data.toList).toArray⟩) ∧ Below w.heap.size w w' := by
  go_enter Tryd.func39, Tryd.ntmps39
  go_wp2_with fail
  go_loopw [3, 4] (fun o i wr => ∃ (j : Nat) (ob : ByteArray), i = .int .i64 j ∧ o = .string ob ∧ j ≤ s.size ∧ ob.data.toList = 34 :: (s.data.toList.take j).flatMap quoteB ∧ Below w.heap.size w wr) (fun _ i _ => s.size - (intOf i).toNat)
  case atStart => exact ⟨0, ⟨#[34]⟩, rfl, rfl, Nat.zero_le _, rfl, Below.refl _ _⟩
  case round =>
    obtain ⟨j, ob, rfl, rfl, hj, ho, hb⟩ := hrel
    have hol : ob.size ≤ 1 + 4 * j := by
      have h1 := quote_len (s.data.toList.take j) j (by simp; omega)
      have h2 := congrArg List.length ho
      simp only [List.length_append, List.length_cons, List.length_nil] at h1 h2
      rw [Array.length_toList] at h2
      have h3 : ob.data.size = ob.size := rfl
      omega
    have HO := Aside0.mk ho
    have HB := Aside0.mk hb
    clear ho hb
    by_cases hlt : j < s.size
    · have HT := Aside0.mk (quote_take s j hlt)
      have HA := Aside0.mk (app_one ob s j hlt)
      have HA2 := Aside0.mk (app_one (ob ++ ⟨#[92]⟩) s j hlt)
      obtain ⟨x, hx⟩ : ∃ x, s[j]'hlt = x := ⟨_, rfl⟩
      rw [hx] at HT HA HA2
      have hwj : IntKind.i64.wrap ((j : Int) + 1) = (j : Int) + 1 := by rw [IntKind.wrap_i64]; omega
      have hsl : ∀ wx, (Instr.slice 9 (.string s) (some (.int .i64 (j : Int))) (some (.int .i64 ((j : Int) + 1))) none).run Tryd.prog wx = .ok (.string (s.extract j (j + 1))) wx := fun wx => (run_slice_string (P := Tryd.prog) wx 9 s .i64 .i64 (j : Int) ((j : Int) + 1) Tryd.underlying9 (by omega) (by omega) (by omega)).trans rfl
      have q0 : ¬ (9223372036854775807 < ob.size + 1) := by omega
      have q1 : ¬ (9223372036854775807 < ob.size + 1 + (min (j + 1) s.size - j)) := by omega
      have q2 : ¬ (9223372036854775807 < ob.size + (min (j + 1) s.size - j)) := by omega
      have q3 : ¬ (9223372036854775807 < ob.size + 2) := by omega
      have q4 : ¬ (9223372036854775807 < ob.size + 2 + 1) := by omega
      have q5 : ¬ (9223372036854775807 < ob.size + 2 + 1 + 1) := by omega
      by_cases h34 : x = 34 ∨ x = 92
      · have hq : Aside0 (quoteB x = [92, x]) := .mk (if_pos h34)
        have e0 : ((x.toNat : Int) == 34) = true ∨ (((x.toNat : Int) == 34) = false ∧ ((x.toNat : Int) == 92) = true) := by
          rcases h34 with rfl | rfl
          · exact .inl rfl
          · exact .inr ⟨rfl, rfl⟩
        clear h34
        rcases e0 with e0 | ⟨e0, e1⟩
        · go_wp2_with fail
          refine ⟨⟨j + 1, (ob ++ ⟨#[92]⟩ ++ s.extract j (j + 1)), by first | rfl | simp, rfl, by omega, ?_, HB.out⟩, by first | (simp [intOf]; done) | (simp [intOf]; omega)⟩
          rw [HT.out, hq.out, ← HO.out]
          rw [HA2.out]; simp [ByteArray.data_append]
        · go_wp2_with fail
          refine ⟨⟨j + 1, (ob ++ ⟨#[92]⟩ ++ s.extract j (j + 1)), by first | rfl | simp, rfl, by omega, ?_, HB.out⟩, by first | (simp [intOf]; done) | (simp [intOf]; omega)⟩
          rw [HT.out, hq.out, ← HO.out]
          rw [HA2.out]; simp [ByteArray.data_append]
      · have e0 : ((x.toNat : Int) == 34) = false := by
          simp only [beq_eq_false_iff_ne, ne_eq]; intro h; exact h34 (.inl (UInt8.toNat_inj.1 (show x.toNat = 34 by omega)))
        have e1 : ((x.toNat : Int) == 92) = false := by
          simp only [beq_eq_false_iff_ne, ne_eq]; intro h; exact h34 (.inr (UInt8.toNat_inj.1 (show x.toNat = 92 by omega)))
        by_cases hh : x.toNat < 32 ∨ 126 < x.toNat
        · have hq : Aside0 (quoteB x = [92, 120, hexB (x.toNat / 16), hexB (x.toNat % 16)]) := .mk ((if_neg h34).trans (if_pos hh))
          have e2 : ¬ ((32 : Int) ≤ (x.toNat : Int)) ∨ (((32 : Int) ≤ (x.toNat : Int)) ∧ ¬ ((x.toNat : Int) ≤ 126)) := by omega
          clear h34 hh
          rcases e2 with e2 | ⟨e2, e3⟩
          · go_wp2_with fail
            have hp16 := Aside0.mk (show x.toNat / 16 < 16 by have := x.toNat_lt; omega)
            have hq16 := Aside0.mk (show x.toNat % 16 < 16 by omega)
            have hd : Aside0 (((x.toNat : Int) / 16) = ((x.toNat / 16 : Nat) : Int)) := .mk (by omega)
            refine wp_region_held_drew (S := fun w' => True) (by kernel_rfl) trivial (fun hHeld => ?_)
            have hD : Below wr.heap.size wr wr.drew := (Below.refl _ _).drew
            replace HB := Aside0.mk (below_then HB.out HB.out.size hD)
            clear hD
            generalize wr.drew = wd at *
            refine tK 15 0 hHeld ?_
            refine tK 16 1 hHeld ?_
            refine tK 17 2 hHeld ?_
            refine tK 18 3 hHeld ?_
            refine tK 19 4 hHeld ?_
            refine tK 20 5 hHeld ?_
            refine tK 24 9 hHeld ?_
            refine tK 25 10 hHeld ?_
            refine tK 26 11 hHeld ?_
            refine tK 27 12 hHeld ?_
            rw [low_four, hd.out]
            generalize x.toNat / 16 = p at *
            generalize x.toNat % 16 = q at *
            have hp0 := hp16.out
            have hq0 := hq16.out
            have hwp := wrap_u8s p hp0
            have hwq := wrap_u8s q hq0
            refine tK (v := .int .u8 ((p : Int) + 1)) 21 6 hHeld ?_
            refine tK (v := .int .u8 ((q : Int) + 1)) 28 13 hHeld ?_
            refine tK (v := .string ⟨[hexB p].toArray⟩) 22 7 hHeld ?_ (hy := fun w hS => by go_simp; rw [hex_slice p hp0]; rfl)
            refine tK (v := .string ⟨[hexB q].toArray⟩) 29 14 hHeld ?_ (hy := fun w hS => by go_simp; rw [hex_slice q hq0]; rfl)
            refine tK 23 8 hHeld ?_
            refine tK 30 15 hHeld ?_
            refine tK 3 16 hHeld ?_
            refine wpAnyH_done (by kernel_rfl) ?_ _
            go_wp2_with fail
            refine ⟨⟨j + 1, (ob ++ ⟨#[92, 120]⟩ ++ ⟨[hexB p].toArray⟩ ++ ⟨[hexB q].toArray⟩), by first | rfl | simp, rfl, by omega, ?_, HB.out⟩, by first | (simp [intOf]; done) | (simp [intOf]; omega)⟩
            rw [HT.out, hq.out, ← HO.out]
            simp [ByteArray.data_append]
          · go_wp2_with fail
            have hp16 := Aside0.mk (show x.toNat / 16 < 16 by have := x.toNat_lt; omega)
            have hq16 := Aside0.mk (show x.toNat % 16 < 16 by omega)
            have hd : Aside0 (((x.toNat : Int) / 16) = ((x.toNat / 16 : Nat) : Int)) := .mk (by omega)
            refine wp_region_held_drew (S := fun w' => True) (by kernel_rfl) trivial (fun hHeld => ?_)
            have hD : Below wr.heap.size wr wr.drew := (Below.refl _ _).drew
            replace HB := Aside0.mk (below_then HB.out HB.out.size hD)
            clear hD
            generalize wr.drew = wd at *
            refine tK 15 0 hHeld ?_
            refine tK 16 1 hHeld ?_
            refine tK 17 2 hHeld ?_
            refine tK 18 3 hHeld ?_
            refine tK 19 4 hHeld ?_
            refine tK 20 5 hHeld ?_
            refine tK 24 9 hHeld ?_
            refine tK 25 10 hHeld ?_
            refine tK 26 11 hHeld ?_
            refine tK 27 12 hHeld ?_
            rw [low_four, hd.out]
            generalize x.toNat / 16 = p at *
            generalize x.toNat % 16 = q at *
            have hp0 := hp16.out
            have hq0 := hq16.out
            have hwp := wrap_u8s p hp0
            have hwq := wrap_u8s q hq0
            refine tK (v := .int .u8 ((p : Int) + 1)) 21 6 hHeld ?_
            refine tK (v := .int .u8 ((q : Int) + 1)) 28 13 hHeld ?_
            refine tK (v := .string ⟨[hexB p].toArray⟩) 22 7 hHeld ?_ (hy := fun w hS => by go_simp; rw [hex_slice p hp0]; rfl)
            refine tK (v := .string ⟨[hexB q].toArray⟩) 29 14 hHeld ?_ (hy := fun w hS => by go_simp; rw [hex_slice q hq0]; rfl)
            refine tK 23 8 hHeld ?_
            refine tK 30 15 hHeld ?_
            refine tK 3 16 hHeld ?_
            refine wpAnyH_done (by kernel_rfl) ?_ _
            go_wp2_with fail
            refine ⟨⟨j + 1, (ob ++ ⟨#[92, 120]⟩ ++ ⟨[hexB p].toArray⟩ ++ ⟨[hexB q].toArray⟩), by first | rfl | simp, rfl, by omega, ?_, HB.out⟩, by first | (simp [intOf]; done) | (simp [intOf]; omega)⟩
            rw [HT.out, hq.out, ← HO.out]
            simp [ByteArray.data_append]
        · have hq : Aside0 (quoteB x = [x]) := .mk ((if_neg h34).trans (if_neg hh))
          have e2 : ((32 : Int) ≤ (x.toNat : Int)) := by omega
          have e3 : ((x.toNat : Int) ≤ 126) := by omega
          clear h34 hh
          go_wp2_with fail
          refine ⟨⟨j + 1, (ob ++ s.extract j (j + 1)), by first | rfl | simp, rfl, by omega, ?_, HB.out⟩, by first | (simp [intOf]; done) | (simp [intOf]; omega)⟩
          rw [HT.out, hq.out, ← HO.out]
          rw [HA.out]
    · have HQ : Aside0 (quotedB s.data.toList = (34 :: (s.data.toList.take j).flatMap quoteB) ++ [34]) := .mk (by unfold quotedB; rw [List.take_of_length_le (by simp; omega)]; rfl)
      have q0 : ¬ (9223372036854775807 < ob.size + 1) := by omega
      go_wp2_with fail
      go_ret
      refine ⟨?_, HB.out⟩
      show Ending.returned (.string _) = Ending.returned (.string _)
      refine congrArg _ (congrArg _ (bytes_eq ?_))
      rw [HQ.out, ← HO.out]
      simp [ByteArray.data_append]
set_option maxRecDepth 100000 in
set_option maxHeartbeats 3200000 in
theorem rfault_calls (s word : ByteArray) (code at_ : Int) (w : World) (hs : s.size ≤ 4000000000) (hwd : word.size ≤ 4000000000) (h0 : -9223372036854775808 ≤ code) (h1 : code ≤ 9223372036854775807) (hE : Env w) :
    Calls Tryd.prog 27 #[.string s, .int .i64 code, .int .i64 at_, .string word] w fun en w' => en = .returned (.string ⟨(faultB s.data.toList code (atN at_ s.size) word.data.toList).toArray⟩) ∧ Below w.heap.size w w' := by
  have HL2 := words_len code h0 h1
  have HL3 := quoted_len word.data.toList
  have HL4 : word.data.toList.length = word.size := by simp
  have hp := whereP_le (s.data.toList.take (atN at_ s.size))
  have hpl : (s.data.toList.take (atN at_ s.size)).length ≤ s.size := by simp; omega
  have HL1 := place_len s.data.toList (atN at_ s.size) (by simp; omega)
  have hP : Aside0 (placeB s.data.toList (atN at_ s.size) = Lib.itoa ((whereP (s.data.toList.take (atN at_ s.size))).1 : Int) ++ 58 :: Lib.itoa ((whereP (s.data.toList.take (atN at_ s.size))).2 : Int)) := .mk rfl
  go_enter Tryd.func27, Tryd.ntmps27
  go_wp2_with fail
  refine (rwhere_calls s at_ w (by omega)).mono ?_
  rintro en w1 ⟨rfl, hB1⟩
  have HE1 := Aside0.mk (hE.below hB1)
  have HB1 := Aside0.mk hB1
  clear hB1 hE
  go_wp2_with fail
  refine (rplace_calls _ _ w1 (by omega) (by omega)).mono ?_
  rintro en w2 ⟨rfl, hB2⟩
  replace HE1 := Aside0.mk (HE1.out.below hB2)
  replace HB1 := Aside0.mk (below_then HB1.out HB1.out.size hB2)
  rw [← hP.out]
  clear hB2 hp hpl hP
  have hF : Aside0 (faultB s.data.toList code (atN at_ s.size) word.data.toList = if word.data.toList = [] then placeB s.data.toList (atN at_ s.size) ++ ([58, 32] ++ wordsB code) else placeB s.data.toList (atN at_ s.size) ++ ([58, 32] ++ (wordsB code ++ (32 :: quotedB word.data.toList)))) := .mk (by
    unfold faultB; split
    · rw [joinB2]; simp
    · rw [joinB3]; simp)
  generalize placeB s.data.toList (atN at_ s.size) = pb at *
  have q0 : ¬ (9223372036854775807 < pb.length + 2) := by omega
  have q1 : ¬ (9223372036854775807 < pb.length + 2 + (wordsB code).length) := by omega
  have q2 : ¬ (9223372036854775807 < pb.length + 2 + (wordsB code).length + 1) := by omega
  have q3 : ¬ (9223372036854775807 < pb.length + 2 + (wordsB code).length + 1 + (quotedB word.data.toList).length) := by omega
  go_wp2_with fail
  refine (rwords_calls code w2 h0 h1 HE1.out).mono ?_
  rintro en w3 ⟨rfl, hB3⟩
  replace HB1 := Aside0.mk (below_then HB1.out HB1.out.size hB3)
  clear hB3 HE1
  go_wp2_with fail
  · have hwn : word.data.toList ≠ [] := by
      have hh0 : (!word.toList.isEmpty) = true := by assumption
      rw [ByteArray.toList_eq] at hh0
      intro hz
      rw [hz] at hh0
      exact absurd hh0 (by decide)
    have HF : Aside0 (faultB s.data.toList code (atN at_ s.size) word.data.toList = pb ++ ([58, 32] ++ (wordsB code ++ 32 :: quotedB word.data.toList))) := .mk (hF.out.trans (if_neg hwn))
    refine (rquoted_calls word w3 hwd).mono ?_
    rintro en w4 ⟨rfl, hB4⟩
    go_wp2_with fail
    go_ret
    refine ⟨?_, below_then HB1.out HB1.out.size hB4⟩
    show Ending.returned (.string _) = Ending.returned (.string _)
    refine congrArg _ (congrArg _ (bytes_eq ?_))
    rw [HF.out]
    simp [ByteArray.data_append]
  · have hwn : word.data.toList = [] := by
      have hh0 : (!word.toList.isEmpty) = false := by assumption
      rw [ByteArray.toList_eq] at hh0
      simpa using hh0
    have HF : Aside0 (faultB s.data.toList code (atN at_ s.size) word.data.toList = pb ++ ([58, 32] ++ wordsB code)) := .mk (hF.out.trans (if_pos hwn))
    go_ret
    refine ⟨?_, HB1.out⟩
    show Ending.returned (.string _) = Ending.returned (.string _)
    refine congrArg _ (congrArg _ (bytes_eq ?_))
    rw [HF.out]
    simp [ByteArray.data_append]
end Go.Proofs.YtamfknhgjkmdfaaDoor.X
