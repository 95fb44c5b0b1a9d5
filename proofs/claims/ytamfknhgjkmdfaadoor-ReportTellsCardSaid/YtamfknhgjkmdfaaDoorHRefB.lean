/- The document's Where, place, Out by their contracts. -/
import Derived.Test.YtamfknhgjkmdfaaDoorHRefA
import Derived.Test.YtamfknhgjkmdfaaDoorHOut
import Derived.Test.YtamfknhgjkmdfaaDoorPurePlaces
namespace Go.Proofs.YtamfknhgjkmdfaaDoor.X
open Go.RowKit Go.Proofs.YtamfknhgjkmdfaaDoorW.PrintWords Go.Proofs.YtamfknhgjkmdfaaDoorW.PrintLast Go.Proofs.YtamfknhgjkmdfaaDoorW.PrintMore
set_option linter.unusedVariables false
set_option linter.unusedSimpArgs false
theorem take_where (s : ByteArray) (j : Nat) (h : j < s.size) : whereP (s.data.toList.take (j + 1)) = stepW (whereP (s.data.toList.take j)) (s[j]'h) := by
  have hl : j < s.data.toList.length := by simpa using h
  rw [← whereP_snoc, List.take_add_one, List.getElem?_eq_getElem hl]; rfl
set_option maxRecDepth 100000 in
set_option maxHeartbeats 3200000 in
theorem rwhere_calls (s : ByteArray) (a : Int) (w : World) (hs : s.size ≤ 140737488355328) :
    Calls Tryd.prog 14 #[.string s, .int .i64 a] w fun e w' => e = .returned (.agg #[.int .i64 (whereP (s.data.toList.take (atN a s.size))).1, .int .i64 (whereP (s.data.toList.take (atN a s.size))).2]) ∧ Below w.heap.size w w' := by
  have K0 := Aside0.mk (blk_alloc (heap_alloc_new w (.cells #[.int .i64 0, .int .i64 0] 39)) (.cells #[.int .i64 1, .int .i64 1] 39))
  have K1 := Aside0.mk (rnew2 w (.cells #[.int .i64 0, .int .i64 0] 39) #[.int .i64 1, .int .i64 1] 39)
  have HB := Aside0.mk (rbelow2 w #[.int .i64 0, .int .i64 0] #[.int .i64 1, .int .i64 1] 39 39)
  go_enter Tryd.func14, Tryd.ntmps14
  go_wp2_with fail
  generalize ((w.alloc (.cells #[.int .i64 0, .int .i64 0] 39)).alloc (.cells #[.int .i64 1, .int .i64 1] 39)) = w1 at *
  rw [← atN_eq a s.size]
  have hk := atN_le a s.size
  obtain ⟨k, hkk⟩ : ∃ k, k = atN a s.size := ⟨_, rfl⟩
  rw [← hkk] at hk ⊢
  have HK := Aside0.mk hkk
  clear hkk
  go_loopw [6] (fun i wr => ∃ j : Nat, i = .int .i64 j ∧ j ≤ k ∧ wr.heap[w.heap.size]? = some (.cells #[.int .i64 0, .int .i64 0] 39 (0, 0)) ∧ wr.heap[w.heap.size + 1]? = some (.cells #[.int .i64 (whereP (s.data.toList.take j)).1, .int .i64 (whereP (s.data.toList.take j)).2] 39 (0, 0)) ∧ Below w.heap.size w wr) (fun i _ => k - (intOf i).toNat)
  case atStart => exact ⟨0, rfl, Nat.zero_le _, K0.out, K1.out, HB.out⟩
  case round =>
    obtain ⟨j, rfl, hj, k0, k1, hb⟩ := hrel
    clear HB K0 K1
    have HB := Aside0.mk hb
    have K0 := Aside0.mk k0
    have K1 := Aside0.mk k1
    clear hb k0 k1
    by_cases hlt : j < k
    · have hjs : j < s.size := by omega
      have HT := Aside0.mk (take_where s j hjs)
      have HL := whereP_le (s.data.toList.take j)
      have hl2 : (s.data.toList.take j).length ≤ j := by simp; omega
      generalize whereP (s.data.toList.take j) = p at *
      obtain ⟨l, c⟩ := p
      obtain ⟨c0, c1, z0, z1⟩ := cells2 K1.out
      simp only at HL c0 c1
      by_cases hx10 : s[j]'hjs = 10
      · have e0 : (((s[j]'hjs).toNat : Int) == 10) = true := by rw [hx10]; rfl
        have HS : Aside0 (whereP (s.data.toList.take (j + 1)) = (l + 1, 1)) := .mk (HT.out.trans (if_pos hx10))
        clear HT hx10
        go_wp2_with fail
        refine ⟨⟨j + 1, by first | rfl | simp, by omega, blk_putf (blk_putf (blk_putf K0.out (by show w.heap.size ≠ w.heap.size + 1; omega)) (by show w.heap.size ≠ w.heap.size + 1; omega)) (by show w.heap.size ≠ w.heap.size + 1; omega), ?_, ((HB.out.setCell (by show w.heap.size ≤ w.heap.size + 1; omega) _).setCell (by show w.heap.size ≤ w.heap.size + 1; omega) _).setCell (by show w.heap.size ≤ w.heap.size + 1; omega) _⟩, by first | (simp [intOf]; done) | (simp [intOf]; omega)⟩
        rw [HS.out]
        exact blk_put (blk_put (blk_put K1.out 1 _ rfl) 0 _ rfl) 1 _ (by simp)
      · have e0 : (((s[j]'hjs).toNat : Int) == 10) = false := by
          simp only [beq_eq_false_iff_ne, ne_eq]; intro h; exact hx10 (UInt8.toNat_inj.1 (show (s[j]'hjs).toNat = 10 by omega))
        have HS : Aside0 (whereP (s.data.toList.take (j + 1)) = (l, c + 1)) := .mk (HT.out.trans (if_neg hx10))
        clear HT hx10
        go_wp2_with fail
        refine ⟨⟨j + 1, by first | rfl | simp, by omega, blk_putf K0.out (by show w.heap.size ≠ w.heap.size + 1; omega), ?_, HB.out.setCell (by show w.heap.size ≤ w.heap.size + 1; omega) _⟩, by first | (simp [intOf]; done) | (simp [intOf]; omega)⟩
        rw [HS.out]
        exact blk_put K1.out 1 _ (by simp)
    · have HD := Aside0.mk (show j = k by omega)
      obtain ⟨c0, c1, z0, z1⟩ := cells2 K1.out
      obtain ⟨d0, d1, y0, y1⟩ := cells2 K0.out
      go_wp2_with fail
      rw [← HK.out, ← HD.out]
      refine bodyPost_ret (results_cell_row rfl _ _ w.heap.size 39 _ (0, 0) _ rfl (put_two K0.out _ _) Tryd.underlying39 rfl (by kernel_rfl)) rfl ?_
      exact ⟨by first | rfl | simp, (HB.out.setCell (Nat.le_refl _) _).setCell (Nat.le_refl _) _⟩
set_option maxRecDepth 100000 in
set_option maxHeartbeats 3200000 in
theorem rplace_calls (l c : Nat) (w : World) (hl : l ≤ 9223372036854775807) (hc : c ≤ 9223372036854775807) :
    Calls Tryd.prog 24 #[.agg #[.int .i64 (l : Int), .int .i64 (c : Int)]] w fun e w' => e = .returned (.string ⟨(Lib.itoa (l : Int) ++ 58 :: Lib.itoa (c : Int)).toArray⟩) ∧ Below w.heap.size w w' := by
  have HL0 := Aside0.mk (itoa_len (l : Int) (by omega) (by omega))
  have HL1 := Aside0.mk (itoa_len (c : Int) (by omega) (by omega))
  go_enter Tryd.func24, Tryd.ntmps24
  go_wp2_with fail
  have K1 := Aside0.mk (heap_alloc_new w (.cells #[.int .i64 (l : Int), .int .i64 (c : Int)] 39))
  have HB1 : Aside0 (Below w.heap.size w (w.alloc (.cells #[.int .i64 (l : Int), .int .i64 (c : Int)] 39))) := .mk ((Below.refl _ _).alloc (Nat.le_refl _) _)
  generalize w.alloc (.cells #[.int .i64 (l : Int), .int .i64 (c : Int)] 39) = w2 at *
  refine wp_region_held_drew (S := fun w' => w'.cell? ⟨w.heap.size, 0, none⟩ = some (.int .i64 (l : Int)) ∧ w'.cell? ⟨w.heap.size, 1, none⟩ = some (.int .i64 (c : Int))) (by kernel_rfl) ⟨bcl K1.out, bcl K1.out⟩ (fun hHeld => ?_)
  have hD := (Below.refl w2.heap.size w2).drew
  replace HB1 := Aside0.mk (below_then HB1.out HB1.out.size hD)
  clear hD
  generalize w2.drew = w3 at *
  refine tK 3 0 hHeld ?_
  refine tK 4 1 hHeld ?_
  refine tK 7 4 hHeld ?_
  refine tK 8 5 hHeld ?_
  refine cK 5 2 (number_calls (l : Int) w3 (by omega) (by omega)) ?_
  rintro e w4 ⟨rfl, hB⟩
  refine ⟨_, rfl, ⟨pwc hB hHeld.1, pwc hB hHeld.2⟩, fun hHeld => nA ?_⟩
  replace HB1 := Aside0.mk (below_then HB1.out HB1.out.size hB)
  clear hB
  have q0 : ¬ (9223372036854775807 < (Lib.itoa (l : Int)).length + 1) := by have := HL0.out; omega
  refine tK 6 3 hHeld ?_
  clear q0
  refine cK 9 6 (number_calls (c : Int) w4 (by omega) (by omega)) ?_
  rintro e w5 ⟨rfl, hB⟩
  refine ⟨_, rfl, ⟨pwc hB hHeld.1, pwc hB hHeld.2⟩, fun hHeld => nA ?_⟩
  replace HB1 := Aside0.mk (below_then HB1.out HB1.out.size hB)
  clear hB
  have q0 : ¬ (9223372036854775807 < (Lib.itoa (l : Int)).length + 1 + (Lib.itoa (c : Int)).length) := by have := HL0.out; have := HL1.out; omega
  refine tK 10 7 hHeld ?_
  clear q0
  refine tK 2 8 hHeld ?_
  refine wpAnyH_done (by kernel_rfl) ?_ _
  go_wp2_with fail
  go_ret
  refine ⟨?_, HB1.out⟩
  show Ending.returned (.string _) = _
  rw [show ((⟨#[58]⟩ : ByteArray)) = ⟨[58].toArray⟩ from rfl, bytes_app, bytes_app]
  simp
theorem steps_is (n : Int) : (⟨(Lib.itoa n).toArray⟩ : ByteArray) ++ ⟨#[32, 115, 116, 101, 112, 115]⟩ = ⟨(stepsB n).toArray⟩ := by
  unfold stepsB
  rw [joinB2, show ((⟨#[32, 115, 116, 101, 112, 115]⟩ : ByteArray)) = ⟨[32, 115, 116, 101, 112, 115].toArray⟩ from rfl, bytes_app]
set_option maxRecDepth 100000 in
set_option maxHeartbeats 3200000 in
theorem rout_calls (s value : ByteArray) (E steps tk label : Int) (b neg : Bool) (sl : Value) (w : World) (hs : s.size ≤ 4000000000) (hv : value.size ≤ 4000000000) (hE0 : -9223372036854775808 ≤ E) (hE1 : E ≤ 9223372036854775807) (hs0 : -9223372036854775808 ≤ steps) (hs1 : steps ≤ 9223372036854775807) (hl1 : label ≤ 9223372036854775807)
    (hE : Env w) (hsl : sl.cells = #[sl]) :
    Calls Tryd.prog 9 #[.string s, .agg #[.int .i64 E, .int .i64 steps, .string value, .bool b, .int .i8 tk, sl, .int .i64 label, .bool neg]] w fun e w' => e = .returned (.string ⟨(outB s.data.toList s.size E steps value.data.toList label neg).toArray⟩) ∧ Below w.heap.size w w' := by
  have hB0 : Below w.heap.size w (w.alloc (.cells #[.int .i64 E, .int .i64 steps, .string value, .bool b, .int .i8 tk, sl, .int .i64 label, .bool neg] 33)) := (Below.refl _ _).alloc (Nat.le_refl _) _
  have HB := Aside0.mk hB0
  have K0 := Aside0.mk (heap_alloc_new w (.cells #[.int .i64 E, .int .i64 steps, .string value, .bool b, .int .i8 tk, sl, .int .i64 label, .bool neg] 33))
  have hE' := hE.below hB0
  have HST := Aside0.mk (steps_is steps)
  have hL0 := itoa_len steps hs0 hs1
  have hSl := steps_len steps hs0 hs1
  clear hB0
  go_enter Tryd.func9, Tryd.ntmps9
  go_wp2_with fail
  generalize w.alloc (.cells #[.int .i64 E, .int .i64 steps, .string value, .bool b, .int .i8 tk, sl, .int .i64 label, .bool neg] 33) = w1 at *
  refine (number_calls steps w1 hs0 hs1).mono ?_
  rintro en w2 ⟨rfl, hB⟩
  replace K0 := Aside0.mk (blk_below K0.out hB)
  replace HB := Aside0.mk (below_then HB.out HB.out.size hB)
  replace hE' := hE'.below hB
  clear hB
  have q0 : ¬ (9223372036854775807 < (Lib.itoa steps).length + 6) := by omega
  have hst := HST.out
  have c0 : w2.cell? ⟨w.heap.size, 0, none⟩ = some (.int .i64 E) := bcl K0.out
  have c2 : w2.cell? ⟨w.heap.size, 2, none⟩ = some (.string value) := bcl K0.out
  have c6 : w2.cell? ⟨w.heap.size, 6, none⟩ = some (.int .i64 label) := bcl K0.out
  have c7 : w2.cell? ⟨w.heap.size, 7, none⟩ = some (.bool neg) := bcl K0.out
  have q1 : ¬ (9223372036854775807 < 6 + value.size) := by omega
  have q2 : ¬ (9223372036854775807 < 6 + value.size + 4) := by omega
  have q3 : ¬ (9223372036854775807 < 6 + value.size + 4 + (stepsB steps).length) := by omega
  have q4 : ¬ (9223372036854775807 < 14 + (stepsB steps).length) := by omega
  have q5 : ¬ (9223372036854775807 < 19 + (stepsB steps).length) := by omega
  go_wp2_with fail
  · go_ret
    refine ⟨?_, HB.out⟩
    show Ending.returned (.string _) = Ending.returned (.string _)
    refine congrArg _ (congrArg _ (bytes_eq ?_))
    unfold outB
    simp only [*, if_true, if_false, Bool.false_eq_true]
    rw [joinB4]
    simp [ByteArray.data_append]
  · go_ret
    refine ⟨?_, HB.out⟩
    show Ending.returned (.string _) = Ending.returned (.string _)
    refine congrArg _ (congrArg _ (bytes_eq ?_))
    unfold outB
    simp only [*, if_true, if_false, Bool.false_eq_true]
    rw [joinB2]
    simp [ByteArray.data_append]
  · go_ret
    refine ⟨?_, HB.out⟩
    show Ending.returned (.string _) = Ending.returned (.string _)
    refine congrArg _ (congrArg _ (bytes_eq ?_))
    unfold outB
    simp only [*, if_true, if_false, Bool.false_eq_true]
    rw [joinB2]
    simp [ByteArray.data_append]
  · refine (rwhere_calls s (max label 1 - 1) w2 (by omega)).mono ?_
    rintro en w3 ⟨rfl, hB⟩
    clear c0 c2 c6 c7
    replace K0 := Aside0.mk (blk_below K0.out hB)
    replace HB := Aside0.mk (below_then HB.out HB.out.size hB)
    replace hE' := hE'.below hB
    clear hB
    have hp := whereP_le (s.data.toList.take (atN (max label 1 - 1) s.size))
    have hpl : (s.data.toList.take (atN (max label 1 - 1) s.size)).length ≤ s.size := by simp; omega
    have HP := place_len s.data.toList (atN (max label 1 - 1) s.size) (by simp; omega)
    have hP : Aside0 (placeB s.data.toList (atN (max label 1 - 1) s.size) = Lib.itoa ((whereP (s.data.toList.take (atN (max label 1 - 1) s.size))).1 : Int) ++ 58 :: Lib.itoa ((whereP (s.data.toList.take (atN (max label 1 - 1) s.size))).2 : Int)) := .mk rfl
    go_wp2_with fail
    refine (rplace_calls _ _ w3 (by omega) (by omega)).mono ?_
    rintro en w4 ⟨rfl, hB⟩
    replace K0 := Aside0.mk (blk_below K0.out hB)
    replace HB := Aside0.mk (below_then HB.out HB.out.size hB)
    replace hE' := hE'.below hB
    clear hB
    rw [← hP.out]
    clear hp hpl hP
    obtain ⟨pb, hpb⟩ : ∃ pb, pb = placeB s.data.toList (atN (max label 1 - 1) s.size) := ⟨_, rfl⟩
    rw [← hpb] at HP ⊢
    have HPB := Aside0.mk hpb
    clear hpb
    have q6 : ¬ (9223372036854775807 < 9 + pb.length) := by omega
    have q7 : ¬ (9223372036854775807 < 9 + pb.length + 1) := by omega
    have q8 : ¬ (9223372036854775807 < 9 + pb.length + 1 + 12) := by omega
    have q9 : ¬ (9223372036854775807 < 9 + pb.length + 1 + 12 + 7) := by omega
    have qa : ¬ (9223372036854775807 < 9 + pb.length + 1 + 12 + 7 + (stepsB steps).length) := by omega
    go_wp2_with fail
    go_ret
    refine ⟨?_, HB.out⟩
    show Ending.returned (.string _) = Ending.returned (.string _)
    refine congrArg _ (congrArg _ (bytes_eq ?_))
    unfold outB
    simp only [*, if_true, if_false, Bool.false_eq_true, ← HPB.out]
    rw [joinB5]
    simp [ByteArray.data_append, sideB]
  · refine (rwhere_calls s (max label 1 - 1) w2 (by omega)).mono ?_
    rintro en w3 ⟨rfl, hB⟩
    clear c0 c2 c6 c7
    replace K0 := Aside0.mk (blk_below K0.out hB)
    replace HB := Aside0.mk (below_then HB.out HB.out.size hB)
    replace hE' := hE'.below hB
    clear hB
    have hp := whereP_le (s.data.toList.take (atN (max label 1 - 1) s.size))
    have hpl : (s.data.toList.take (atN (max label 1 - 1) s.size)).length ≤ s.size := by simp; omega
    have HP := place_len s.data.toList (atN (max label 1 - 1) s.size) (by simp; omega)
    have hP : Aside0 (placeB s.data.toList (atN (max label 1 - 1) s.size) = Lib.itoa ((whereP (s.data.toList.take (atN (max label 1 - 1) s.size))).1 : Int) ++ 58 :: Lib.itoa ((whereP (s.data.toList.take (atN (max label 1 - 1) s.size))).2 : Int)) := .mk rfl
    go_wp2_with fail
    refine (rplace_calls _ _ w3 (by omega) (by omega)).mono ?_
    rintro en w4 ⟨rfl, hB⟩
    replace K0 := Aside0.mk (blk_below K0.out hB)
    replace HB := Aside0.mk (below_then HB.out HB.out.size hB)
    replace hE' := hE'.below hB
    clear hB
    rw [← hP.out]
    clear hp hpl hP
    obtain ⟨pb, hpb⟩ : ∃ pb, pb = placeB s.data.toList (atN (max label 1 - 1) s.size) := ⟨_, rfl⟩
    rw [← hpb] at HP ⊢
    have HPB := Aside0.mk hpb
    clear hpb
    have q6 : ¬ (9223372036854775807 < 9 + pb.length) := by omega
    have q7 : ¬ (9223372036854775807 < 9 + pb.length + 1) := by omega
    have q8 : ¬ (9223372036854775807 < 9 + pb.length + 1 + 11) := by omega
    have q9 : ¬ (9223372036854775807 < 9 + pb.length + 1 + 11 + 7) := by omega
    have qa : ¬ (9223372036854775807 < 9 + pb.length + 1 + 11 + 7 + (stepsB steps).length) := by omega
    go_wp2_with fail
    go_ret
    refine ⟨?_, HB.out⟩
    show Ending.returned (.string _) = Ending.returned (.string _)
    refine congrArg _ (congrArg _ (bytes_eq ?_))
    unfold outB
    simp only [*, if_true, if_false, Bool.false_eq_true, ← HPB.out]
    rw [joinB5]
    simp [ByteArray.data_append, sideB]
  · refine (rwords_calls E w2 hE0 hE1 hE').mono ?_
    rintro en w3 ⟨rfl, hB⟩
    clear c0 c2 c6 c7
    replace K0 := Aside0.mk (blk_below K0.out hB)
    replace HB := Aside0.mk (below_then HB.out HB.out.size hB)
    replace hE' := hE'.below hB
    clear hB
    go_wp2_with fail
    go_ret
    refine ⟨?_, HB.out⟩
    unfold outB
    simp only [*, if_true, if_false, Bool.false_eq_true]
    rfl
end Go.Proofs.YtamfknhgjkmdfaaDoor.X
