/- report.Out by its contract. -/
import Derived.Test.YtamfknhgjkmdfaaDoorHFault
namespace Go.Proofs.YtamfknhgjkmdfaaDoor.X
open Go.RowKit Go.Proofs.YtamfknhgjkmdfaaDoorW.PrintWords Go.Proofs.YtamfknhgjkmdfaaDoorW.PrintLast Go.Proofs.YtamfknhgjkmdfaaDoorW.PrintMore
set_option linter.unusedVariables false
set_option linter.unusedSimpArgs false
theorem below4 (w : World) (o1 o2 o3 o4 : Obj) : Below w.heap.size w ((((w.alloc o1).alloc o2).alloc o3).alloc o4) :=
  ((((Below.refl _ _).alloc (Nat.le_refl _) o1).alloc (by simp) o2).alloc (by simp; omega) o3).alloc (by simp; omega) o4
/-- errors.As at a fault itself. -/
theorem as_ptr (q : Nat) (w : World) (hE : HasErr w) : AsTo (.iface 34 (.pointer (some ⟨q, 0, none⟩))) (.pointer (some ⟨q, 0, none⟩)) w := by
  intro t old h1 h2
  refine (err_as ⟨q, 0, none⟩ t old w hE h1 h2).mono ?_
  rintro ev w' ⟨rfl, rfl⟩
  exact ⟨rfl, _, below4 .., rfl⟩
theorem itoa_one (i : Nat) (h : i < 10) : Lib.itoa (i : Int) = [UInt8.ofNat (48 + i)] := by
  unfold Lib.itoa
  rw [if_neg (by omega), Int.toNat_natCast, Lib.decDigits_one h]
theorem place_wake : placeB [97, 98, 10, 99] 3 = [50, 58, 49] := by
  unfold placeB
  rw [show whereP (List.take 3 [97, 98, 10, 99]) = (2, 1) by decide]
  simp only
  rw [itoa_one 2 (by decide), itoa_one 1 (by decide)]
  rfl
theorem place_wake2 : placeB [102, 40, 120, 41] 1 = [49, 58, 50] := by
  unfold placeB
  rw [show whereP (List.take 1 [102, 40, 120, 41]) = (1, 2) by decide]
  simp only
  rw [itoa_one 2 (by decide), itoa_one 1 (by decide)]
  rfl
theorem fault_wake (q : Nat) (w : World) (hE : Env w) (hq : w.heap[q]? = some (.cells #[.int .i64 41, .int .i64 3, .string ⟨#[99]⟩] 36 (0, 0))) :
    Calls Tryd.prog 6 #[.string ⟨#[97, 98, 10, 99]⟩, .iface 34 (.pointer (some ⟨q, 0, none⟩))] w fun e w' => e = .returned (.string ⟨#[50, 58, 49, 58, 32, 97, 110, 32, 117, 110, 107, 110, 111, 119, 110, 32, 110, 97, 109, 101, 32, 34, 99, 34]⟩) ∧ Below w.heap.size w w' := by
  refine (fault_at ⟨#[97, 98, 10, 99]⟩ ⟨#[99]⟩ 34 _ q 41 3 w (by decide) (by decide) (by decide) (by decide) hE (fun w' hb => as_ptr q w' (hE.below hb).err) hq).mono ?_
  rintro e w' ⟨rfl, hb⟩
  refine ⟨?_, hb⟩
  have : faultB [97, 98, 10, 99] 41 (atN 3 4) [99] = [50, 58, 49, 58, 32, 97, 110, 32, 117, 110, 107, 110, 111, 119, 110, 32, 110, 97, 109, 101, 32, 34, 99, 34] := by
    unfold faultB
    rw [if_neg (by decide), show atN 3 4 = 3 by decide, place_wake, joinB3]
    decide +kernel
  show Ending.returned (.string ⟨(faultB [97, 98, 10, 99] 41 (atN 3 4) [99]).toArray⟩) = _
  rw [this]
def stepsB (n : Int) : List UInt8 := joinB [Lib.itoa n, [115, 116, 101, 112, 115]]
def sideB (neg : Bool) : List UInt8 := if neg then [102, 114, 111, 109, 32, 119, 105, 116, 104, 111, 117, 116] else [102, 114, 111, 109, 32, 119, 105, 116, 104, 105, 110]
/-- An outcome as it is told. -/
def outB (l : List UInt8) (n : Nat) (E steps : Int) (value : List UInt8) (label : Int) (neg : Bool) : List UInt8 :=
  if E == 0 then joinB [[118, 97, 108, 117, 101], value, [105, 110], stepsB steps] else
  if E == 181 then joinB [[110, 111, 32, 102, 117, 101, 108, 32, 97, 102, 116, 101, 114], stepsB steps] else
  if E == 182 then joinB [[100, 105, 118, 105, 100, 101, 100, 32, 98, 121, 32, 48, 32, 97, 102, 116, 101, 114], stepsB steps] else
  if E == 183 then joinB [[98, 108, 97, 109, 101, 32, 111, 102], placeB l (atN (max label 1 - 1) n), sideB neg, [97, 102, 116, 101, 114], stepsB steps] else
  wordsB E
theorem joinB4 (a b c d : List UInt8) : joinB [a, b, c, d] = a ++ 32 :: (b ++ 32 :: (c ++ 32 :: d)) := by simp [joinB, Lib.join, List.intercalate]
theorem joinB5 (a b c d e : List UInt8) : joinB [a, b, c, d, e] = a ++ 32 :: (b ++ 32 :: (c ++ 32 :: (d ++ 32 :: e))) := by simp [joinB, Lib.join, List.intercalate]
theorem steps_len (n : Int) (h0 : -9223372036854775808 ≤ n) (h1 : n ≤ 9223372036854775807) : (stepsB n).length ≤ 26 := by
  have := itoa_len n h0 h1
  unfold stepsB
  rw [joinB2]
  simp only [List.length_append, List.length_cons, List.length_nil]
  omega
set_option maxRecDepth 100000 in
set_option maxHeartbeats 3200000 in
theorem out_calls (s value : ByteArray) (E steps tk label : Int) (b neg : Bool) (sl : Value) (w : World) (hs : s.size ≤ 4000000000) (hv : value.size ≤ 4000000000) (hE0 : -9223372036854775808 ≤ E) (hE1 : E ≤ 9223372036854775807) (hs0 : -9223372036854775808 ≤ steps) (hs1 : steps ≤ 9223372036854775807) (hl1 : label ≤ 9223372036854775807)
    (hE : Env w) (hsl : sl.cells = #[sl]) :
    Calls Tryd.prog 8 #[.string s, .agg #[.int .i64 E, .int .i64 steps, .string value, .bool b, .int .i8 tk, sl, .int .i64 label, .bool neg]] w fun e w' => e = .returned (.string ⟨(outB s.data.toList s.size E steps value.data.toList label neg).toArray⟩) ∧ Below w.heap.size w w' := by
  have hB0 : Below w.heap.size w (w.alloc (.cells #[.int .i64 E, .int .i64 steps, .string value, .bool b, .int .i8 tk, sl, .int .i64 label, .bool neg] 33)) := (Below.refl _ _).alloc (Nat.le_refl _) _
  have HB := Aside0.mk hB0
  have K0 := Aside0.mk (heap_alloc_new w (.cells #[.int .i64 E, .int .i64 steps, .string value, .bool b, .int .i8 tk, sl, .int .i64 label, .bool neg] 33))
  have hE' := hE.below hB0
  clear hB0
  go_enter Tryd.func8, Tryd.ntmps8
  go_wp2_with fail
  generalize w.alloc (.cells #[.int .i64 E, .int .i64 steps, .string value, .bool b, .int .i8 tk, sl, .int .i64 label, .bool neg] 33) = w1 at *
  have HL := itoa_len steps hs0 hs1
  have HS := steps_len steps hs0 hs1
  have HV : value.data.toList.length = value.size := by simp
  refine (itoa_calls steps w1 hs0 hs1 hE').mono ?_
  rintro en w2 ⟨rfl, hB⟩
  replace K0 := Aside0.mk (blk_below K0.out hB)
  replace HB := Aside0.mk (below_then HB.out HB.out.size hB)
  replace hE' := hE'.below hB
  clear hB
  go_wp2_with fail
  have hB : Below w2.heap.size w2 (w2.alloc (.cells (([⟨(Lib.itoa steps).toArray⟩, ⟨#[115, 116, 101, 112, 115]⟩] : List ByteArray).map Value.string).toArray 9)) := (Below.refl _ _).alloc (Nat.le_refl _) _
  have hS := strs_new (xs := [⟨(Lib.itoa steps).toArray⟩, ⟨#[115, 116, 101, 112, 115]⟩]) (heap_alloc_new w2 (.cells (([⟨(Lib.itoa steps).toArray⟩, ⟨#[115, 116, 101, 112, 115]⟩] : List ByteArray).map Value.string).toArray 9)) rfl
  replace K0 := Aside0.mk (blk_below K0.out hB)
  replace HB := Aside0.mk (below_then HB.out HB.out.size hB)
  replace hE' := hE'.below hB
  clear hB
  refine (joined_calls w2.heap.size 2 [⟨(Lib.itoa steps).toArray⟩, ⟨#[115, 116, 101, 112, 115]⟩] 2 _ hS rfl (Nat.le_refl _) (by simp only [List.length_cons, List.length_nil]; omega) (by
    simp only [List.map_cons, List.map_nil]; rw [joinB2]; simp only [List.length_append, List.length_cons, List.length_nil]; omega)).mono ?_
  rintro en w3 ⟨rfl, hB⟩
  clear hS
  replace K0 := Aside0.mk (blk_below K0.out hB)
  replace HB := Aside0.mk (below_then HB.out HB.out.size hB)
  replace hE' := hE'.below hB
  clear hB
  have hj : joinB (List.map (fun x => x.data.toList) [(⟨(Lib.itoa steps).toArray⟩ : ByteArray), ⟨#[115, 116, 101, 112, 115]⟩]) = stepsB steps := rfl
  rw [hj]
  clear hj
  have c0 : w3.cell? ⟨w.heap.size, 0, none⟩ = some (.int .i64 E) := bcl K0.out
  have c2 : w3.cell? ⟨w.heap.size, 2, none⟩ = some (.string value) := bcl K0.out
  have c6 : w3.cell? ⟨w.heap.size, 6, none⟩ = some (.int .i64 label) := bcl K0.out
  have c7 : w3.cell? ⟨w.heap.size, 7, none⟩ = some (.bool neg) := bcl K0.out
  go_wp2_with fail
  · have hB : Below w3.heap.size w3 (w3.alloc (.cells (([⟨#[118, 97, 108, 117, 101]⟩, value, ⟨#[105, 110]⟩, ⟨(stepsB steps).toArray⟩] : List ByteArray).map Value.string).toArray 9)) := (Below.refl _ _).alloc (Nat.le_refl _) _
    have hS := strs_new (xs := [⟨#[118, 97, 108, 117, 101]⟩, value, ⟨#[105, 110]⟩, ⟨(stepsB steps).toArray⟩]) (heap_alloc_new w3 (.cells (([⟨#[118, 97, 108, 117, 101]⟩, value, ⟨#[105, 110]⟩, ⟨(stepsB steps).toArray⟩] : List ByteArray).map Value.string).toArray 9)) rfl
    replace K0 := Aside0.mk (blk_below K0.out hB)
    replace HB := Aside0.mk (below_then HB.out HB.out.size hB)
    replace hE' := hE'.below hB
    clear hB
    refine (joined_calls w3.heap.size 4 [⟨#[118, 97, 108, 117, 101]⟩, value, ⟨#[105, 110]⟩, ⟨(stepsB steps).toArray⟩] 4 _ hS rfl (Nat.le_refl _) (by simp only [List.length_cons, List.length_nil]; omega) (by
      simp only [List.map_cons, List.map_nil]; rw [joinB4]; simp only [List.length_append, List.length_cons, List.length_nil]; omega)).mono ?_
    rintro en w4 ⟨rfl, hB⟩
    clear hS
    replace K0 := Aside0.mk (blk_below K0.out hB)
    replace HB := Aside0.mk (below_then HB.out HB.out.size hB)
    replace hE' := hE'.below hB
    clear hB
    go_wp2_with fail
    go_ret
    refine ⟨?_, HB.out⟩
    unfold outB
    simp only [*, if_true, if_false, Bool.false_eq_true]
    rfl
  · have hB : Below w3.heap.size w3 (w3.alloc (.cells (([⟨#[110, 111, 32, 102, 117, 101, 108, 32, 97, 102, 116, 101, 114]⟩, ⟨(stepsB steps).toArray⟩] : List ByteArray).map Value.string).toArray 9)) := (Below.refl _ _).alloc (Nat.le_refl _) _
    have hS := strs_new (xs := [⟨#[110, 111, 32, 102, 117, 101, 108, 32, 97, 102, 116, 101, 114]⟩, ⟨(stepsB steps).toArray⟩]) (heap_alloc_new w3 (.cells (([⟨#[110, 111, 32, 102, 117, 101, 108, 32, 97, 102, 116, 101, 114]⟩, ⟨(stepsB steps).toArray⟩] : List ByteArray).map Value.string).toArray 9)) rfl
    replace K0 := Aside0.mk (blk_below K0.out hB)
    replace HB := Aside0.mk (below_then HB.out HB.out.size hB)
    replace hE' := hE'.below hB
    clear hB
    refine (joined_calls w3.heap.size 2 [⟨#[110, 111, 32, 102, 117, 101, 108, 32, 97, 102, 116, 101, 114]⟩, ⟨(stepsB steps).toArray⟩] 2 _ hS rfl (Nat.le_refl _) (by simp only [List.length_cons, List.length_nil]; omega) (by
      simp only [List.map_cons, List.map_nil]; rw [joinB2]; simp only [List.length_append, List.length_cons, List.length_nil]; omega)).mono ?_
    rintro en w4 ⟨rfl, hB⟩
    clear hS
    replace K0 := Aside0.mk (blk_below K0.out hB)
    replace HB := Aside0.mk (below_then HB.out HB.out.size hB)
    replace hE' := hE'.below hB
    clear hB
    go_wp2_with fail
    go_ret
    refine ⟨?_, HB.out⟩
    unfold outB
    simp only [*, if_true, if_false, Bool.false_eq_true]
    rfl
  · have hB : Below w3.heap.size w3 (w3.alloc (.cells (([⟨#[100, 105, 118, 105, 100, 101, 100, 32, 98, 121, 32, 48, 32, 97, 102, 116, 101, 114]⟩, ⟨(stepsB steps).toArray⟩] : List ByteArray).map Value.string).toArray 9)) := (Below.refl _ _).alloc (Nat.le_refl _) _
    have hS := strs_new (xs := [⟨#[100, 105, 118, 105, 100, 101, 100, 32, 98, 121, 32, 48, 32, 97, 102, 116, 101, 114]⟩, ⟨(stepsB steps).toArray⟩]) (heap_alloc_new w3 (.cells (([⟨#[100, 105, 118, 105, 100, 101, 100, 32, 98, 121, 32, 48, 32, 97, 102, 116, 101, 114]⟩, ⟨(stepsB steps).toArray⟩] : List ByteArray).map Value.string).toArray 9)) rfl
    replace K0 := Aside0.mk (blk_below K0.out hB)
    replace HB := Aside0.mk (below_then HB.out HB.out.size hB)
    replace hE' := hE'.below hB
    clear hB
    refine (joined_calls w3.heap.size 2 [⟨#[100, 105, 118, 105, 100, 101, 100, 32, 98, 121, 32, 48, 32, 97, 102, 116, 101, 114]⟩, ⟨(stepsB steps).toArray⟩] 2 _ hS rfl (Nat.le_refl _) (by simp only [List.length_cons, List.length_nil]; omega) (by
      simp only [List.map_cons, List.map_nil]; rw [joinB2]; simp only [List.length_append, List.length_cons, List.length_nil]; omega)).mono ?_
    rintro en w4 ⟨rfl, hB⟩
    clear hS
    replace K0 := Aside0.mk (blk_below K0.out hB)
    replace HB := Aside0.mk (below_then HB.out HB.out.size hB)
    replace hE' := hE'.below hB
    clear hB
    go_wp2_with fail
    go_ret
    refine ⟨?_, HB.out⟩
    unfold outB
    simp only [*, if_true, if_false, Bool.false_eq_true]
    rfl
  · refine (place_calls s (max label 1 - 1) w3 hs hE').mono ?_
    rintro en w4 ⟨rfl, hB⟩
    clear c0 c2 c6 c7
    replace K0 := Aside0.mk (blk_below K0.out hB)
    replace HB := Aside0.mk (below_then HB.out HB.out.size hB)
    replace hE' := hE'.below hB
    clear hB
    have HP := place_len s.data.toList (atN (max label 1 - 1) s.size) (by simp; omega)
    go_wp2_with fail
    have hB : Below w4.heap.size w4 (w4.alloc (.cells (([⟨#[98, 108, 97, 109, 101, 32, 111, 102]⟩, ⟨(placeB s.data.toList (atN (max label 1 - 1) s.size)).toArray⟩, ⟨#[102, 114, 111, 109, 32, 119, 105, 116, 104, 111, 117, 116]⟩, ⟨#[97, 102, 116, 101, 114]⟩, ⟨(stepsB steps).toArray⟩] : List ByteArray).map Value.string).toArray 9)) := (Below.refl _ _).alloc (Nat.le_refl _) _
    have hS := strs_new (xs := [⟨#[98, 108, 97, 109, 101, 32, 111, 102]⟩, ⟨(placeB s.data.toList (atN (max label 1 - 1) s.size)).toArray⟩, ⟨#[102, 114, 111, 109, 32, 119, 105, 116, 104, 111, 117, 116]⟩, ⟨#[97, 102, 116, 101, 114]⟩, ⟨(stepsB steps).toArray⟩]) (heap_alloc_new w4 (.cells (([⟨#[98, 108, 97, 109, 101, 32, 111, 102]⟩, ⟨(placeB s.data.toList (atN (max label 1 - 1) s.size)).toArray⟩, ⟨#[102, 114, 111, 109, 32, 119, 105, 116, 104, 111, 117, 116]⟩, ⟨#[97, 102, 116, 101, 114]⟩, ⟨(stepsB steps).toArray⟩] : List ByteArray).map Value.string).toArray 9)) rfl
    replace K0 := Aside0.mk (blk_below K0.out hB)
    replace HB := Aside0.mk (below_then HB.out HB.out.size hB)
    replace hE' := hE'.below hB
    clear hB
    refine (joined_calls w4.heap.size 5 [⟨#[98, 108, 97, 109, 101, 32, 111, 102]⟩, ⟨(placeB s.data.toList (atN (max label 1 - 1) s.size)).toArray⟩, ⟨#[102, 114, 111, 109, 32, 119, 105, 116, 104, 111, 117, 116]⟩, ⟨#[97, 102, 116, 101, 114]⟩, ⟨(stepsB steps).toArray⟩] 5 _ hS rfl (Nat.le_refl _) (by simp only [List.length_cons, List.length_nil]; omega) (by
      simp only [List.map_cons, List.map_nil]; rw [joinB5]; simp only [List.length_append, List.length_cons, List.length_nil]; omega)).mono ?_
    rintro en w5 ⟨rfl, hB⟩
    clear hS
    replace K0 := Aside0.mk (blk_below K0.out hB)
    replace HB := Aside0.mk (below_then HB.out HB.out.size hB)
    replace hE' := hE'.below hB
    clear hB
    go_wp2_with fail
    go_ret
    refine ⟨?_, HB.out⟩
    unfold outB
    simp only [*, if_true, if_false, Bool.false_eq_true]
    rfl
  · refine (place_calls s (max label 1 - 1) w3 hs hE').mono ?_
    rintro en w4 ⟨rfl, hB⟩
    clear c0 c2 c6 c7
    replace K0 := Aside0.mk (blk_below K0.out hB)
    replace HB := Aside0.mk (below_then HB.out HB.out.size hB)
    replace hE' := hE'.below hB
    clear hB
    have HP := place_len s.data.toList (atN (max label 1 - 1) s.size) (by simp; omega)
    go_wp2_with fail
    have hB : Below w4.heap.size w4 (w4.alloc (.cells (([⟨#[98, 108, 97, 109, 101, 32, 111, 102]⟩, ⟨(placeB s.data.toList (atN (max label 1 - 1) s.size)).toArray⟩, ⟨#[102, 114, 111, 109, 32, 119, 105, 116, 104, 105, 110]⟩, ⟨#[97, 102, 116, 101, 114]⟩, ⟨(stepsB steps).toArray⟩] : List ByteArray).map Value.string).toArray 9)) := (Below.refl _ _).alloc (Nat.le_refl _) _
    have hS := strs_new (xs := [⟨#[98, 108, 97, 109, 101, 32, 111, 102]⟩, ⟨(placeB s.data.toList (atN (max label 1 - 1) s.size)).toArray⟩, ⟨#[102, 114, 111, 109, 32, 119, 105, 116, 104, 105, 110]⟩, ⟨#[97, 102, 116, 101, 114]⟩, ⟨(stepsB steps).toArray⟩]) (heap_alloc_new w4 (.cells (([⟨#[98, 108, 97, 109, 101, 32, 111, 102]⟩, ⟨(placeB s.data.toList (atN (max label 1 - 1) s.size)).toArray⟩, ⟨#[102, 114, 111, 109, 32, 119, 105, 116, 104, 105, 110]⟩, ⟨#[97, 102, 116, 101, 114]⟩, ⟨(stepsB steps).toArray⟩] : List ByteArray).map Value.string).toArray 9)) rfl
    replace K0 := Aside0.mk (blk_below K0.out hB)
    replace HB := Aside0.mk (below_then HB.out HB.out.size hB)
    replace hE' := hE'.below hB
    clear hB
    refine (joined_calls w4.heap.size 5 [⟨#[98, 108, 97, 109, 101, 32, 111, 102]⟩, ⟨(placeB s.data.toList (atN (max label 1 - 1) s.size)).toArray⟩, ⟨#[102, 114, 111, 109, 32, 119, 105, 116, 104, 105, 110]⟩, ⟨#[97, 102, 116, 101, 114]⟩, ⟨(stepsB steps).toArray⟩] 5 _ hS rfl (Nat.le_refl _) (by simp only [List.length_cons, List.length_nil]; omega) (by
      simp only [List.map_cons, List.map_nil]; rw [joinB5]; simp only [List.length_append, List.length_cons, List.length_nil]; omega)).mono ?_
    rintro en w5 ⟨rfl, hB⟩
    clear hS
    replace K0 := Aside0.mk (blk_below K0.out hB)
    replace HB := Aside0.mk (below_then HB.out HB.out.size hB)
    replace hE' := hE'.below hB
    clear hB
    go_wp2_with fail
    go_ret
    refine ⟨?_, HB.out⟩
    unfold outB
    simp only [*, if_true, if_false, Bool.false_eq_true]
    rfl
  · refine (words_calls E w3 hE0 hE1 hE').mono ?_
    rintro en w4 ⟨rfl, hB⟩
    clear c0 c2 c6 c7
    replace K0 := Aside0.mk (blk_below K0.out hB)
    replace HB := Aside0.mk (below_then HB.out HB.out.size hB)
    replace hE' := hE'.below hB
    clear hB
    go_wp2_with fail
    go_ret
    refine ⟨?_, HB.out⟩
    unfold outB
    simp only [*, if_true, if_false, Bool.false_eq_true]
    rfl
theorem out_wake (w : World) (hE : Env w) :
    Calls Tryd.prog 8 #[.string ⟨#[102, 40, 120, 41]⟩, .agg #[.int .i64 183, .int .i64 4, .string ⟨#[]⟩, .bool false, .int .i8 0, .slice none 0 0, .int .i64 2, .bool true]] w fun e w' => e = .returned (.string ⟨#[98, 108, 97, 109, 101, 32, 111, 102, 32, 49, 58, 50, 32, 102, 114, 111, 109, 32, 119, 105, 116, 104, 111, 117, 116, 32, 97, 102, 116, 101, 114, 32, 52, 32, 115, 116, 101, 112, 115]⟩) ∧ Below w.heap.size w w' := by
  refine (out_calls ⟨#[102, 40, 120, 41]⟩ ⟨#[]⟩ 183 4 0 2 false true (.slice none 0 0) w (by decide) (by decide) (by decide) (by decide) (by decide) (by decide) (by decide) hE rfl).mono ?_
  rintro e w' ⟨rfl, hb⟩
  refine ⟨?_, hb⟩
  have : outB [102, 40, 120, 41] 4 183 4 [] 2 true = [98, 108, 97, 109, 101, 32, 111, 102, 32, 49, 58, 50, 32, 102, 114, 111, 109, 32, 119, 105, 116, 104, 111, 117, 116, 32, 97, 102, 116, 101, 114, 32, 52, 32, 115, 116, 101, 112, 115] := by
    unfold outB
    rw [if_neg (by decide), if_neg (by decide), if_neg (by decide), if_pos (by decide), show atN (max 2 1 - 1) 4 = 1 by decide, place_wake2, joinB5]
    unfold stepsB
    rw [joinB2, show ((4 : Int)) = ((4 : Nat) : Int) from rfl, itoa_one 4 (by decide)]
    decide +kernel
  show Ending.returned (.string ⟨(outB [102, 40, 120, 41] 4 183 4 [] 2 true).toArray⟩) = _
  rw [this]
end Go.Proofs.YtamfknhgjkmdfaaDoor.X
