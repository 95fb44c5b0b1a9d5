/- The walk of the law ReportTells: it returns true. -/
import Derived.Test.YtamfknhgjkmdfaaDoorHMade
import Derived.Test.YtamfknhgjkmdfaaDoorHWakes
namespace Go.Proofs.YtamfknhgjkmdfaaDoor.X
open Go.RowKit Go.Proofs.YtamfknhgjkmdfaaDoorW.PrintWords Go.Proofs.YtamfknhgjkmdfaaDoorW.PrintLast Go.Proofs.YtamfknhgjkmdfaaDoorW.PrintMore
set_option linter.unusedVariables false
set_option linter.unusedSimpArgs false
set_option maxRecDepth 100000 in
set_option maxHeartbeats 3200000 in
theorem reporttells_walk (s : ByteArray) (kind code at_ : Int) (word text : ByteArray) (E steps : Int) (value : ByteArray) (b : Bool) (tk : Int) (sl : Value) (label : Int) (neg : Bool) (w : World)
    (hz : s.size ≤ 140737488351232 ∧ word.size ≤ 140737488351232 ∧ text.size ≤ 140737488351232 ∧ value.size ≤ 140737488351232)
    (hr : (-9223372036854775808 ≤ code ∧ code ≤ 9223372036854775807) ∧ (-9223372036854775808 ≤ E ∧ E ≤ 9223372036854775807) ∧ (-9223372036854775808 ≤ steps ∧ steps ≤ 9223372036854775807) ∧ label ≤ 9223372036854775807) (hsl : sl.cells = #[sl]) (hE : Env w) :
    Calls Tryd.prog 5 #[.string s, .agg #[.int .i64 kind, .int .i64 code, .int .i64 at_, .string word, .string text], .agg #[.int .i64 E, .int .i64 steps, .string value, .bool b, .int .i8 tk, sl, .int .i64 label, .bool neg]] w fun e w' => e = .returned (.bool true) ∧ Below w.heap.size w w' := by
  obtain ⟨hz1, hz2, hz3, hz4⟩ := hz
  obtain ⟨⟨hc0, hc1⟩, ⟨hE0, hE1⟩, ⟨hs0, hs1⟩, hl1⟩ := hr
  have hB0 := rbelow2 w #[.int .i64 kind, .int .i64 code, .int .i64 at_, .string word, .string text] #[.int .i64 E, .int .i64 steps, .string value, .bool b, .int .i8 tk, sl, .int .i64 label, .bool neg] 45 33
  have KE := Aside0.mk (blk_alloc (heap_alloc_new w (.cells #[.int .i64 kind, .int .i64 code, .int .i64 at_, .string word, .string text] 45)) (.cells #[.int .i64 E, .int .i64 steps, .string value, .bool b, .int .i8 tk, sl, .int .i64 label, .bool neg] 33))
  have KO := Aside0.mk (rnew2 w (.cells #[.int .i64 kind, .int .i64 code, .int .i64 at_, .string word, .string text] 45) #[.int .i64 E, .int .i64 steps, .string value, .bool b, .int .i8 tk, sl, .int .i64 label, .bool neg] 33)
  have HB := Aside0.mk hB0
  have HE := Aside0.mk (hE.below hB0)
  clear hB0 hE
  by_cases h1 : (65536 : Int) < s.size
  · go_enter Tryd.func5, Tryd.ntmps5
    go_wp2_with fail
    refine (wakes_calls _ HE.out).mono ?_
    rintro e w' ⟨rfl, hB⟩
    go_wp2_with fail
    go_ret
    exact ⟨rfl, below_then HB.out HB.out.size hB⟩
  by_cases h2 : (65536 : Int) < (text.size : Int) + (word.size : Int) + (value.size : Int)
  · go_enter Tryd.func5, Tryd.ntmps5
    go_wp2_with fail
    refine (wakes_calls _ HE.out).mono ?_
    rintro e w' ⟨rfl, hB⟩
    go_wp2_with fail
    go_ret
    exact ⟨rfl, below_then HB.out HB.out.size hB⟩
  go_enter Tryd.func5, Tryd.ntmps5
  go_wp2_with fail
  generalize ((w.alloc (.cells #[.int .i64 kind, .int .i64 code, .int .i64 at_, .string word, .string text] 45)).alloc (.cells #[.int .i64 E, .int .i64 steps, .string value, .bool b, .int .i8 tk, sl, .int .i64 label, .bool neg] 33)) = wa at *
  refine (made_calls s word text kind code at_ wa (by omega) (by omega) hc0 hc1 HE.out).mono ?_
  rintro en w1 ⟨err, want, rfl, hB, hF⟩
  have HM := Aside0.mk hF
  replace KE := Aside0.mk (blk_below KE.out hB)
  replace KO := Aside0.mk (blk_below KO.out hB)
  replace HB := Aside0.mk (below_then HB.out HB.out.size hB)
  replace HE := Aside0.mk (HE.out.below hB)
  clear hB hF
  have e2 := (blk_cell KE.out 2).trans rfl
  simp at e2
  go_wp2_with fail
  clear e2 KE
  have HQ1 := Aside0.mk (fun W => where_calls s at_ W (by omega))
  have HQ2 := Aside0.mk (fun W => rwhere_calls s at_ W (by omega))
  have HQ3 := Aside0.mk (fun W hE => line_calls s at_ W (by omega) hE)
  have HQ4 := Aside0.mk (fun W => rline_calls s at_ W (by omega))
  have HQ5 := Aside0.mk (fun W (hEW : Env W) => out_calls s value E steps tk label b neg sl W (by omega) (by omega) hE0 hE1 hs0 hs1 hl1 hEW hsl)
  have HQ6 := Aside0.mk (fun W (hEW : Env W) => rout_calls s value E steps tk label b neg sl W (by omega) (by omega) hE0 hE1 hs0 hs1 hl1 hEW hsl)
  generalize whereP (s.data.toList.take (atN at_ s.size)) = p at *
  generalize lineB s.data.toList (atN at_ s.size) = L at *
  generalize outB s.data.toList s.size E steps value.data.toList label neg = ob at *
  refine wp_region_held_drew (S := fun w' => w'.heap[w.heap.size + 1]? = some (.cells #[.int .i64 E, .int .i64 steps, .string value, .bool b, .int .i8 tk, sl, .int .i64 label, .bool neg] 33 (0, 0))) (by kernel_rfl) KO.out (fun hHeld => ?_)
  have hD : Below w1.heap.size w1 w1.drew := (Below.refl _ _).drew
  have HD := Aside0.mk hD
  replace HB := Aside0.mk (below_then HB.out HB.out.size hD)
  replace HE := Aside0.mk (HE.out.below hD)
  clear hD KO
  generalize w1.drew = w2 at *
  refine tK 38 0 hHeld ?_
  refine tK 39 1 hHeld ?_
  refine tK 41 3 hHeld ?_
  refine tK 42 4 hHeld ?_
  refine cK 40 2 (HQ1.out w2) ?_
  rintro en w3 ⟨rfl, hB⟩
  refine ⟨_, rfl, blk_below hHeld hB, fun hHeld => nA ?_⟩
  replace HE := Aside0.mk (HE.out.below hB)
  replace HB := Aside0.mk (below_then HB.out HB.out.size hB)
  replace HD := Aside0.mk (below_then HD.out HD.out.size hB)
  clear hB
  refine cK 43 5 (HQ2.out w3) ?_
  rintro en w4 ⟨rfl, hB⟩
  refine ⟨_, rfl, blk_below hHeld hB, fun hHeld => nA ?_⟩
  replace HE := Aside0.mk (HE.out.below hB)
  replace HB := Aside0.mk (below_then HB.out HB.out.size hB)
  replace HD := Aside0.mk (below_then HD.out HD.out.size hB)
  clear hB
  refine tK (v := .bool true) 44 6 hHeld ?_
  refine tK 45 7 hHeld ?_
  refine tK 46 8 hHeld ?_
  refine tK 47 9 hHeld ?_
  refine tK 49 11 hHeld ?_
  refine tK 50 12 hHeld ?_
  refine cK 48 10 (HQ3.out w4 HE.out) ?_
  rintro en w5 ⟨rfl, hB⟩
  refine ⟨_, rfl, blk_below hHeld hB, fun hHeld => nA ?_⟩
  replace HE := Aside0.mk (HE.out.below hB)
  replace HB := Aside0.mk (below_then HB.out HB.out.size hB)
  replace HD := Aside0.mk (below_then HD.out HD.out.size hB)
  clear hB
  refine cK 51 13 (HQ4.out w5) ?_
  rintro en w6 ⟨rfl, hB⟩
  refine ⟨_, rfl, blk_below hHeld hB, fun hHeld => nA ?_⟩
  replace HE := Aside0.mk (HE.out.below hB)
  replace HB := Aside0.mk (below_then HB.out HB.out.size hB)
  replace HD := Aside0.mk (below_then HD.out HD.out.size hB)
  clear hB
  refine tK (v := .bool true) 52 14 hHeld ?_
  refine tK (v := .bool true) 53 15 hHeld ?_
  refine tK 54 16 hHeld ?_
  refine tK 55 17 hHeld ?_
  refine tK 56 18 hHeld ?_
  refine tK 58 20 hHeld ?_
  refine cK 57 19 (HM.out w6 HD.out) ?_
  rintro en w7 ⟨rfl, hB⟩
  refine ⟨_, rfl, blk_below hHeld hB, fun hHeld => nA ?_⟩
  replace HE := Aside0.mk (HE.out.below hB)
  replace HB := Aside0.mk (below_then HB.out HB.out.size hB)
  replace HD := Aside0.mk (below_then HD.out HD.out.size hB)
  clear hB
  refine tK (v := .bool true) 59 21 hHeld ?_
  refine tK (v := .bool true) 60 22 hHeld ?_
  refine tK 61 23 hHeld ?_
  refine tK 62 24 hHeld ?_
  refine tK (v := .agg #[.int .i64 E, .int .i64 steps, .string value, .bool b, .int .i8 tk, sl, .int .i64 label, .bool neg]) 63 25 hHeld ?_ (hy := fun w hS => by
    have c0 := (blk_cell hS 0).trans rfl
    have c1 := (blk_cell hS 1).trans rfl
    have c2 := (blk_cell hS 2).trans rfl
    have c3 := (blk_cell hS 3).trans rfl
    have c4 := (blk_cell hS 4).trans rfl
    have c5 := (blk_cell hS 5).trans rfl
    have c6 := (blk_cell hS 6).trans rfl
    have c7 := (blk_cell hS 7).trans rfl
    simp at c0 c1 c2 c3 c4 c5 c6 c7
    go_simp)
  refine tK 65 27 hHeld ?_
  refine tK (v := .agg #[.int .i64 E, .int .i64 steps, .string value, .bool b, .int .i8 tk, sl, .int .i64 label, .bool neg]) 66 28 hHeld ?_ (hy := fun w hS => by
    have c0 := (blk_cell hS 0).trans rfl
    have c1 := (blk_cell hS 1).trans rfl
    have c2 := (blk_cell hS 2).trans rfl
    have c3 := (blk_cell hS 3).trans rfl
    have c4 := (blk_cell hS 4).trans rfl
    have c5 := (blk_cell hS 5).trans rfl
    have c6 := (blk_cell hS 6).trans rfl
    have c7 := (blk_cell hS 7).trans rfl
    simp at c0 c1 c2 c3 c4 c5 c6 c7
    go_simp)
  refine cK 64 26 (HQ5.out w7 HE.out) ?_
  rintro en w8 ⟨rfl, hB⟩
  refine ⟨_, rfl, blk_below hHeld hB, fun hHeld => nA ?_⟩
  replace HE := Aside0.mk (HE.out.below hB)
  replace HB := Aside0.mk (below_then HB.out HB.out.size hB)
  replace HD := Aside0.mk (below_then HD.out HD.out.size hB)
  clear hB
  refine cK 67 29 (HQ6.out w8 HE.out) ?_
  rintro en w9 ⟨rfl, hB⟩
  refine ⟨_, rfl, blk_below hHeld hB, fun hHeld => nA ?_⟩
  replace HE := Aside0.mk (HE.out.below hB)
  replace HB := Aside0.mk (below_then HB.out HB.out.size hB)
  replace HD := Aside0.mk (below_then HD.out HD.out.size hB)
  clear hB
  refine tK (v := .bool true) 68 30 hHeld ?_
  refine tK (v := .bool true) 69 31 hHeld ?_
  refine tK 70 32 hHeld ?_
  refine cK 71 33 (wakes_calls w9 HE.out) ?_
  rintro en wf ⟨rfl, hB⟩
  refine ⟨_, rfl, blk_below hHeld hB, fun hHeld => nA ?_⟩
  replace HE := Aside0.mk (HE.out.below hB)
  replace HB := Aside0.mk (below_then HB.out HB.out.size hB)
  replace HD := Aside0.mk (below_then HD.out HD.out.size hB)
  clear hB
  refine tK (v := .bool true) 72 34 hHeld ?_
  refine tK 6 35 hHeld ?_
  refine wpAnyH_done (by kernel_rfl) ?_ _
  go_wp2_with fail
  go_ret
  exact ⟨rfl, HB.out⟩
end Go.Proofs.YtamfknhgjkmdfaaDoor.X
