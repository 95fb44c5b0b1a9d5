/- The law's wakes: true. -/
import Derived.Test.YtamfknhgjkmdfaaDoorHOut
namespace Go.Proofs.YtamfknhgjkmdfaaDoor.X
open Go.RowKit Go.Proofs.YtamfknhgjkmdfaaDoorW.PrintWords Go.Proofs.YtamfknhgjkmdfaaDoorW.PrintLast Go.Proofs.YtamfknhgjkmdfaaDoorW.PrintMore
set_option linter.unusedVariables false
set_option linter.unusedSimpArgs false
theorem where_w2 (w : World) : Calls Tryd.prog 11 #[.string ⟨#[97, 98, 10, 99]⟩, .int .i64 2] w fun e w' => e = .returned (.agg #[.int .i64 1, .int .i64 3]) ∧ Below w.heap.size w w' :=
  (where_calls ⟨#[97, 98, 10, 99]⟩ 2 w (by decide)).mono fun e w' h => ⟨h.1.trans (by
    show Ending.returned (.agg #[.int .i64 ((whereP (List.take (atN 2 4) [97, 98, 10, 99])).1 : Int), .int .i64 ((whereP (List.take (atN 2 4) [97, 98, 10, 99])).2 : Int)]) = _
    rw [show whereP (List.take (atN 2 4) [97, 98, 10, 99]) = (1, 3) by decide]; rfl), h.2⟩
theorem where_w3 (w : World) : Calls Tryd.prog 11 #[.string ⟨#[97, 98, 10, 99]⟩, .int .i64 3] w fun e w' => e = .returned (.agg #[.int .i64 2, .int .i64 1]) ∧ Below w.heap.size w w' :=
  (where_calls ⟨#[97, 98, 10, 99]⟩ 3 w (by decide)).mono fun e w' h => ⟨h.1.trans (by
    show Ending.returned (.agg #[.int .i64 ((whereP (List.take (atN 3 4) [97, 98, 10, 99])).1 : Int), .int .i64 ((whereP (List.take (atN 3 4) [97, 98, 10, 99])).2 : Int)]) = _
    rw [show whereP (List.take (atN 3 4) [97, 98, 10, 99]) = (2, 1) by decide]; rfl), h.2⟩
theorem line_w2 (w : World) (hE : Env w) : Calls Tryd.prog 12 #[.string ⟨#[97, 98, 10, 99]⟩, .int .i64 2] w fun e w' => e = .returned (.string ⟨#[97, 98]⟩) ∧ Below w.heap.size w w' :=
  (line_calls ⟨#[97, 98, 10, 99]⟩ 2 w (by decide) hE).mono fun e w' h => ⟨h.1.trans (by
    show Ending.returned (.string ⟨(lineB [97, 98, 10, 99] (atN 2 4)).toArray⟩) = _
    rw [show lineB [97, 98, 10, 99] (atN 2 4) = [97, 98] by decide]), h.2⟩
set_option maxRecDepth 100000 in
set_option maxHeartbeats 3200000 in
theorem wakes_calls (w : World) (hE : Env w) : Calls Tryd.prog 10 #[] w fun e w' => e = .returned (.bool true) ∧ Below w.heap.size w w' := by
  have HE := Aside0.mk hE
  have HB := Aside0.mk (Below.refl w.heap.size w)
  clear hE
  go_enter Tryd.func10, Tryd.ntmps10
  go_wp2_with fail
  refine (where_w2 w).mono ?_
  rintro en w1 ⟨rfl, hB⟩
  replace HE := Aside0.mk (HE.out.below hB)
  replace HB := Aside0.mk (below_then HB.out HB.out.size hB)
  clear hB
  go_wp2_with fail
  refine (where_w3 w1).mono ?_
  rintro en w2 ⟨rfl, hB⟩
  replace HE := Aside0.mk (HE.out.below hB)
  replace HB := Aside0.mk (below_then HB.out HB.out.size hB)
  clear hB
  go_wp2_with fail
  refine (line_w2 w2 HE.out).mono ?_
  rintro en w3 ⟨rfl, hB⟩
  replace HE := Aside0.mk (HE.out.below hB)
  replace HB := Aside0.mk (below_then HB.out HB.out.size hB)
  clear hB
  go_wp2_with fail
  have hB : Below w3.heap.size w3 (w3.alloc (.cells #[.int .i64 41, .int .i64 3, .string ⟨#[99]⟩] 36)) := (Below.refl _ _).alloc (Nat.le_refl _) _
  have hq := heap_alloc_new w3 (.cells #[.int .i64 41, .int .i64 3, .string ⟨#[99]⟩] 36)
  replace HE := Aside0.mk (HE.out.below hB)
  replace HB := Aside0.mk (below_then HB.out HB.out.size hB)
  clear hB
  generalize w3.alloc (.cells #[.int .i64 41, .int .i64 3, .string ⟨#[99]⟩] 36) = w4 at *
  refine (fault_wake _ w4 HE.out hq).mono ?_
  rintro en w5 ⟨rfl, hB⟩
  replace HE := Aside0.mk (HE.out.below hB)
  replace HB := Aside0.mk (below_then HB.out HB.out.size hB)
  clear hB
  clear hq
  go_wp2_with fail
  refine (fault_nil _ w5).mono ?_
  rintro en w6 ⟨rfl, hB⟩
  replace HE := Aside0.mk (HE.out.below hB)
  replace HB := Aside0.mk (below_then HB.out HB.out.size hB)
  clear hB
  go_wp2_with fail
  refine (out_wake w6 HE.out).mono ?_
  rintro en w7 ⟨rfl, hB⟩
  replace HE := Aside0.mk (HE.out.below hB)
  replace HB := Aside0.mk (below_then HB.out HB.out.size hB)
  clear hB
  go_wp2_with fail
  go_ret
  exact ⟨rfl, HB.out⟩
end Go.Proofs.YtamfknhgjkmdfaaDoor.X
