/- The walk of the law BelowTells. -/
import Derived.Test.YtamhdpllmhafhaaHWakes8
import Derived.Test.YtamhdpllmhafhaaHRef8D
namespace Go.Proofs.Ytamhdpllmhafhaa.X
open Go.RowKit Go.Proofs.YtamhdpllmhafhaaW.PrintWords Go.Proofs.YtamhdpllmhafhaaW.PrintLast Go.Proofs.YtamhdpllmhafhaaW.PrintMore
set_option linter.unusedVariables false
set_option linter.unusedSimpArgs false

set_option maxRecDepth 100000 in
set_option maxHeartbeats 3200000 in
theorem belowTells_walk (u0 : Value) (t0 : S26) (u1 : Value) (t1 : S26) (w : World) (h0 : IsT w u0 t0) (h1 : IsT w u1 t1) :
    Calls Try.prog 7 #[u0, u1] w fun e w' => e = .returned (.bool true) ∧ Below w.heap.size w w' := by
  have T0 := Aside0.mk h0
  have T1 := Aside0.mk h1
  obtain ⟨A0, c0, rfl, _, _⟩ := h0
  obtain ⟨A1, c1, rfl, _, _⟩ := h1
  obtain ⟨r0, hr0⟩ : ∃ r, relB 0 t0 t1 = r := ⟨_, rfl⟩
  obtain ⟨r1, hr1⟩ : ∃ r, relB 1 t0 t1 = r := ⟨_, rfl⟩
  obtain ⟨r2, hr2⟩ : ∃ r, relB 2 t0 t1 = r := ⟨_, rfl⟩
  have R0 := Aside0.mk hr0
  have R1 := Aside0.mk hr1
  have R2 := Aside0.mk hr2
  clear hr0 hr1 hr2
  go_enter Try.func7, Try.ntmps7
  go_wp2_with fail
  have hW := below2 w #[.int .i8 t0.f0, .slice A0 t0.f1.length c0] #[.int .i8 t1.f0, .slice A1 t1.f1.length c1] 26 26
  have K1 := Aside0.mk (blk_alloc (heap_alloc_new w (.cells #[.int .i8 t0.f0, .slice A0 t0.f1.length c0] 26)) (.cells #[.int .i8 t1.f0, .slice A1 t1.f1.length c1] 26))
  have K2 := Aside0.mk (new2 w (.cells #[.int .i8 t0.f0, .slice A0 t0.f1.length c0] 26) #[.int .i8 t1.f0, .slice A1 t1.f1.length c1] 26)
  generalize (w.alloc (.cells #[.int .i8 t0.f0, .slice A0 t0.f1.length c0] 26)).alloc (.cells #[.int .i8 t1.f0, .slice A1 t1.f1.length c1] 26) = W at *
  replace T0 := Aside0.mk (IsT.below T0.out hW)
  replace T1 := Aside0.mk (IsT.below T1.out hW)
  have HB := Aside0.mk hW
  have OK := Aside0.mk (fun w' (h : Below W.heap.size W w') => (⟨c26_of K1.out h, c26_of K2.out h⟩ : (w'.cell? ⟨w.heap.size, 0, none⟩ = some (.int .i8 t0.f0) ∧ w'.cell? ⟨w.heap.size, 1, none⟩ = some (.slice A0 t0.f1.length c0)) ∧ (w'.cell? ⟨(w.heap.size + 1), 0, none⟩ = some (.int .i8 t1.f0) ∧ w'.cell? ⟨(w.heap.size + 1), 1, none⟩ = some (.slice A1 t1.f1.length c1))))
  have HBW := Aside0.mk (Below.refl W.heap.size W)
  clear K1 K2 hW
  go_region_held3 (fun w' => (w'.cell? ⟨w.heap.size, 0, none⟩ = some (.int .i8 t0.f0) ∧ w'.cell? ⟨w.heap.size, 1, none⟩ = some (.slice A0 t0.f1.length c0)) ∧ (w'.cell? ⟨(w.heap.size + 1), 0, none⟩ = some (.int .i8 t1.f0) ∧ w'.cell? ⟨(w.heap.size + 1), 1, none⟩ = some (.slice A1 t1.f1.length c1)))
    (first | exact OK.out _ HBW.out | exact OK.out _ HBW.out.drew | exact OK.out _ HB1.out | exact OK.out _ HB2.out | exact OK.out _ HB3.out | exact OK.out _ HB4.out | exact OK.out _ HB5.out | exact OK.out _ HB6.out | exact OK.out _ HB7.out)
    (first
      | (go_at_call 31; refine (Below_calls (T0.out.below HBW.out.drew) (T1.out.below HBW.out.drew)).mono ?_; rw [R0.out]; rintro e w1 ⟨rfl, hB⟩; have HB1 := Aside0.mk (below_then HBW.out.drew HBW.out.drew.size hB); clear hB)
      | (go_at_call 32; refine (refBelow_calls (T0.out.below HB1.out) (T1.out.below HB1.out)).mono ?_; rw [R0.out]; rintro e w2 ⟨rfl, hB⟩; have HB2 := Aside0.mk (below_then HB1.out HB1.out.size hB); clear hB)
      | (go_at_call 33; refine (Pos_calls (T0.out.below HB2.out) (T1.out.below HB2.out)).mono ?_; rw [R1.out]; rintro e w3 ⟨rfl, hB⟩; have HB3 := Aside0.mk (below_then HB2.out HB2.out.size hB); clear hB)
      | (go_at_call 34; refine (refPos_calls (T0.out.below HB3.out) (T1.out.below HB3.out)).mono ?_; rw [R1.out]; rintro e w4 ⟨rfl, hB⟩; have HB4 := Aside0.mk (below_then HB3.out HB3.out.size hB); clear hB)
      | (go_at_call 35; refine (Neg_calls (T0.out.below HB4.out) (T1.out.below HB4.out)).mono ?_; rw [R2.out]; rintro e w5 ⟨rfl, hB⟩; have HB5 := Aside0.mk (below_then HB4.out HB4.out.size hB); clear hB)
      | (go_at_call 36; refine (refNeg_calls (T0.out.below HB5.out) (T1.out.below HB5.out)).mono ?_; rw [R2.out]; rintro e w6 ⟨rfl, hB⟩; have HB6 := Aside0.mk (below_then HB5.out HB5.out.size hB); clear hB)
      | (go_at_call 37; refine (wakes8_calls _).mono ?_; rintro e w7 ⟨rfl, hB⟩; have HB7 := Aside0.mk (below_then HB6.out HB6.out.size hB); clear hB))
  go_wp2_with fail
  go_ret
  exact ⟨rfl, below_then HB.out HB.out.size HB7.out⟩
end Go.Proofs.Ytamhdpllmhafhaa.X
