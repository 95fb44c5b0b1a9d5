/- The walk of the law AgreeTells. -/
import Derived.Test.YtamhdpllmhafhaaHWakes6
import Derived.Test.YtamhdpllmhafhaaHAsR
import Derived.Test.YtamhdpllmhafhaaHRefAgree
import Derived.Test.YtamhdpllmhafhaaHLike
namespace Go.Proofs.Ytamhdpllmhafhaa.X
open Go.RowKit Go.Proofs.YtamhdpllmhafhaaW.PrintWords Go.Proofs.YtamhdpllmhafhaaW.PrintLast Go.Proofs.YtamhdpllmhafhaaW.PrintMore
set_option linter.unusedVariables false
set_option linter.unusedSimpArgs false

set_option maxRecDepth 100000 in
set_option maxHeartbeats 1600000 in
theorem agreeTells_walk (u0 : Value) (t0 : S26) (u1 : Value) (t1 : S26) (kind : Int) (w : World) (h0 : IsT w u0 t0) (h1 : IsT w u1 t1) :
    Calls Try.prog 5 #[u0, u1, .int .i8 kind] w fun e w' => e = .returned (.bool true) ∧ Below w.heap.size w w' := by
  have T0 := Aside0.mk h0
  have T1 := Aside0.mk h1
  obtain ⟨A0, c0, rfl, hl0, hc0⟩ := h0
  obtain ⟨A1, c1, rfl, hl1, hc1⟩ := h1
  clear hl0 hc0 hl1 hc1
  generalize hr : asT kind t0 = r
  obtain ⟨L, R, ok⟩ := r
  have HR := Aside0.mk hr
  clear hr
  go_enter Try.func5, Try.ntmps5
  go_wp2_with fail
  refine (agree_As_calls kind t0 _ _ (T0.out.below (below2 ..))).mono ?_
  unfold AsPost
  rw [HR.out]
  rintro e w1 ⟨v1, v2, rfl, hv1, hv2, hB⟩
  obtain ⟨b1, b2, hB1⟩ := two_blocks hB
  obtain ⟨AL, cL, rfl, hl1, hc1⟩ := hv1
  obtain ⟨AR, cR, rfl, hl2, hc2⟩ := hv2
  have HB1 := Aside0.mk hB1
  have K1 := Aside0.mk b1
  have K2 := Aside0.mk b2
  have TL := Aside0.mk (IsT.mk (k := L.f0) hl1 hc1)
  have TR := Aside0.mk (IsT.mk (k := R.f0) hl2 hc2)
  rw [S26.eta] at TL TR
  replace T0 := Aside0.mk (IsT.below T0.out hB1)
  replace T1 := Aside0.mk (IsT.below T1.out hB1)
  have e10 := blk_cell b1 0
  have e11 := blk_cell b1 1
  simp at e10 e11
  have q1 := blk_lt b1
  have q2 := blk_lt b2
  clear hB hB1 b1 b2 hl1 hc1 hl2 hc2
  go_wp2_with fail
  refine (ref_As_calls kind t0 _ _ (T0.out.below (below2 ..))).mono ?_
  unfold AsPost
  rw [HR.out]
  rintro e w2 ⟨v1, v2, rfl, hv1, hv2, hB⟩
  obtain ⟨AX, cX, rfl, hl1, hc1⟩ := hv1
  obtain ⟨AY, cY, rfl, hl2, hc2⟩ := hv2
  have TX := Aside0.mk (IsT.mk (k := L.f0) hl1 hc1)
  have TY := Aside0.mk (IsT.mk (k := R.f0) hl2 hc2)
  rw [S26.eta] at TX TY
  obtain ⟨b3, b4, hB2⟩ := two_blocks hB
  have K3 := Aside0.mk b3
  have K4 := Aside0.mk b4
  replace K1 := Aside0.mk (blk_below K1.out hB2)
  replace K2 := Aside0.mk (blk_below K2.out hB2)
  replace T0 := Aside0.mk (IsT.below T0.out hB2)
  replace T1 := Aside0.mk (IsT.below T1.out hB2)
  replace TL := Aside0.mk (IsT.below TL.out hB2)
  replace TR := Aside0.mk (IsT.below TR.out hB2)
  replace HB1 := Aside0.mk (below_then HB1.out HB1.out.size hB2)
  clear hB hB2 b3 b4 hl1 hc1 hl2 hc2 e10 e11
  go_wp2_with fail
  have hW := below2 w2 #[.int .i8 L.f0, .slice AX L.f1.length cX] #[.int .i8 R.f0, .slice AY R.f1.length cY] 26 26
  have n5 := heap_alloc_new w2 (.cells #[.int .i8 L.f0, .slice AX L.f1.length cX] 26)
  have K6 := Aside0.mk (new2 w2 (.cells #[.int .i8 L.f0, .slice AX L.f1.length cX] 26) #[.int .i8 R.f0, .slice AY R.f1.length cY] 26)
  have K5 := Aside0.mk (blk_alloc n5 (.cells #[.int .i8 R.f0, .slice AY R.f1.length cY] 26))
  generalize (w2.alloc (.cells #[.int .i8 L.f0, .slice AX L.f1.length cX] 26)).alloc (.cells #[.int .i8 R.f0, .slice AY R.f1.length cY] 26) = W at *
  replace K1 := Aside0.mk (blk_below K1.out hW)
  replace K2 := Aside0.mk (blk_below K2.out hW)
  replace K3 := Aside0.mk (blk_below K3.out hW)
  replace K4 := Aside0.mk (blk_below K4.out hW)
  replace T0 := Aside0.mk (IsT.below T0.out hW)
  replace T1 := Aside0.mk (IsT.below T1.out hW)
  replace TL := Aside0.mk (IsT.below TL.out hW)
  replace TR := Aside0.mk (IsT.below TR.out hW)
  replace TX := Aside0.mk (IsT.below TX.out hW)
  replace TY := Aside0.mk (IsT.below TY.out hW)
  replace HB1 := Aside0.mk (below_then HB1.out HB1.out.size hW)
  clear n5 hW
  generalize w2.heap.size = n2 at *
  generalize w1.heap.size = n1 at *
  have OK := Aside0.mk (fun w' (h : Below W.heap.size W w') => (⟨c26_of K1.out h, c26_of K2.out h, c26_of K3.out h, c26_of K4.out h, c26_of K5.out h, c26_of K6.out h⟩ :
    (w'.cell? ⟨w.heap.size, 0, none⟩ = some (.int .i8 t0.f0) ∧ w'.cell? ⟨w.heap.size, 1, none⟩ = some (.slice A0 t0.f1.length c0)) ∧ (w'.cell? ⟨(w.heap.size + 1), 0, none⟩ = some (.int .i8 t1.f0) ∧ w'.cell? ⟨(w.heap.size + 1), 1, none⟩ = some (.slice A1 t1.f1.length c1)) ∧ (w'.cell? ⟨n1, 0, none⟩ = some (.int .i8 L.f0) ∧ w'.cell? ⟨n1, 1, none⟩ = some (.slice AL L.f1.length cL)) ∧ (w'.cell? ⟨(n1 + 1), 0, none⟩ = some (.int .i8 R.f0) ∧ w'.cell? ⟨(n1 + 1), 1, none⟩ = some (.slice AR R.f1.length cR)) ∧ (w'.cell? ⟨n2, 0, none⟩ = some (.int .i8 L.f0) ∧ w'.cell? ⟨n2, 1, none⟩ = some (.slice AX L.f1.length cX)) ∧ (w'.cell? ⟨(n2 + 1), 0, none⟩ = some (.int .i8 R.f0) ∧ w'.cell? ⟨(n2 + 1), 1, none⟩ = some (.slice AY R.f1.length cY))))
  have HBW := Aside0.mk (Below.refl W.heap.size W)
  have hsz := HB1.out.size
  generalize hag : agreeB t0 t1 = ag
  have AG := Aside0.mk hag
  clear K1 K2 K3 K4 K5 K6 hag q1 q2 HR
  have tok1 : True := trivial
  go_region_held3 (fun w' => (w'.cell? ⟨w.heap.size, 0, none⟩ = some (.int .i8 t0.f0) ∧ w'.cell? ⟨w.heap.size, 1, none⟩ = some (.slice A0 t0.f1.length c0)) ∧ (w'.cell? ⟨(w.heap.size + 1), 0, none⟩ = some (.int .i8 t1.f0) ∧ w'.cell? ⟨(w.heap.size + 1), 1, none⟩ = some (.slice A1 t1.f1.length c1)) ∧ (w'.cell? ⟨n1, 0, none⟩ = some (.int .i8 L.f0) ∧ w'.cell? ⟨n1, 1, none⟩ = some (.slice AL L.f1.length cL)) ∧ (w'.cell? ⟨(n1 + 1), 0, none⟩ = some (.int .i8 R.f0) ∧ w'.cell? ⟨(n1 + 1), 1, none⟩ = some (.slice AR R.f1.length cR)) ∧ (w'.cell? ⟨n2, 0, none⟩ = some (.int .i8 L.f0) ∧ w'.cell? ⟨n2, 1, none⟩ = some (.slice AX L.f1.length cX)) ∧ (w'.cell? ⟨(n2 + 1), 0, none⟩ = some (.int .i8 R.f0) ∧ w'.cell? ⟨(n2 + 1), 1, none⟩ = some (.slice AY R.f1.length cY)))
    (first | exact OK.out _ HBW.out | exact OK.out _ HBW.out.drew | exact OK.out _ HB2.out | exact OK.out _ HB3.out | exact OK.out _ HB4.out | exact OK.out _ HB5.out | exact OK.out _ HB6.out)
    (first
      | (go_at_call 24; refine (Agree_calls (T0.out.below HBW.out.drew) (T1.out.below HBW.out.drew)).mono ?_; rw [AG.out]; rintro e w2 ⟨rfl, hB⟩; have HB2 := Aside0.mk (below_then HBW.out.drew HBW.out.drew.size hB); clear hB)
      | (go_at_call 25; refine (refAgree_calls (T0.out.below HB2.out) (T1.out.below HB2.out)).mono ?_; rw [AG.out]; rintro e w3 ⟨rfl, hB⟩; have HB3 := Aside0.mk (below_then HB2.out HB2.out.size hB); clear hB)
      | (go_at_call 26; have _t := tok1; refine (LikeType_calls (TL.out.below HB3.out) (TX.out.below HB3.out)).mono ?_; rw [like_refl]; rintro e w4 ⟨rfl, hB⟩; clear tok1; have HB4 := Aside0.mk (below_then HB3.out HB3.out.size hB); clear hB)
      | (go_at_call 26; refine (LikeType_calls (TR.out.below HB4.out) (TY.out.below HB4.out)).mono ?_; rw [like_refl]; rintro e w5 ⟨rfl, hB⟩; have HB5 := Aside0.mk (below_then HB4.out HB4.out.size hB); clear hB)
      | (go_at_call 27; refine (wakes6_calls _).mono ?_; rintro e w6 ⟨rfl, hB⟩; have HB6 := Aside0.mk (below_then HB5.out HB5.out.size hB); clear hB))
  go_wp2_with fail
  go_ret
  exact ⟨rfl, below_then HB1.out hsz HB6.out⟩
end Go.Proofs.Ytamhdpllmhafhaa.X
