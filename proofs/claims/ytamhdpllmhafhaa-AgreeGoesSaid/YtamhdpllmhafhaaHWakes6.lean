/- The contract of layer 6's wakes: what the document says of a few types holds. -/
import Derived.Test.YtamhdpllmhafhaaHAs
import Derived.Test.YtamhdpllmhafhaaHOf
import Derived.Test.YtamhdpllmhafhaaHAgree
import Derived.Test.YtamhdpllmhafhaaHKeep
namespace Go.Proofs.Ytamhdpllmhafhaa.X
open Go.RowKit Go.Proofs.YtamhdpllmhafhaaW.PrintWords Go.Proofs.YtamhdpllmhafhaaW.PrintLast Go.Proofs.YtamhdpllmhafhaaW.PrintMore
set_option linter.unusedVariables false
set_option linter.unusedSimpArgs false

theorem asT_w1 : asT 3 ⟨3, [⟨1, []⟩, ⟨0, []⟩]⟩ = (⟨1, []⟩, ⟨0, []⟩, true) := by kernel_rfl
theorem asT_w2 : asT 4 ⟨1, []⟩ = (z26, z26, false) := by kernel_rfl
theorem agree_w1 : agreeB ⟨3, [⟨1, []⟩, ⟨0, []⟩]⟩ ⟨3, [⟨0, []⟩, ⟨2, []⟩]⟩ = true := by kernel_rfl
theorem agree_w2 : agreeB ⟨1, []⟩ ⟨2, []⟩ = false := by kernel_rfl

set_option maxRecDepth 100000 in
set_option maxHeartbeats 1600000 in
theorem wakes6_calls (w : World) : Calls Try.prog 27 #[] w fun e w' => e = .returned (.bool true) ∧ Below w.heap.size w w' := by
  go_enter Try.func27, Try.ntmps27
  go_wp2_with fail
  refine (Of_calls (IsT.leaf _ 1) (IsT.leaf _ 0)).mono ?_
  rintro e w1 ⟨v1, rfl, ht1, hB⟩
  obtain ⟨b1, b2, b3, hB1⟩ := three_blocks hB
  have HT1 := Aside0.mk ht1
  have HB1 := Aside0.mk hB1
  have K1 := Aside0.mk b1
  have K2 := Aside0.mk b2
  have K3 := Aside0.mk b3
  clear ht1 hB1 b1 b2 b3 hB
  go_wp2_with fail
  refine (agree_As_calls 3 _ _ _ HT1.out).mono ?_
  rintro e w2 ⟨u1, u2, rfl, hu1, hu2, hB⟩
  rw [asT_w1] at hu1 hu2 ⊢
  obtain ⟨A1, c1, rfl, hl1, hc1⟩ := hu1
  obtain ⟨A2, c2, rfl, hl2, hc2⟩ := hu2
  have HB2 := Aside0.mk (below_then HB1.out HB1.out.size hB)
  have k1 := blk_below K1.out hB
  have k2 := blk_below K2.out hB
  have k3 := blk_below K3.out hB
  clear K1 K2 K3 HB1 HT1 hB hl1 hl2 hc1 hc2
  have e10 := blk_cell k1 0
  have e11 := blk_cell k1 1
  have K1 := Aside0.mk k1
  have K2 := Aside0.mk k2
  have K3 := Aside0.mk k3
  have q1 := blk_lt k1
  have q2 := blk_lt k2
  have q3 := blk_lt k3
  simp at e10 e11
  clear k1 k2 k3
  go_wp2_with fail
  refine (agree_As_calls 4 ⟨1, []⟩ _ _ (IsT.leaf _ 1)).mono ?_
  rintro e w3 ⟨u1, u2, rfl, hu1, hu2, hB⟩
  rw [asT_w2] at hu1 hu2 ⊢
  obtain ⟨A3, c3, rfl, hl1, hc1⟩ := hu1
  obtain ⟨A4, c4, rfl, hl2, hc2⟩ := hu2
  have g1 := blk_below (blk_alloc (blk_alloc K1.out _) _) hB
  have g2 := blk_below (blk_alloc (blk_alloc K2.out _) _) hB
  have g3 := blk_below (blk_alloc (blk_alloc K3.out _) _) hB
  have g4 := blk_below (blk_alloc (heap_alloc_new w2 (.cells #[.int .i8 1, .slice A1 0 c1] 26)) _) hB
  have g5 := blk_below (new2 w2 (.cells #[.int .i8 1, .slice A1 0 c1] 26) #[.int .i8 0, .slice A2 0 c2] 26) hB
  have HB3 := Aside0.mk (below_then ((HB2.out.alloc HB2.out.size (.cells #[.int .i8 1, .slice A1 0 c1] 26)).alloc (by simp; omega) (.cells #[.int .i8 0, .slice A2 0 c2] 26)) (by simp; omega) hB)
  have K1 := Aside0.mk g1
  have K2 := Aside0.mk g2
  have K3 := Aside0.mk g3
  have K4 := Aside0.mk g4
  have K5 := Aside0.mk g5
  clear hl1 hc1 hl2 hc2 hB g1 g2 g3 g4 g5 e10 e11
  go_wp2_with fail
  have g1 := blk_alloc (blk_alloc K1.out (.cells #[.int .i8 z26.f0, .slice A3 z26.f1.length c3] 26)) (.cells #[.int .i8 z26.f0, .slice A4 z26.f1.length c4] 26)
  have g2 := blk_alloc (blk_alloc K2.out (.cells #[.int .i8 z26.f0, .slice A3 z26.f1.length c3] 26)) (.cells #[.int .i8 z26.f0, .slice A4 z26.f1.length c4] 26)
  have g3 := blk_alloc (blk_alloc K3.out (.cells #[.int .i8 z26.f0, .slice A3 z26.f1.length c3] 26)) (.cells #[.int .i8 z26.f0, .slice A4 z26.f1.length c4] 26)
  have g4 := blk_alloc (blk_alloc K4.out (.cells #[.int .i8 z26.f0, .slice A3 z26.f1.length c3] 26)) (.cells #[.int .i8 z26.f0, .slice A4 z26.f1.length c4] 26)
  have g5 := blk_alloc (blk_alloc K5.out (.cells #[.int .i8 z26.f0, .slice A3 z26.f1.length c3] 26)) (.cells #[.int .i8 z26.f0, .slice A4 z26.f1.length c4] 26)
  have HB4 := Aside0.mk ((HB3.out.alloc HB3.out.size (.cells #[.int .i8 z26.f0, .slice A3 z26.f1.length c3] 26)).alloc (by simp; have := HB3.out.size; omega) (.cells #[.int .i8 z26.f0, .slice A4 z26.f1.length c4] 26))
  have hnW := HB4.out.size
  generalize (w3.alloc (.cells #[.int .i8 z26.f0, .slice A3 z26.f1.length c3] 26)).alloc (.cells #[.int .i8 z26.f0, .slice A4 z26.f1.length c4] 26) = W at *
  generalize w2.heap.size = n2 at *
  have f10 := (blk_cell g1 0).trans rfl
  have f11 := (blk_cell g1 1).trans rfl
  have f20 := (blk_cell g2 0).trans rfl
  have f21 := (blk_cell g2 1).trans rfl
  have f30 := (blk_cell g3 0).trans rfl
  have f31 := (blk_cell g3 1).trans rfl
  have f40 := (blk_cell g4 0).trans rfl
  have f50 := (blk_cell g5 0).trans rfl
  have ok : ∀ w' : World, Below W.heap.size W w' → w'.cell? ⟨w.heap.size, 0, none⟩ = some (.int .i8 1) ∧ w'.cell? ⟨w.heap.size, 1, none⟩ = some (.slice none 0 0) ∧ w'.cell? ⟨w.heap.size + 1, 0, none⟩ = some (.int .i8 2) ∧ w'.cell? ⟨w.heap.size + 1, 1, none⟩ = some (.slice none 0 0) ∧ w'.cell? ⟨w.heap.size + 1 + 1, 0, none⟩ = some (.int .i8 0) ∧ w'.cell? ⟨w.heap.size + 1 + 1, 1, none⟩ = some (.slice none 0 0) ∧ w'.cell? ⟨n2, 0, none⟩ = some (.int .i8 1) ∧ w'.cell? ⟨n2 + 1, 0, none⟩ = some (.int .i8 0) := fun w' h =>
    ⟨pw_cell_below h f10, pw_cell_below h f11, pw_cell_below h f20, pw_cell_below h f21, pw_cell_below h f30, pw_cell_below h f31, pw_cell_below h f40, pw_cell_below h f50⟩
  have OK := Aside0.mk ok
  have HBW := Aside0.mk (Below.refl W.heap.size W)
  clear ok f10 f11 f20 f21 f30 f31 f40 f50 g1 g2 g3 g4 g5 K1 K2 K3 K4 K5 q1 q2 q3
  have tok1 : True := trivial
  have tok2 : True := trivial
  go_region_held3 (fun w' => w'.cell? ⟨w.heap.size, 0, none⟩ = some (.int .i8 1) ∧ w'.cell? ⟨w.heap.size, 1, none⟩ = some (.slice none 0 0) ∧ w'.cell? ⟨w.heap.size + 1, 0, none⟩ = some (.int .i8 2) ∧ w'.cell? ⟨w.heap.size + 1, 1, none⟩ = some (.slice none 0 0) ∧ w'.cell? ⟨w.heap.size + 1 + 1, 0, none⟩ = some (.int .i8 0) ∧ w'.cell? ⟨w.heap.size + 1 + 1, 1, none⟩ = some (.slice none 0 0) ∧ w'.cell? ⟨n2, 0, none⟩ = some (.int .i8 1) ∧ w'.cell? ⟨n2 + 1, 0, none⟩ = some (.int .i8 0))
    (first | exact OK.out _ HBW.out | exact OK.out _ HBW.out.drew | exact OK.out _ HB5.out | exact OK.out _ HB6.out | exact OK.out _ HB7.out | exact OK.out _ HB8.out)
    (first
      | (go_at_call 29; have _t := tok1; refine (Of_calls (IsT.leaf _ 1) (IsT.leaf _ 0)).mono ?_; rintro e w5 ⟨v2, rfl, ht, hB⟩; clear tok1; have HTa := Aside0.mk ht; have HB5 := Aside0.mk (below_then HBW.out.drew HBW.out.drew.size hB); clear ht hB)
      | (go_at_call 29; refine (Of_calls (IsT.leaf _ 0) (IsT.leaf _ 2)).mono ?_; rintro e w6 ⟨v3, rfl, ht, hB⟩; have HTb := Aside0.mk ht; have HTc := Aside0.mk (HTa.out.below hB); have HB6 := Aside0.mk (below_then HB5.out HB5.out.size hB); clear ht hB)
      | (go_at_call 24; have _t := tok2; refine (Agree_calls HTc.out HTb.out).mono ?_; rw [agree_w1]; rintro e w7 ⟨rfl, hB⟩; clear tok2; have HB7 := Aside0.mk (below_then HB6.out HB6.out.size hB); clear hB)
      | (go_at_call 24; refine (Agree_calls (IsT.leaf _ 1) (IsT.leaf _ 2)).mono ?_; rw [agree_w2]; rintro e w8 ⟨rfl, hB⟩; have HB8 := Aside0.mk (below_then HB7.out HB7.out.size hB); clear hB))
  go_wp2_with fail
  go_ret
  exact ⟨rfl, below_then HB4.out hnW HB8.out⟩
end Go.Proofs.Ytamhdpllmhafhaa.X
