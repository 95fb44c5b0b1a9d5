/- The walk of the law AgreeParts: As says yes. -/
import Derived.Test.YtamhdpllmhafhaaHWakes6
import Derived.Test.YtamhdpllmhafhaaHTake
import Derived.Test.YtamhdpllmhafhaaPureAgree
import Derived.Test.YtamhdpllmhafhaaHSmall
namespace Go.Proofs.Ytamhdpllmhafhaa.X
open Go.RowKit Go.Proofs.YtamhdpllmhafhaaW.PrintWords Go.Proofs.YtamhdpllmhafhaaW.PrintLast Go.Proofs.YtamhdpllmhafhaaW.PrintMore
set_option linter.unusedVariables false
set_option linter.unusedSimpArgs false

theorem as_facts {kind : Int} {t L R : S26} (h : asT kind t = (L, R, true)) : nodeK kind ∧ agreeB t ⟨kind, [L, R]⟩ = true ∧ (((t.f0 != 0) = false ∧ (t.f0 == kind) = false) ∨ ((t.f0 != 0) = true ∧ (t.f0 == kind) = true ∧ sameB t ⟨kind, [L, R]⟩ = true ∧ t = ⟨kind, [L, R]⟩ ∧ checkI t = 0)) := by
  obtain ⟨hk, hc, ho⟩ := asT_ok h
  refine ⟨hk, as_agree h, ?_⟩
  rcases ho with ⟨rfl, rfl, rfl⟩ | rfl
  · exact .inl ⟨rfl, by have := node_ne_zero hk; simpa [z26] using fun e => this e.symm⟩
  · exact .inr ⟨by simpa using node_ne_zero hk, by simp, same_refl hc, rfl, hc⟩


set_option maxRecDepth 100000 in
set_option maxHeartbeats 1600000 in
theorem agreeParts_zero (t0 t1 L R : S26) (kk : Int) (w : World) (A0 : Option Addr) (c0 : Nat) (A1 : Option Addr) (c1 : Nat) (T0 : Aside0 (IsT w (.agg #[.int .i8 t0.f0, .slice A0 t0.f1.length c0]) t0)) (T1 : Aside0 (IsT w (.agg #[.int .i8 t1.f0, .slice A1 t1.f1.length c1]) t1))
    (S0 : Aside0 (smallB t0 = true)) (S1 : Aside0 (smallB t1 = true)) (AS0 : Aside0 (asT kk t0 = (L, R, true))) (AG0 : Aside0 (agreeB t0 ⟨kk, [L, R]⟩ = true)) (z1 : (t0.f0 != 0) = false) (z2 : (t0.f0 == kk) = false) (hk : nodeK kk) :
    Calls Try.prog 6 #[.agg #[.int .i8 t0.f0, .slice A0 t0.f1.length c0], .agg #[.int .i8 t1.f0, .slice A1 t1.f1.length c1], .int .i8 kk] w fun e w' => e = .returned (.bool true) ∧ Below w.heap.size w w' := by
  obtain ⟨X1, Y1, too, hb⟩ : ∃ X1 Y1 too, asT kk t1 = (X1, Y1, too) := ⟨_, _, _, rfl⟩
  have AS1 := Aside0.mk hb
  clear hb
  rcases hk with rfl | hk
  · go_enter Try.func6, Try.ntmps6
    go_wp2_with fail
    refine (Small_calls (T0.out.below (below2 ..))).mono ?_
    rw [S0.out]
    rintro e w1 ⟨rfl, hB⟩
    obtain ⟨b1, b2, hB1⟩ := two_blocks hB
    have HB1 := Aside0.mk hB1
    have K1 := Aside0.mk b1
    have K2 := Aside0.mk b2
    replace T0 := Aside0.mk (IsT.below T0.out hB1)
    replace T1 := Aside0.mk (IsT.below T1.out hB1)
    clear hB hB1 b1 b2
    obtain ⟨e10, e11⟩ := c26_of K1.out (Below.refl _ _)
    have q1 := blk_lt K1.out
    obtain ⟨e20, e21⟩ := c26_of K2.out (Below.refl _ _)
    have q2 := blk_lt K2.out
    go_wp2_with fail
    refine (Small_calls T1.out).mono ?_
    rw [S1.out]
    rintro e w2 ⟨rfl, hB⟩
    replace K1 := Aside0.mk (blk_below K1.out hB)
    replace K2 := Aside0.mk (blk_below K2.out hB)
    replace T0 := Aside0.mk (IsT.below T0.out hB)
    replace T1 := Aside0.mk (IsT.below T1.out hB)
    have HB2 := Aside0.mk (below_then HB1.out HB1.out.size hB)
    clear e10 e11 e20 e21 q1 q2 hB HB1
    obtain ⟨e10, e11⟩ := c26_of K1.out (Below.refl _ _)
    have q1 := blk_lt K1.out
    go_wp2_with fail
    refine (agree_As_calls _ t0 _ _ T0.out).mono ?_
    unfold AsPost
    rw [AS0.out]
    rintro e w3 ⟨v1, v2, rfl, hv1, hv2, hB⟩
    obtain ⟨AL, cL, rfl, hl1, hc1⟩ := hv1
    obtain ⟨AR, cR, rfl, hl2, hc2⟩ := hv2
    have TL := Aside0.mk (IsT.mk (k := L.f0) hl1 hc1)
    have TR := Aside0.mk (IsT.mk (k := R.f0) hl2 hc2)
    rw [S26.eta] at TL TR
    replace K1 := Aside0.mk (blk_below K1.out hB)
    replace K2 := Aside0.mk (blk_below K2.out hB)
    replace T0 := Aside0.mk (IsT.below T0.out hB)
    replace T1 := Aside0.mk (IsT.below T1.out hB)
    have HB3 := Aside0.mk (below_then HB2.out HB2.out.size hB)
    clear e10 e11 q1 hB HB2 hl1 hl2 hc1 hc2
    obtain ⟨e10, e11⟩ := c26_of K1.out (Below.refl _ _)
    have q1 := blk_lt K1.out
    have q2 := blk_lt K2.out
    go_wp2_with fail
    have hW := below2 w3 #[.int .i8 L.f0, .slice AL L.f1.length cL] #[.int .i8 R.f0, .slice AR R.f1.length cR] 26 26
    replace T0 := Aside0.mk (IsT.below T0.out hW)
    replace T1 := Aside0.mk (IsT.below T1.out hW)
    replace TL := Aside0.mk (IsT.below TL.out hW)
    replace TR := Aside0.mk (IsT.below TR.out hW)
    have HB4 := Aside0.mk (below_then HB3.out HB3.out.size hW)
    replace K1 := Aside0.mk (blk_below K1.out hW)
    replace K2 := Aside0.mk (blk_below K2.out hW)
    clear hW
    refine (Of_calls TL.out TR.out).mono ?_
    rintro e w4 ⟨vC, rfl, hC, hB⟩
    obtain ⟨AC, cC, rfl, hl1, hc1⟩ := hC
    obtain ⟨k3, k4, hB'⟩ := two_blocks hB
    have K3 := Aside0.mk k3
    have K4 := Aside0.mk k4
    have TC := Aside0.mk (IsT.mk (k := 3) hl1 hc1)
    replace K1 := Aside0.mk (blk_below K1.out hB)
    replace K2 := Aside0.mk (blk_below K2.out hB)
    replace T0 := Aside0.mk (IsT.below T0.out hB)
    replace T1 := Aside0.mk (IsT.below T1.out hB)
    replace TL := Aside0.mk (IsT.below TL.out hB)
    replace TR := Aside0.mk (IsT.below TR.out hB)
    replace HB4 := Aside0.mk (below_then HB4.out HB4.out.size hB)
    clear e10 e11 q1 q2 hB hB' hl1 hc1 k3 k4 HB3
    obtain ⟨e10, e11⟩ := c26_of K1.out (Below.refl _ _)
    have q1 := blk_lt K1.out
    have q2 := blk_lt K2.out
    go_wp2_with fail
    have hW := below1 w4 #[.int .i8 3, .slice AC 2 cC] 26
    have k5 := heap_alloc_new w4 (.cells #[.int .i8 3, .slice AC 2 cC] 26)
    have K5 := Aside0.mk k5
    replace T0 := Aside0.mk (IsT.below T0.out hW)
    replace T1 := Aside0.mk (IsT.below T1.out hW)
    replace TL := Aside0.mk (IsT.below TL.out hW)
    replace TR := Aside0.mk (IsT.below TR.out hW)
    replace TC := Aside0.mk (IsT.below TC.out hW)
    replace K1 := Aside0.mk (blk_below K1.out hW)
    replace K2 := Aside0.mk (blk_below K2.out hW)
    replace K3 := Aside0.mk (blk_below K3.out hW)
    replace K4 := Aside0.mk (blk_below K4.out hW)
    have HB5 := Aside0.mk (below_then HB4.out HB4.out.size hW)
    clear hW k5
    refine (Agree_calls T0.out TC.out).mono ?_
    rw [AG0.out]
    rintro e w6 ⟨rfl, hB⟩
    replace T0 := Aside0.mk (IsT.below T0.out hB)
    replace T1 := Aside0.mk (IsT.below T1.out hB)
    replace TL := Aside0.mk (IsT.below TL.out hB)
    replace TR := Aside0.mk (IsT.below TR.out hB)
    replace TC := Aside0.mk (IsT.below TC.out hB)
    replace K1 := Aside0.mk (blk_below K1.out hB)
    replace K2 := Aside0.mk (blk_below K2.out hB)
    replace K3 := Aside0.mk (blk_below K3.out hB)
    replace K4 := Aside0.mk (blk_below K4.out hB)
    replace K5 := Aside0.mk (blk_below K5.out hB)
    have HB6 := Aside0.mk (below_then HB5.out HB5.out.size hB)
    clear e10 e11 q1 q2 hB HB4 HB5
    generalize w4.heap.size = n4 at *
    obtain ⟨e10, e11⟩ := c26_of K1.out (Below.refl _ _)
    have q1 := blk_lt K1.out
    obtain ⟨e12, e13⟩ := c26_of K2.out (Below.refl _ _)
    have q2 := blk_lt K2.out
    have e20 : w6.cell? ⟨n4, 0, none⟩ = some (.int .i8 3) := (blk_cell K5.out 0).trans rfl
    have e21 : w6.cell? ⟨n4, 1, none⟩ = some (.slice AC 2 cC) := (blk_cell K5.out 1).trans rfl
    go_wp2_with fail
    refine (agree_As_calls _ t1 _ _ T1.out).mono ?_
    unfold AsPost
    rw [AS1.out]
    rintro e w7 ⟨v1, v2, rfl, hv1, hv2, hB⟩
    obtain ⟨AX, cX, rfl, hl1, hc1⟩ := hv1
    obtain ⟨AY, cY, rfl, hl2, hc2⟩ := hv2
    have TX := Aside0.mk (IsT.mk (k := X1.f0) hl1 hc1)
    have TY := Aside0.mk (IsT.mk (k := Y1.f0) hl2 hc2)
    rw [S26.eta] at TX TY
    replace K1 := Aside0.mk (blk_below K1.out hB)
    replace K2 := Aside0.mk (blk_below K2.out hB)
    replace K3 := Aside0.mk (blk_below K3.out hB)
    replace K4 := Aside0.mk (blk_below K4.out hB)
    replace T0 := Aside0.mk (IsT.below T0.out hB)
    replace T1 := Aside0.mk (IsT.below T1.out hB)
    replace TL := Aside0.mk (IsT.below TL.out hB)
    replace TR := Aside0.mk (IsT.below TR.out hB)
    have HB7 := Aside0.mk (below_then HB6.out HB6.out.size hB)
    clear hB hl1 hl2 hc1 hc2 e10 e11 e12 e13 e20 e21 q1 q2
    obtain ⟨e10, e11⟩ := c26_of K1.out (Below.refl _ _)
    have q1 := blk_lt K1.out
    obtain ⟨e12, e13⟩ := c26_of K2.out (Below.refl _ _)
    have q2 := blk_lt K2.out
    cases too
    · go_wp2_with fail
      have hW := below2 w7 #[.int .i8 X1.f0, .slice AX X1.f1.length cX] #[.int .i8 Y1.f0, .slice AY Y1.f1.length cY] 26 26
      have HBE := Aside0.mk (below_then HB7.out HB7.out.size hW)
      clear hW
      go_wp2_with fail
      refine (wakes6_calls _).mono ?_
      rintro e wE ⟨rfl, hB⟩
      go_wp2_with fail
      go_ret
      exact ⟨rfl, below_then HBE.out HBE.out.size hB⟩
    · go_wp2_with fail
      have hW := below2 w7 #[.int .i8 X1.f0, .slice AX X1.f1.length cX] #[.int .i8 Y1.f0, .slice AY Y1.f1.length cY] 26 26
      have HBE := Aside0.mk (below_then HB7.out HB7.out.size hW)
      clear hW
      go_wp2_with fail
      refine (wakes6_calls _).mono ?_
      rintro e wE ⟨rfl, hB⟩
      go_wp2_with fail
      go_ret
      exact ⟨rfl, below_then HBE.out HBE.out.size hB⟩
  rcases hk with rfl | rfl
  · go_enter Try.func6, Try.ntmps6
    go_wp2_with fail
    refine (Small_calls (T0.out.below (below2 ..))).mono ?_
    rw [S0.out]
    rintro e w1 ⟨rfl, hB⟩
    obtain ⟨b1, b2, hB1⟩ := two_blocks hB
    have HB1 := Aside0.mk hB1
    have K1 := Aside0.mk b1
    have K2 := Aside0.mk b2
    replace T0 := Aside0.mk (IsT.below T0.out hB1)
    replace T1 := Aside0.mk (IsT.below T1.out hB1)
    clear hB hB1 b1 b2
    obtain ⟨e10, e11⟩ := c26_of K1.out (Below.refl _ _)
    have q1 := blk_lt K1.out
    obtain ⟨e20, e21⟩ := c26_of K2.out (Below.refl _ _)
    have q2 := blk_lt K2.out
    go_wp2_with fail
    refine (Small_calls T1.out).mono ?_
    rw [S1.out]
    rintro e w2 ⟨rfl, hB⟩
    replace K1 := Aside0.mk (blk_below K1.out hB)
    replace K2 := Aside0.mk (blk_below K2.out hB)
    replace T0 := Aside0.mk (IsT.below T0.out hB)
    replace T1 := Aside0.mk (IsT.below T1.out hB)
    have HB2 := Aside0.mk (below_then HB1.out HB1.out.size hB)
    clear e10 e11 e20 e21 q1 q2 hB HB1
    obtain ⟨e10, e11⟩ := c26_of K1.out (Below.refl _ _)
    have q1 := blk_lt K1.out
    go_wp2_with fail
    refine (agree_As_calls _ t0 _ _ T0.out).mono ?_
    unfold AsPost
    rw [AS0.out]
    rintro e w3 ⟨v1, v2, rfl, hv1, hv2, hB⟩
    obtain ⟨AL, cL, rfl, hl1, hc1⟩ := hv1
    obtain ⟨AR, cR, rfl, hl2, hc2⟩ := hv2
    have TL := Aside0.mk (IsT.mk (k := L.f0) hl1 hc1)
    have TR := Aside0.mk (IsT.mk (k := R.f0) hl2 hc2)
    rw [S26.eta] at TL TR
    replace K1 := Aside0.mk (blk_below K1.out hB)
    replace K2 := Aside0.mk (blk_below K2.out hB)
    replace T0 := Aside0.mk (IsT.below T0.out hB)
    replace T1 := Aside0.mk (IsT.below T1.out hB)
    have HB3 := Aside0.mk (below_then HB2.out HB2.out.size hB)
    clear e10 e11 q1 hB HB2 hl1 hl2 hc1 hc2
    obtain ⟨e10, e11⟩ := c26_of K1.out (Below.refl _ _)
    have q1 := blk_lt K1.out
    have q2 := blk_lt K2.out
    go_wp2_with fail
    have hW := below2 w3 #[.int .i8 L.f0, .slice AL L.f1.length cL] #[.int .i8 R.f0, .slice AR R.f1.length cR] 26 26
    replace T0 := Aside0.mk (IsT.below T0.out hW)
    replace T1 := Aside0.mk (IsT.below T1.out hW)
    replace TL := Aside0.mk (IsT.below TL.out hW)
    replace TR := Aside0.mk (IsT.below TR.out hW)
    have HB4 := Aside0.mk (below_then HB3.out HB3.out.size hW)
    replace K1 := Aside0.mk (blk_below K1.out hW)
    replace K2 := Aside0.mk (blk_below K2.out hW)
    clear hW
    refine (Of_calls TL.out TR.out).mono ?_
    rintro e w4 ⟨vC, rfl, hC, hB⟩
    obtain ⟨AC, cC, rfl, hl1, hc1⟩ := hC
    obtain ⟨k3, k4, hB'⟩ := two_blocks hB
    have K3 := Aside0.mk k3
    have K4 := Aside0.mk k4
    have TC := Aside0.mk (IsT.mk (k := 4) hl1 hc1)
    replace K1 := Aside0.mk (blk_below K1.out hB)
    replace K2 := Aside0.mk (blk_below K2.out hB)
    replace T0 := Aside0.mk (IsT.below T0.out hB)
    replace T1 := Aside0.mk (IsT.below T1.out hB)
    replace TL := Aside0.mk (IsT.below TL.out hB)
    replace TR := Aside0.mk (IsT.below TR.out hB)
    replace HB4 := Aside0.mk (below_then HB4.out HB4.out.size hB)
    clear e10 e11 q1 q2 hB hB' hl1 hc1 k3 k4 HB3
    obtain ⟨e10, e11⟩ := c26_of K1.out (Below.refl _ _)
    have q1 := blk_lt K1.out
    have q2 := blk_lt K2.out
    go_wp2_with fail
    have hW := below1 w4 #[.int .i8 4, .slice AC 2 cC] 26
    have k5 := heap_alloc_new w4 (.cells #[.int .i8 4, .slice AC 2 cC] 26)
    have K5 := Aside0.mk k5
    replace T0 := Aside0.mk (IsT.below T0.out hW)
    replace T1 := Aside0.mk (IsT.below T1.out hW)
    replace TL := Aside0.mk (IsT.below TL.out hW)
    replace TR := Aside0.mk (IsT.below TR.out hW)
    replace TC := Aside0.mk (IsT.below TC.out hW)
    replace K1 := Aside0.mk (blk_below K1.out hW)
    replace K2 := Aside0.mk (blk_below K2.out hW)
    replace K3 := Aside0.mk (blk_below K3.out hW)
    replace K4 := Aside0.mk (blk_below K4.out hW)
    have HB5 := Aside0.mk (below_then HB4.out HB4.out.size hW)
    clear hW k5
    refine (Agree_calls T0.out TC.out).mono ?_
    rw [AG0.out]
    rintro e w6 ⟨rfl, hB⟩
    replace T0 := Aside0.mk (IsT.below T0.out hB)
    replace T1 := Aside0.mk (IsT.below T1.out hB)
    replace TL := Aside0.mk (IsT.below TL.out hB)
    replace TR := Aside0.mk (IsT.below TR.out hB)
    replace TC := Aside0.mk (IsT.below TC.out hB)
    replace K1 := Aside0.mk (blk_below K1.out hB)
    replace K2 := Aside0.mk (blk_below K2.out hB)
    replace K3 := Aside0.mk (blk_below K3.out hB)
    replace K4 := Aside0.mk (blk_below K4.out hB)
    replace K5 := Aside0.mk (blk_below K5.out hB)
    have HB6 := Aside0.mk (below_then HB5.out HB5.out.size hB)
    clear e10 e11 q1 q2 hB HB4 HB5
    generalize w4.heap.size = n4 at *
    obtain ⟨e10, e11⟩ := c26_of K1.out (Below.refl _ _)
    have q1 := blk_lt K1.out
    obtain ⟨e12, e13⟩ := c26_of K2.out (Below.refl _ _)
    have q2 := blk_lt K2.out
    have e20 : w6.cell? ⟨n4, 0, none⟩ = some (.int .i8 4) := (blk_cell K5.out 0).trans rfl
    have e21 : w6.cell? ⟨n4, 1, none⟩ = some (.slice AC 2 cC) := (blk_cell K5.out 1).trans rfl
    go_wp2_with fail
    refine (agree_As_calls _ t1 _ _ T1.out).mono ?_
    unfold AsPost
    rw [AS1.out]
    rintro e w7 ⟨v1, v2, rfl, hv1, hv2, hB⟩
    obtain ⟨AX, cX, rfl, hl1, hc1⟩ := hv1
    obtain ⟨AY, cY, rfl, hl2, hc2⟩ := hv2
    have TX := Aside0.mk (IsT.mk (k := X1.f0) hl1 hc1)
    have TY := Aside0.mk (IsT.mk (k := Y1.f0) hl2 hc2)
    rw [S26.eta] at TX TY
    replace K1 := Aside0.mk (blk_below K1.out hB)
    replace K2 := Aside0.mk (blk_below K2.out hB)
    replace K3 := Aside0.mk (blk_below K3.out hB)
    replace K4 := Aside0.mk (blk_below K4.out hB)
    replace T0 := Aside0.mk (IsT.below T0.out hB)
    replace T1 := Aside0.mk (IsT.below T1.out hB)
    replace TL := Aside0.mk (IsT.below TL.out hB)
    replace TR := Aside0.mk (IsT.below TR.out hB)
    have HB7 := Aside0.mk (below_then HB6.out HB6.out.size hB)
    clear hB hl1 hl2 hc1 hc2 e10 e11 e12 e13 e20 e21 q1 q2
    obtain ⟨e10, e11⟩ := c26_of K1.out (Below.refl _ _)
    have q1 := blk_lt K1.out
    obtain ⟨e12, e13⟩ := c26_of K2.out (Below.refl _ _)
    have q2 := blk_lt K2.out
    cases too
    · go_wp2_with fail
      have hW := below2 w7 #[.int .i8 X1.f0, .slice AX X1.f1.length cX] #[.int .i8 Y1.f0, .slice AY Y1.f1.length cY] 26 26
      have HBE := Aside0.mk (below_then HB7.out HB7.out.size hW)
      clear hW
      go_wp2_with fail
      refine (wakes6_calls _).mono ?_
      rintro e wE ⟨rfl, hB⟩
      go_wp2_with fail
      go_ret
      exact ⟨rfl, below_then HBE.out HBE.out.size hB⟩
    · go_wp2_with fail
      have hW := below2 w7 #[.int .i8 X1.f0, .slice AX X1.f1.length cX] #[.int .i8 Y1.f0, .slice AY Y1.f1.length cY] 26 26
      have HBE := Aside0.mk (below_then HB7.out HB7.out.size hW)
      clear hW
      go_wp2_with fail
      refine (wakes6_calls _).mono ?_
      rintro e wE ⟨rfl, hB⟩
      go_wp2_with fail
      go_ret
      exact ⟨rfl, below_then HBE.out HBE.out.size hB⟩
  · go_enter Try.func6, Try.ntmps6
    go_wp2_with fail
    refine (Small_calls (T0.out.below (below2 ..))).mono ?_
    rw [S0.out]
    rintro e w1 ⟨rfl, hB⟩
    obtain ⟨b1, b2, hB1⟩ := two_blocks hB
    have HB1 := Aside0.mk hB1
    have K1 := Aside0.mk b1
    have K2 := Aside0.mk b2
    replace T0 := Aside0.mk (IsT.below T0.out hB1)
    replace T1 := Aside0.mk (IsT.below T1.out hB1)
    clear hB hB1 b1 b2
    obtain ⟨e10, e11⟩ := c26_of K1.out (Below.refl _ _)
    have q1 := blk_lt K1.out
    obtain ⟨e20, e21⟩ := c26_of K2.out (Below.refl _ _)
    have q2 := blk_lt K2.out
    go_wp2_with fail
    refine (Small_calls T1.out).mono ?_
    rw [S1.out]
    rintro e w2 ⟨rfl, hB⟩
    replace K1 := Aside0.mk (blk_below K1.out hB)
    replace K2 := Aside0.mk (blk_below K2.out hB)
    replace T0 := Aside0.mk (IsT.below T0.out hB)
    replace T1 := Aside0.mk (IsT.below T1.out hB)
    have HB2 := Aside0.mk (below_then HB1.out HB1.out.size hB)
    clear e10 e11 e20 e21 q1 q2 hB HB1
    obtain ⟨e10, e11⟩ := c26_of K1.out (Below.refl _ _)
    have q1 := blk_lt K1.out
    go_wp2_with fail
    refine (agree_As_calls _ t0 _ _ T0.out).mono ?_
    unfold AsPost
    rw [AS0.out]
    rintro e w3 ⟨v1, v2, rfl, hv1, hv2, hB⟩
    obtain ⟨AL, cL, rfl, hl1, hc1⟩ := hv1
    obtain ⟨AR, cR, rfl, hl2, hc2⟩ := hv2
    have TL := Aside0.mk (IsT.mk (k := L.f0) hl1 hc1)
    have TR := Aside0.mk (IsT.mk (k := R.f0) hl2 hc2)
    rw [S26.eta] at TL TR
    replace K1 := Aside0.mk (blk_below K1.out hB)
    replace K2 := Aside0.mk (blk_below K2.out hB)
    replace T0 := Aside0.mk (IsT.below T0.out hB)
    replace T1 := Aside0.mk (IsT.below T1.out hB)
    have HB3 := Aside0.mk (below_then HB2.out HB2.out.size hB)
    clear e10 e11 q1 hB HB2 hl1 hl2 hc1 hc2
    obtain ⟨e10, e11⟩ := c26_of K1.out (Below.refl _ _)
    have q1 := blk_lt K1.out
    have q2 := blk_lt K2.out
    go_wp2_with fail
    have hW := below2 w3 #[.int .i8 L.f0, .slice AL L.f1.length cL] #[.int .i8 R.f0, .slice AR R.f1.length cR] 26 26
    replace T0 := Aside0.mk (IsT.below T0.out hW)
    replace T1 := Aside0.mk (IsT.below T1.out hW)
    replace TL := Aside0.mk (IsT.below TL.out hW)
    replace TR := Aside0.mk (IsT.below TR.out hW)
    have HB4 := Aside0.mk (below_then HB3.out HB3.out.size hW)
    replace K1 := Aside0.mk (blk_below K1.out hW)
    replace K2 := Aside0.mk (blk_below K2.out hW)
    clear hW
    refine (Of_calls TL.out TR.out).mono ?_
    rintro e w4 ⟨vC, rfl, hC, hB⟩
    obtain ⟨AC, cC, rfl, hl1, hc1⟩ := hC
    obtain ⟨k3, k4, hB'⟩ := two_blocks hB
    have K3 := Aside0.mk k3
    have K4 := Aside0.mk k4
    have TC := Aside0.mk (IsT.mk (k := 5) hl1 hc1)
    replace K1 := Aside0.mk (blk_below K1.out hB)
    replace K2 := Aside0.mk (blk_below K2.out hB)
    replace T0 := Aside0.mk (IsT.below T0.out hB)
    replace T1 := Aside0.mk (IsT.below T1.out hB)
    replace TL := Aside0.mk (IsT.below TL.out hB)
    replace TR := Aside0.mk (IsT.below TR.out hB)
    replace HB4 := Aside0.mk (below_then HB4.out HB4.out.size hB)
    clear e10 e11 q1 q2 hB hB' hl1 hc1 k3 k4 HB3
    obtain ⟨e10, e11⟩ := c26_of K1.out (Below.refl _ _)
    have q1 := blk_lt K1.out
    have q2 := blk_lt K2.out
    go_wp2_with fail
    have hW := below1 w4 #[.int .i8 5, .slice AC 2 cC] 26
    have k5 := heap_alloc_new w4 (.cells #[.int .i8 5, .slice AC 2 cC] 26)
    have K5 := Aside0.mk k5
    replace T0 := Aside0.mk (IsT.below T0.out hW)
    replace T1 := Aside0.mk (IsT.below T1.out hW)
    replace TL := Aside0.mk (IsT.below TL.out hW)
    replace TR := Aside0.mk (IsT.below TR.out hW)
    replace TC := Aside0.mk (IsT.below TC.out hW)
    replace K1 := Aside0.mk (blk_below K1.out hW)
    replace K2 := Aside0.mk (blk_below K2.out hW)
    replace K3 := Aside0.mk (blk_below K3.out hW)
    replace K4 := Aside0.mk (blk_below K4.out hW)
    have HB5 := Aside0.mk (below_then HB4.out HB4.out.size hW)
    clear hW k5
    refine (Agree_calls T0.out TC.out).mono ?_
    rw [AG0.out]
    rintro e w6 ⟨rfl, hB⟩
    replace T0 := Aside0.mk (IsT.below T0.out hB)
    replace T1 := Aside0.mk (IsT.below T1.out hB)
    replace TL := Aside0.mk (IsT.below TL.out hB)
    replace TR := Aside0.mk (IsT.below TR.out hB)
    replace TC := Aside0.mk (IsT.below TC.out hB)
    replace K1 := Aside0.mk (blk_below K1.out hB)
    replace K2 := Aside0.mk (blk_below K2.out hB)
    replace K3 := Aside0.mk (blk_below K3.out hB)
    replace K4 := Aside0.mk (blk_below K4.out hB)
    replace K5 := Aside0.mk (blk_below K5.out hB)
    have HB6 := Aside0.mk (below_then HB5.out HB5.out.size hB)
    clear e10 e11 q1 q2 hB HB4 HB5
    generalize w4.heap.size = n4 at *
    obtain ⟨e10, e11⟩ := c26_of K1.out (Below.refl _ _)
    have q1 := blk_lt K1.out
    obtain ⟨e12, e13⟩ := c26_of K2.out (Below.refl _ _)
    have q2 := blk_lt K2.out
    have e20 : w6.cell? ⟨n4, 0, none⟩ = some (.int .i8 5) := (blk_cell K5.out 0).trans rfl
    have e21 : w6.cell? ⟨n4, 1, none⟩ = some (.slice AC 2 cC) := (blk_cell K5.out 1).trans rfl
    go_wp2_with fail
    refine (agree_As_calls _ t1 _ _ T1.out).mono ?_
    unfold AsPost
    rw [AS1.out]
    rintro e w7 ⟨v1, v2, rfl, hv1, hv2, hB⟩
    obtain ⟨AX, cX, rfl, hl1, hc1⟩ := hv1
    obtain ⟨AY, cY, rfl, hl2, hc2⟩ := hv2
    have TX := Aside0.mk (IsT.mk (k := X1.f0) hl1 hc1)
    have TY := Aside0.mk (IsT.mk (k := Y1.f0) hl2 hc2)
    rw [S26.eta] at TX TY
    replace K1 := Aside0.mk (blk_below K1.out hB)
    replace K2 := Aside0.mk (blk_below K2.out hB)
    replace K3 := Aside0.mk (blk_below K3.out hB)
    replace K4 := Aside0.mk (blk_below K4.out hB)
    replace T0 := Aside0.mk (IsT.below T0.out hB)
    replace T1 := Aside0.mk (IsT.below T1.out hB)
    replace TL := Aside0.mk (IsT.below TL.out hB)
    replace TR := Aside0.mk (IsT.below TR.out hB)
    have HB7 := Aside0.mk (below_then HB6.out HB6.out.size hB)
    clear hB hl1 hl2 hc1 hc2 e10 e11 e12 e13 e20 e21 q1 q2
    obtain ⟨e10, e11⟩ := c26_of K1.out (Below.refl _ _)
    have q1 := blk_lt K1.out
    obtain ⟨e12, e13⟩ := c26_of K2.out (Below.refl _ _)
    have q2 := blk_lt K2.out
    cases too
    · go_wp2_with fail
      have hW := below2 w7 #[.int .i8 X1.f0, .slice AX X1.f1.length cX] #[.int .i8 Y1.f0, .slice AY Y1.f1.length cY] 26 26
      have HBE := Aside0.mk (below_then HB7.out HB7.out.size hW)
      clear hW
      go_wp2_with fail
      refine (wakes6_calls _).mono ?_
      rintro e wE ⟨rfl, hB⟩
      go_wp2_with fail
      go_ret
      exact ⟨rfl, below_then HBE.out HBE.out.size hB⟩
    · go_wp2_with fail
      have hW := below2 w7 #[.int .i8 X1.f0, .slice AX X1.f1.length cX] #[.int .i8 Y1.f0, .slice AY Y1.f1.length cY] 26 26
      have HBE := Aside0.mk (below_then HB7.out HB7.out.size hW)
      clear hW
      go_wp2_with fail
      refine (wakes6_calls _).mono ?_
      rintro e wE ⟨rfl, hB⟩
      go_wp2_with fail
      go_ret
      exact ⟨rfl, below_then HBE.out HBE.out.size hB⟩
end Go.Proofs.Ytamhdpllmhafhaa.X
