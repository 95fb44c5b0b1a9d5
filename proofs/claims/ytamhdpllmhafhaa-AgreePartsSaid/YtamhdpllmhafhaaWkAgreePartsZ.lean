/- The walk of the law AgreeParts: As says yes, two parts. -/
import Derived.Test.YtamhdpllmhafhaaHWakes6
import Derived.Test.YtamhdpllmhafhaaHTake
import Derived.Test.YtamhdpllmhafhaaPureAgree
import Derived.Test.YtamhdpllmhafhaaHSmall
namespace Go.Proofs.Ytamhdpllmhafhaa.X
open Go.RowKit Go.Proofs.YtamhdpllmhafhaaW.PrintWords Go.Proofs.YtamhdpllmhafhaaW.PrintLast Go.Proofs.YtamhdpllmhafhaaW.PrintMore
set_option linter.unusedVariables false
set_option linter.unusedSimpArgs false

set_option maxRecDepth 100000 in
set_option maxHeartbeats 1600000 in
theorem agreeParts_two (t0 t1 L R : S26) (kk : Int) (w : World) (A0 : Option Addr) (c0 : Nat) (A1 : Option Addr) (c1 : Nat) (T0 : Aside0 (IsT w (.agg #[.int .i8 t0.f0, .slice A0 t0.f1.length c0]) t0)) (T1 : Aside0 (IsT w (.agg #[.int .i8 t1.f0, .slice A1 t1.f1.length c1]) t1))
    (S0 : Aside0 (smallB t0 = true)) (S1 : Aside0 (smallB t1 = true)) (AS0 : Aside0 (asT kk t0 = (L, R, true))) (AG0 : Aside0 (agreeB t0 ⟨kk, [L, R]⟩ = true)) (z1 : (t0.f0 != 0) = true) (z2 : (t0.f0 == kk) = true) (SA : Aside0 (sameB t0 ⟨kk, [L, R]⟩ = true)) (he : Aside0 (t0 = ⟨kk, [L, R]⟩ ∧ checkI t0 = 0)) (hk : nodeK kk) :
    Calls Try.prog 6 #[.agg #[.int .i8 t0.f0, .slice A0 t0.f1.length c0], .agg #[.int .i8 t1.f0, .slice A1 t1.f1.length c1], .int .i8 kk] w fun e w' => e = .returned (.bool true) ∧ Below w.heap.size w w' := by
  obtain ⟨X1, Y1, too, hb⟩ : ∃ X1 Y1 too, asT kk t1 = (X1, Y1, too) := ⟨_, _, _, rfl⟩
  have HP := Aside0.mk (fun (hz : (t1.f0 == kk) = true) (ht : too = true) => show ∃ v, ((agreeB L X1 = false ∧ v = false) ∨ (agreeB L X1 = true ∧ agreeB R Y1 = v)) ∧ agreeB t0 t1 = v from by
    obtain ⟨_, hc, ho⟩ := asT_ok (ht ▸ hb)
    have e1 : t1 = ⟨kk, [X1, Y1]⟩ := by
      rcases ho with ⟨e, _, _⟩ | e
      · rw [e] at hz
        simp [z26] at hz
        exact absurd hz.symm (node_ne_zero hk)
      · exact e
    have e2 : agreeB t0 t1 = (agreeB L X1 && agreeB R Y1) := by
      rw [he.out.1, e1]
      exact agree_two (he.out.1 ▸ he.out.2) (e1 ▸ hc)
    rw [e2]
    cases agreeB L X1
    · exact ⟨false, .inl ⟨rfl, rfl⟩, rfl⟩
    · exact ⟨agreeB R Y1, .inr ⟨rfl, rfl⟩, rfl⟩)
  have AS1 := Aside0.mk hb
  clear hb he
  rcases hk with rfl | hk
  · go_enter Try.func6, Try.ntmps6
    go_wp2_with fail
    refine (Small_calls (T0.out.below (below2 ..))).mono ?_
    rw [S0.out]
    rintro e w1 ⟨rfl, hB⟩
    obtain ⟨b1, b2, hB1⟩ := two_blocks hB
    have HB1 := Aside0.mk hB1
    have K1 := Aside0.mk b1
    have K2 := Aside0.mk b2
    replace T0 := Aside0.mk (IsT.below T0.out hB1)
    replace T1 := Aside0.mk (IsT.below T1.out hB1)
    clear hB hB1 b1 b2
    obtain ⟨e10, e11⟩ := c26_of K1.out (Below.refl _ _)
    have q1 := blk_lt K1.out
    obtain ⟨e20, e21⟩ := c26_of K2.out (Below.refl _ _)
    have q2 := blk_lt K2.out
    go_wp2_with fail
    refine (Small_calls T1.out).mono ?_
    rw [S1.out]
    rintro e w2 ⟨rfl, hB⟩
    replace K1 := Aside0.mk (blk_below K1.out hB)
    replace K2 := Aside0.mk (blk_below K2.out hB)
    replace T0 := Aside0.mk (IsT.below T0.out hB)
    replace T1 := Aside0.mk (IsT.below T1.out hB)
    have HB2 := Aside0.mk (below_then HB1.out HB1.out.size hB)
    clear e10 e11 e20 e21 q1 q2 hB HB1
    obtain ⟨e10, e11⟩ := c26_of K1.out (Below.refl _ _)
    have q1 := blk_lt K1.out
    go_wp2_with fail
    refine (agree_As_calls _ t0 _ _ T0.out).mono ?_
    unfold AsPost
    rw [AS0.out]
    rintro e w3 ⟨v1, v2, rfl, hv1, hv2, hB⟩
    obtain ⟨AL, cL, rfl, hl1, hc1⟩ := hv1
    obtain ⟨AR, cR, rfl, hl2, hc2⟩ := hv2
    have TL := Aside0.mk (IsT.mk (k := L.f0) hl1 hc1)
    have TR := Aside0.mk (IsT.mk (k := R.f0) hl2 hc2)
    rw [S26.eta] at TL TR
    replace K1 := Aside0.mk (blk_below K1.out hB)
    replace K2 := Aside0.mk (blk_below K2.out hB)
    replace T0 := Aside0.mk (IsT.below T0.out hB)
    replace T1 := Aside0.mk (IsT.below T1.out hB)
    have HB3 := Aside0.mk (below_then HB2.out HB2.out.size hB)
    clear e10 e11 q1 hB HB2 hl1 hl2 hc1 hc2
    obtain ⟨e10, e11⟩ := c26_of K1.out (Below.refl _ _)
    have q1 := blk_lt K1.out
    have q2 := blk_lt K2.out
    go_wp2_with fail
    have hW := below2 w3 #[.int .i8 L.f0, .slice AL L.f1.length cL] #[.int .i8 R.f0, .slice AR R.f1.length cR] 26 26
    replace T0 := Aside0.mk (IsT.below T0.out hW)
    replace T1 := Aside0.mk (IsT.below T1.out hW)
    replace TL := Aside0.mk (IsT.below TL.out hW)
    replace TR := Aside0.mk (IsT.below TR.out hW)
    have HB4 := Aside0.mk (below_then HB3.out HB3.out.size hW)
    replace K1 := Aside0.mk (blk_below K1.out hW)
    replace K2 := Aside0.mk (blk_below K2.out hW)
    clear hW
    refine (Of_calls TL.out TR.out).mono ?_
    rintro e w4 ⟨vC, rfl, hC, hB⟩
    obtain ⟨AC, cC, rfl, hl1, hc1⟩ := hC
    obtain ⟨k3, k4, hB'⟩ := two_blocks hB
    have K3 := Aside0.mk k3
    have K4 := Aside0.mk k4
    have TC := Aside0.mk (IsT.mk (k := 3) hl1 hc1)
    replace K1 := Aside0.mk (blk_below K1.out hB)
    replace K2 := Aside0.mk (blk_below K2.out hB)
    replace T0 := Aside0.mk (IsT.below T0.out hB)
    replace T1 := Aside0.mk (IsT.below T1.out hB)
    replace TL := Aside0.mk (IsT.below TL.out hB)
    replace TR := Aside0.mk (IsT.below TR.out hB)
    replace HB4 := Aside0.mk (below_then HB4.out HB4.out.size hB)
    clear e10 e11 q1 q2 hB hB' hl1 hc1 k3 k4 HB3
    obtain ⟨e10, e11⟩ := c26_of K1.out (Below.refl _ _)
    have q1 := blk_lt K1.out
    have q2 := blk_lt K2.out
    go_wp2_with fail
    have hW := below1 w4 #[.int .i8 3, .slice AC 2 cC] 26
    have k5 := heap_alloc_new w4 (.cells #[.int .i8 3, .slice AC 2 cC] 26)
    have K5 := Aside0.mk k5
    replace T0 := Aside0.mk (IsT.below T0.out hW)
    replace T1 := Aside0.mk (IsT.below T1.out hW)
    replace TL := Aside0.mk (IsT.below TL.out hW)
    replace TR := Aside0.mk (IsT.below TR.out hW)
    replace TC := Aside0.mk (IsT.below TC.out hW)
    replace K1 := Aside0.mk (blk_below K1.out hW)
    replace K2 := Aside0.mk (blk_below K2.out hW)
    replace K3 := Aside0.mk (blk_below K3.out hW)
    replace K4 := Aside0.mk (blk_below K4.out hW)
    have HB5 := Aside0.mk (below_then HB4.out HB4.out.size hW)
    clear hW k5
    refine (Agree_calls T0.out TC.out).mono ?_
    rw [AG0.out]
    rintro e w6 ⟨rfl, hB⟩
    replace T0 := Aside0.mk (IsT.below T0.out hB)
    replace T1 := Aside0.mk (IsT.below T1.out hB)
    replace TL := Aside0.mk (IsT.below TL.out hB)
    replace TR := Aside0.mk (IsT.below TR.out hB)
    replace TC := Aside0.mk (IsT.below TC.out hB)
    replace K1 := Aside0.mk (blk_below K1.out hB)
    replace K2 := Aside0.mk (blk_below K2.out hB)
    replace K3 := Aside0.mk (blk_below K3.out hB)
    replace K4 := Aside0.mk (blk_below K4.out hB)
    replace K5 := Aside0.mk (blk_below K5.out hB)
    have HB6 := Aside0.mk (below_then HB5.out HB5.out.size hB)
    clear e10 e11 q1 q2 hB HB4 HB5
    generalize w4.heap.size = n4 at *
    obtain ⟨e10, e11⟩ := c26_of K1.out (Below.refl _ _)
    have q1 := blk_lt K1.out
    obtain ⟨e12, e13⟩ := c26_of K2.out (Below.refl _ _)
    have q2 := blk_lt K2.out
    have e20 : w6.cell? ⟨n4, 0, none⟩ = some (.int .i8 3) := (blk_cell K5.out 0).trans rfl
    have e21 : w6.cell? ⟨n4, 1, none⟩ = some (.slice AC 2 cC) := (blk_cell K5.out 1).trans rfl
    go_wp2_with fail
    refine (Same_calls T0.out TC.out).mono ?_
    rw [SA.out]
    rintro e w6b ⟨rfl, hB⟩
    replace K1 := Aside0.mk (blk_below K1.out hB)
    replace K2 := Aside0.mk (blk_below K2.out hB)
    replace K3 := Aside0.mk (blk_below K3.out hB)
    replace K4 := Aside0.mk (blk_below K4.out hB)
    replace T0 := Aside0.mk (IsT.below T0.out hB)
    replace T1 := Aside0.mk (IsT.below T1.out hB)
    replace TL := Aside0.mk (IsT.below TL.out hB)
    replace TR := Aside0.mk (IsT.below TR.out hB)
    replace HB6 := Aside0.mk (below_then HB6.out HB6.out.size hB)
    clear hB e10 e11 e12 e13 e20 e21 q1 q2 TC K5
    obtain ⟨e10, e11⟩ := c26_of K1.out (Below.refl _ _)
    have q1 := blk_lt K1.out
    obtain ⟨e12, e13⟩ := c26_of K2.out (Below.refl _ _)
    have q2 := blk_lt K2.out
    have e20 := trivial
    have e21 := trivial
    go_wp2_with fail
    refine (agree_As_calls _ t1 _ _ T1.out).mono ?_
    unfold AsPost
    rw [AS1.out]
    rintro e w7 ⟨v1, v2, rfl, hv1, hv2, hB⟩
    obtain ⟨AX, cX, rfl, hl1, hc1⟩ := hv1
    obtain ⟨AY, cY, rfl, hl2, hc2⟩ := hv2
    have TX := Aside0.mk (IsT.mk (k := X1.f0) hl1 hc1)
    have TY := Aside0.mk (IsT.mk (k := Y1.f0) hl2 hc2)
    rw [S26.eta] at TX TY
    replace K1 := Aside0.mk (blk_below K1.out hB)
    replace K2 := Aside0.mk (blk_below K2.out hB)
    replace K3 := Aside0.mk (blk_below K3.out hB)
    replace K4 := Aside0.mk (blk_below K4.out hB)
    replace T0 := Aside0.mk (IsT.below T0.out hB)
    replace T1 := Aside0.mk (IsT.below T1.out hB)
    replace TL := Aside0.mk (IsT.below TL.out hB)
    replace TR := Aside0.mk (IsT.below TR.out hB)
    have HB7 := Aside0.mk (below_then HB6.out HB6.out.size hB)
    clear hB hl1 hl2 hc1 hc2 e10 e11 e12 e13 e20 e21 q1 q2
    obtain ⟨e10, e11⟩ := c26_of K1.out (Below.refl _ _)
    have q1 := blk_lt K1.out
    obtain ⟨e12, e13⟩ := c26_of K2.out (Below.refl _ _)
    have q2 := blk_lt K2.out
    cases too with
    | false =>
      go_wp2_with fail
      have hW := below2 w7 #[.int .i8 X1.f0, .slice AX X1.f1.length cX] #[.int .i8 Y1.f0, .slice AY Y1.f1.length cY] 26 26
      have HBE := Aside0.mk (below_then HB7.out HB7.out.size hW)
      clear hW
      go_wp2_with fail
      refine (wakes6_calls _).mono ?_
      rintro e wE ⟨rfl, hB⟩
      go_wp2_with fail
      go_ret
      exact ⟨rfl, below_then HBE.out HBE.out.size hB⟩
    | true =>
      by_cases hz : (t1.f0 == 3) = true
      · obtain ⟨v, hLX, hag⟩ := HP.out hz rfl
        have AGP := Aside0.mk hag
        clear hag HP
        rcases hLX with ⟨h1, rfl⟩ | ⟨h1, h2⟩
        · have LX := Aside0.mk h1
          clear h1
          go_wp2_with fail
          have hW := below2 w7 #[.int .i8 X1.f0, .slice AX X1.f1.length cX] #[.int .i8 Y1.f0, .slice AY Y1.f1.length cY] 26 26
          have n5 := heap_alloc_new w7 (.cells #[.int .i8 X1.f0, .slice AX X1.f1.length cX] 26)
          have K6 := Aside0.mk (new2 w7 (.cells #[.int .i8 X1.f0, .slice AX X1.f1.length cX] 26) #[.int .i8 Y1.f0, .slice AY Y1.f1.length cY] 26)
          have K5 := Aside0.mk (blk_alloc n5 (.cells #[.int .i8 Y1.f0, .slice AY Y1.f1.length cY] 26))
          generalize (w7.alloc (.cells #[.int .i8 X1.f0, .slice AX X1.f1.length cX] 26)).alloc (.cells #[.int .i8 Y1.f0, .slice AY Y1.f1.length cY] 26) = W at *
          replace K1 := Aside0.mk (blk_below K1.out hW)
          replace K2 := Aside0.mk (blk_below K2.out hW)
          replace K3 := Aside0.mk (blk_below K3.out hW)
          replace K4 := Aside0.mk (blk_below K4.out hW)
          replace T0 := Aside0.mk (IsT.below T0.out hW)
          replace T1 := Aside0.mk (IsT.below T1.out hW)
          replace TL := Aside0.mk (IsT.below TL.out hW)
          replace TR := Aside0.mk (IsT.below TR.out hW)
          replace TX := Aside0.mk (IsT.below TX.out hW)
          replace TY := Aside0.mk (IsT.below TY.out hW)
          have HB8 := Aside0.mk (below_then HB7.out HB7.out.size hW)
          clear n5 hW e10 e11 e12 e13 q1 q2
          generalize w7.heap.size = n7 at *
          generalize w3.heap.size = n3 at *
          have OK := Aside0.mk (fun w' (h : Below W.heap.size W w') => (⟨c26_of K1.out h, c26_of K2.out h, c26_of K3.out h, c26_of K4.out h, c26_of K5.out h, c26_of K6.out h⟩ :
            (w'.cell? ⟨w.heap.size, 0, none⟩ = some (.int .i8 t0.f0) ∧ w'.cell? ⟨w.heap.size, 1, none⟩ = some (.slice A0 t0.f1.length c0)) ∧ (w'.cell? ⟨(w.heap.size + 1), 0, none⟩ = some (.int .i8 t1.f0) ∧ w'.cell? ⟨(w.heap.size + 1), 1, none⟩ = some (.slice A1 t1.f1.length c1)) ∧ (w'.cell? ⟨n3, 0, none⟩ = some (.int .i8 L.f0) ∧ w'.cell? ⟨n3, 1, none⟩ = some (.slice AL L.f1.length cL)) ∧ (w'.cell? ⟨(n3 + 1), 0, none⟩ = some (.int .i8 R.f0) ∧ w'.cell? ⟨(n3 + 1), 1, none⟩ = some (.slice AR R.f1.length cR)) ∧ (w'.cell? ⟨n7, 0, none⟩ = some (.int .i8 X1.f0) ∧ w'.cell? ⟨n7, 1, none⟩ = some (.slice AX X1.f1.length cX)) ∧ (w'.cell? ⟨(n7 + 1), 0, none⟩ = some (.int .i8 Y1.f0) ∧ w'.cell? ⟨(n7 + 1), 1, none⟩ = some (.slice AY Y1.f1.length cY))))
          have HBW := Aside0.mk (Below.refl W.heap.size W)
          have hsz := HB8.out.size
          clear K1 K2 K3 K4 K5 K6 HB7 HB6 AS0 AS1 AG0 SA S0 S1
          have tok1 : True := trivial
          have tok2 : True := trivial
          refine wp_region_held_drew (S := (fun w' => (w'.cell? ⟨w.heap.size, 0, none⟩ = some (.int .i8 t0.f0) ∧ w'.cell? ⟨w.heap.size, 1, none⟩ = some (.slice A0 t0.f1.length c0)) ∧ (w'.cell? ⟨(w.heap.size + 1), 0, none⟩ = some (.int .i8 t1.f0) ∧ w'.cell? ⟨(w.heap.size + 1), 1, none⟩ = some (.slice A1 t1.f1.length c1)) ∧ (w'.cell? ⟨n3, 0, none⟩ = some (.int .i8 L.f0) ∧ w'.cell? ⟨n3, 1, none⟩ = some (.slice AL L.f1.length cL)) ∧ (w'.cell? ⟨(n3 + 1), 0, none⟩ = some (.int .i8 R.f0) ∧ w'.cell? ⟨(n3 + 1), 1, none⟩ = some (.slice AR R.f1.length cR)) ∧ (w'.cell? ⟨n7, 0, none⟩ = some (.int .i8 X1.f0) ∧ w'.cell? ⟨n7, 1, none⟩ = some (.slice AX X1.f1.length cX)) ∧ (w'.cell? ⟨(n7 + 1), 0, none⟩ = some (.int .i8 Y1.f0) ∧ w'.cell? ⟨(n7 + 1), 1, none⟩ = some (.slice AY Y1.f1.length cY)))) (by kernel_rfl) (OK.out _ HBW.out.drew) (fun hHeld => ?_)
          refine takeH (d := some 85) (v := ?_) 0 rfl rfl (by kernel_rfl) (by kernel_rfl) (by kernel_rfl) (fun _ _ _ h => h) (by rfl) ?_ hHeld ?_
          rotate_left
          · intro w hSw
            try dsimp only at hSw
            go_simp <;> with_reducible rfl
          try simp only [Act.put, List.setIfInBounds_toArray, List.set_cons_zero, List.set_cons_succ]
          refine takeH (d := some 86) (v := ?_) 1 rfl rfl (by kernel_rfl) (by kernel_rfl) (by kernel_rfl) (fun _ _ _ h => h) (by rfl) ?_ hHeld ?_
          rotate_left
          · intro w hSw
            try dsimp only at hSw
            go_simp <;> with_reducible rfl
          try simp only [Act.put, List.setIfInBounds_toArray, List.set_cons_zero, List.set_cons_succ]
          refine takeH (d := some 88) (v := ?_) 3 rfl rfl (by kernel_rfl) (by kernel_rfl) (by kernel_rfl) (fun _ _ _ h => h) (by rfl) ?_ hHeld ?_
          rotate_left
          · intro w hSw
            try dsimp only at hSw
            go_simp <;> with_reducible rfl
          try simp only [Act.put, List.setIfInBounds_toArray, List.set_cons_zero, List.set_cons_succ]
          refine takeH (d := some 89) (v := ?_) 4 rfl rfl (by kernel_rfl) (by kernel_rfl) (by kernel_rfl) (fun _ _ _ h => h) (by rfl) ?_ hHeld ?_
          rotate_left
          · intro w hSw
            try dsimp only at hSw
            go_simp <;> with_reducible rfl
          try simp only [Act.put, List.setIfInBounds_toArray, List.set_cons_zero, List.set_cons_succ]
          refine wpAnyH_ready (rs := [2]) (by kernel_rfl) (by simp) ?_
          refine AllReadyH.cons rfl (fun K hK => ?_) AllReadyH.nil
          go_simp
          refine (Agree_calls (T0.out.below HBW.out.drew) (T1.out.below HBW.out.drew)).mono ?_
          rw [AGP.out]
          rintro e w2 ⟨rfl, hB⟩
          have HB2 := Aside0.mk (below_then HBW.out.drew HBW.out.drew.size hB)
          clear hB
          refine hK.out _ _ (OK.out _ HB2.out) (fun hHeld => ?_)
          clear hK K
          try simp only [Act.put, List.setIfInBounds_toArray, List.set_cons_zero, List.set_cons_succ]
          refine wpAnyH_ready (rs := [5]) (by kernel_rfl) (by simp) ?_
          refine AllReadyH.cons rfl (fun K hK => ?_) AllReadyH.nil
          go_simp
          refine (Agree_calls (TL.out.below HB2.out) (TX.out.below HB2.out)).mono ?_
          rw [LX.out]
          rintro e w3 ⟨rfl, hB⟩
          have HB3 := Aside0.mk (below_then HB2.out HB2.out.size hB)
          clear hB
          refine hK.out _ _ (OK.out _ HB3.out) (fun hHeld => ?_)
          clear hK K
          try simp only [Act.put, List.setIfInBounds_toArray, List.set_cons_zero, List.set_cons_succ]
          refine takeH (d := some 91) (v := ?_) 6 rfl rfl (by kernel_rfl) (by kernel_rfl) (by kernel_rfl) (fun _ _ _ h => h) (by rfl) ?_ hHeld ?_
          rotate_left
          · intro w hSw
            try dsimp only at hSw
            go_simp <;> with_reducible rfl
          try simp only [Act.put, List.setIfInBounds_toArray, List.set_cons_zero, List.set_cons_succ]
          refine passH (d := some 92) 7 rfl rfl (by kernel_rfl) (by kernel_rfl) (by kernel_rfl) (fun _ _ _ h => h) (by rfl) hHeld ?_
          try simp only [Act.put, List.setIfInBounds_toArray, List.set_cons_zero, List.set_cons_succ]
          refine passH (d := some 93) 8 rfl rfl (by kernel_rfl) (by kernel_rfl) (by kernel_rfl) (fun _ _ _ h => h) (by rfl) hHeld ?_
          try simp only [Act.put, List.setIfInBounds_toArray, List.set_cons_zero, List.set_cons_succ]
          refine passH (d := some 94) 9 rfl rfl (by kernel_rfl) (by kernel_rfl) (by kernel_rfl) (fun _ _ _ h => h) (by rfl) hHeld ?_
          try simp only [Act.put, List.setIfInBounds_toArray, List.set_cons_zero, List.set_cons_succ]
          refine takeH (d := some 95) (v := ?_) 10 rfl rfl (by kernel_rfl) (by kernel_rfl) (by kernel_rfl) (fun _ _ _ h => h) (by rfl) ?_ hHeld ?_
          rotate_left
          · intro w hSw
            try dsimp only at hSw
            go_simp <;> with_reducible rfl
          try simp only [Act.put, List.setIfInBounds_toArray, List.set_cons_zero, List.set_cons_succ]
          refine takeH (d := some 96) (v := ?_) 11 rfl rfl (by kernel_rfl) (by kernel_rfl) (by kernel_rfl) (fun _ _ _ h => h) (by rfl) ?_ hHeld ?_
          rotate_left
          · intro w hSw
            try dsimp only at hSw
            go_simp <;> with_reducible rfl
          try simp only [Act.put, List.setIfInBounds_toArray, List.set_cons_zero, List.set_cons_succ]
          refine takeH (d := some 97) (v := ?_) 12 rfl rfl (by kernel_rfl) (by kernel_rfl) (by kernel_rfl) (fun _ _ _ h => h) (by rfl) ?_ hHeld ?_
          rotate_left
          · intro w hSw
            try dsimp only at hSw
            go_simp <;> with_reducible rfl
          try simp only [Act.put, List.setIfInBounds_toArray, List.set_cons_zero, List.set_cons_succ]
          refine wpAnyH_ready (rs := [13]) (by kernel_rfl) (by simp) ?_
          refine AllReadyH.cons rfl (fun K hK => ?_) AllReadyH.nil
          go_simp
          refine (wakes6_calls _).mono ?_
          rintro e w6 ⟨rfl, hB⟩
          have HB5 := Aside0.mk (below_then HB3.out HB3.out.size hB)
          clear hB
          refine hK.out _ _ (OK.out _ HB5.out) (fun hHeld => ?_)
          clear hK K
          try simp only [Act.put, List.setIfInBounds_toArray, List.set_cons_zero, List.set_cons_succ]
          refine takeH (d := some 99) (v := ?_) 14 rfl rfl (by kernel_rfl) (by kernel_rfl) (by kernel_rfl) (fun _ _ _ h => h) (by rfl) ?_ hHeld ?_
          rotate_left
          · intro w hSw
            try dsimp only at hSw
            go_simp <;> with_reducible rfl
          try simp only [Act.put, List.setIfInBounds_toArray, List.set_cons_zero, List.set_cons_succ]
          refine takeH (d := some 6) (v := ?_) 15 rfl rfl (by kernel_rfl) (by kernel_rfl) (by kernel_rfl) (fun _ _ _ h => h) (by rfl) ?_ hHeld ?_
          rotate_left
          · intro w hSw
            try dsimp only at hSw
            go_simp <;> with_reducible rfl
          try simp only [Act.put, List.setIfInBounds_toArray, List.set_cons_zero, List.set_cons_succ]
          refine wpAnyH_done (by kernel_rfl) ?_ _
          go_wp2_with fail
          go_ret
          exact ⟨rfl, below_then HB8.out hsz HB5.out⟩
        · have LX := Aside0.mk h1
          have RY := Aside0.mk h2
          clear h1 h2
          go_wp2_with fail
          have hW := below2 w7 #[.int .i8 X1.f0, .slice AX X1.f1.length cX] #[.int .i8 Y1.f0, .slice AY Y1.f1.length cY] 26 26
          have n5 := heap_alloc_new w7 (.cells #[.int .i8 X1.f0, .slice AX X1.f1.length cX] 26)
          have K6 := Aside0.mk (new2 w7 (.cells #[.int .i8 X1.f0, .slice AX X1.f1.length cX] 26) #[.int .i8 Y1.f0, .slice AY Y1.f1.length cY] 26)
          have K5 := Aside0.mk (blk_alloc n5 (.cells #[.int .i8 Y1.f0, .slice AY Y1.f1.length cY] 26))
          generalize (w7.alloc (.cells #[.int .i8 X1.f0, .slice AX X1.f1.length cX] 26)).alloc (.cells #[.int .i8 Y1.f0, .slice AY Y1.f1.length cY] 26) = W at *
          replace K1 := Aside0.mk (blk_below K1.out hW)
          replace K2 := Aside0.mk (blk_below K2.out hW)
          replace K3 := Aside0.mk (blk_below K3.out hW)
          replace K4 := Aside0.mk (blk_below K4.out hW)
          replace T0 := Aside0.mk (IsT.below T0.out hW)
          replace T1 := Aside0.mk (IsT.below T1.out hW)
          replace TL := Aside0.mk (IsT.below TL.out hW)
          replace TR := Aside0.mk (IsT.below TR.out hW)
          replace TX := Aside0.mk (IsT.below TX.out hW)
          replace TY := Aside0.mk (IsT.below TY.out hW)
          have HB8 := Aside0.mk (below_then HB7.out HB7.out.size hW)
          clear n5 hW e10 e11 e12 e13 q1 q2
          generalize w7.heap.size = n7 at *
          generalize w3.heap.size = n3 at *
          have OK := Aside0.mk (fun w' (h : Below W.heap.size W w') => (⟨c26_of K1.out h, c26_of K2.out h, c26_of K3.out h, c26_of K4.out h, c26_of K5.out h, c26_of K6.out h⟩ :
            (w'.cell? ⟨w.heap.size, 0, none⟩ = some (.int .i8 t0.f0) ∧ w'.cell? ⟨w.heap.size, 1, none⟩ = some (.slice A0 t0.f1.length c0)) ∧ (w'.cell? ⟨(w.heap.size + 1), 0, none⟩ = some (.int .i8 t1.f0) ∧ w'.cell? ⟨(w.heap.size + 1), 1, none⟩ = some (.slice A1 t1.f1.length c1)) ∧ (w'.cell? ⟨n3, 0, none⟩ = some (.int .i8 L.f0) ∧ w'.cell? ⟨n3, 1, none⟩ = some (.slice AL L.f1.length cL)) ∧ (w'.cell? ⟨(n3 + 1), 0, none⟩ = some (.int .i8 R.f0) ∧ w'.cell? ⟨(n3 + 1), 1, none⟩ = some (.slice AR R.f1.length cR)) ∧ (w'.cell? ⟨n7, 0, none⟩ = some (.int .i8 X1.f0) ∧ w'.cell? ⟨n7, 1, none⟩ = some (.slice AX X1.f1.length cX)) ∧ (w'.cell? ⟨(n7 + 1), 0, none⟩ = some (.int .i8 Y1.f0) ∧ w'.cell? ⟨(n7 + 1), 1, none⟩ = some (.slice AY Y1.f1.length cY))))
          have HBW := Aside0.mk (Below.refl W.heap.size W)
          have hsz := HB8.out.size
          clear K1 K2 K3 K4 K5 K6 HB7 HB6 AS0 AS1 AG0 SA S0 S1
          have tok1 : True := trivial
          have tok2 : True := trivial
          go_region_held3 (fun w' => (w'.cell? ⟨w.heap.size, 0, none⟩ = some (.int .i8 t0.f0) ∧ w'.cell? ⟨w.heap.size, 1, none⟩ = some (.slice A0 t0.f1.length c0)) ∧ (w'.cell? ⟨(w.heap.size + 1), 0, none⟩ = some (.int .i8 t1.f0) ∧ w'.cell? ⟨(w.heap.size + 1), 1, none⟩ = some (.slice A1 t1.f1.length c1)) ∧ (w'.cell? ⟨n3, 0, none⟩ = some (.int .i8 L.f0) ∧ w'.cell? ⟨n3, 1, none⟩ = some (.slice AL L.f1.length cL)) ∧ (w'.cell? ⟨(n3 + 1), 0, none⟩ = some (.int .i8 R.f0) ∧ w'.cell? ⟨(n3 + 1), 1, none⟩ = some (.slice AR R.f1.length cR)) ∧ (w'.cell? ⟨n7, 0, none⟩ = some (.int .i8 X1.f0) ∧ w'.cell? ⟨n7, 1, none⟩ = some (.slice AX X1.f1.length cX)) ∧ (w'.cell? ⟨(n7 + 1), 0, none⟩ = some (.int .i8 Y1.f0) ∧ w'.cell? ⟨(n7 + 1), 1, none⟩ = some (.slice AY Y1.f1.length cY)))
            (first | exact OK.out _ HBW.out | exact OK.out _ HBW.out.drew | exact OK.out _ HB2.out | exact OK.out _ HB3.out | exact OK.out _ HB4.out | exact OK.out _ HB5.out)
            (first
              | (go_at_call 24; have _t := tok1; refine (Agree_calls (T0.out.below HBW.out.drew) (T1.out.below HBW.out.drew)).mono ?_; rw [AGP.out]; rintro e w2 ⟨rfl, hB⟩; clear tok1; have HB2 := Aside0.mk (below_then HBW.out.drew HBW.out.drew.size hB); clear hB)
              | (go_at_call 24; have _t := tok2; refine (Agree_calls (TL.out.below HB2.out) (TX.out.below HB2.out)).mono ?_; rw [LX.out]; rintro e w3 ⟨rfl, hB⟩; clear tok2; have HB3 := Aside0.mk (below_then HB2.out HB2.out.size hB); clear hB)
              | (go_at_call 24; refine (Agree_calls (TR.out.below HB3.out) (TY.out.below HB3.out)).mono ?_; rw [RY.out]; rintro e w4 ⟨rfl, hB⟩; have HB4 := Aside0.mk (below_then HB3.out HB3.out.size hB); clear hB)
              | (go_at_call 27; refine (wakes6_calls _).mono ?_; rintro e w6 ⟨rfl, hB⟩; have HB5 := Aside0.mk (below_then HB4.out HB4.out.size hB); clear hB))
          go_wp2_with fail
          go_ret
          exact ⟨rfl, below_then HB8.out hsz HB5.out⟩
      · have hz' : (t1.f0 == 3) = false := by simpa using hz
        clear hz HP
        go_wp2_with fail
        have hW := below2 w7 #[.int .i8 X1.f0, .slice AX X1.f1.length cX] #[.int .i8 Y1.f0, .slice AY Y1.f1.length cY] 26 26
        have HBE := Aside0.mk (below_then HB7.out HB7.out.size hW)
        clear hW
        go_wp2_with fail
        refine (wakes6_calls _).mono ?_
        rintro e wE ⟨rfl, hB⟩
        go_wp2_with fail
        go_ret
        exact ⟨rfl, below_then HBE.out HBE.out.size hB⟩
  rcases hk with rfl | rfl
  · go_enter Try.func6, Try.ntmps6
    go_wp2_with fail
    refine (Small_calls (T0.out.below (below2 ..))).mono ?_
    rw [S0.out]
    rintro e w1 ⟨rfl, hB⟩
    obtain ⟨b1, b2, hB1⟩ := two_blocks hB
    have HB1 := Aside0.mk hB1
    have K1 := Aside0.mk b1
    have K2 := Aside0.mk b2
    replace T0 := Aside0.mk (IsT.below T0.out hB1)
    replace T1 := Aside0.mk (IsT.below T1.out hB1)
    clear hB hB1 b1 b2
    obtain ⟨e10, e11⟩ := c26_of K1.out (Below.refl _ _)
    have q1 := blk_lt K1.out
    obtain ⟨e20, e21⟩ := c26_of K2.out (Below.refl _ _)
    have q2 := blk_lt K2.out
    go_wp2_with fail
    refine (Small_calls T1.out).mono ?_
    rw [S1.out]
    rintro e w2 ⟨rfl, hB⟩
    replace K1 := Aside0.mk (blk_below K1.out hB)
    replace K2 := Aside0.mk (blk_below K2.out hB)
    replace T0 := Aside0.mk (IsT.below T0.out hB)
    replace T1 := Aside0.mk (IsT.below T1.out hB)
    have HB2 := Aside0.mk (below_then HB1.out HB1.out.size hB)
    clear e10 e11 e20 e21 q1 q2 hB HB1
    obtain ⟨e10, e11⟩ := c26_of K1.out (Below.refl _ _)
    have q1 := blk_lt K1.out
    go_wp2_with fail
    refine (agree_As_calls _ t0 _ _ T0.out).mono ?_
    unfold AsPost
    rw [AS0.out]
    rintro e w3 ⟨v1, v2, rfl, hv1, hv2, hB⟩
    obtain ⟨AL, cL, rfl, hl1, hc1⟩ := hv1
    obtain ⟨AR, cR, rfl, hl2, hc2⟩ := hv2
    have TL := Aside0.mk (IsT.mk (k := L.f0) hl1 hc1)
    have TR := Aside0.mk (IsT.mk (k := R.f0) hl2 hc2)
    rw [S26.eta] at TL TR
    replace K1 := Aside0.mk (blk_below K1.out hB)
    replace K2 := Aside0.mk (blk_below K2.out hB)
    replace T0 := Aside0.mk (IsT.below T0.out hB)
    replace T1 := Aside0.mk (IsT.below T1.out hB)
    have HB3 := Aside0.mk (below_then HB2.out HB2.out.size hB)
    clear e10 e11 q1 hB HB2 hl1 hl2 hc1 hc2
    obtain ⟨e10, e11⟩ := c26_of K1.out (Below.refl _ _)
    have q1 := blk_lt K1.out
    have q2 := blk_lt K2.out
    go_wp2_with fail
    have hW := below2 w3 #[.int .i8 L.f0, .slice AL L.f1.length cL] #[.int .i8 R.f0, .slice AR R.f1.length cR] 26 26
    replace T0 := Aside0.mk (IsT.below T0.out hW)
    replace T1 := Aside0.mk (IsT.below T1.out hW)
    replace TL := Aside0.mk (IsT.below TL.out hW)
    replace TR := Aside0.mk (IsT.below TR.out hW)
    have HB4 := Aside0.mk (below_then HB3.out HB3.out.size hW)
    replace K1 := Aside0.mk (blk_below K1.out hW)
    replace K2 := Aside0.mk (blk_below K2.out hW)
    clear hW
    refine (Of_calls TL.out TR.out).mono ?_
    rintro e w4 ⟨vC, rfl, hC, hB⟩
    obtain ⟨AC, cC, rfl, hl1, hc1⟩ := hC
    obtain ⟨k3, k4, hB'⟩ := two_blocks hB
    have K3 := Aside0.mk k3
    have K4 := Aside0.mk k4
    have TC := Aside0.mk (IsT.mk (k := 4) hl1 hc1)
    replace K1 := Aside0.mk (blk_below K1.out hB)
    replace K2 := Aside0.mk (blk_below K2.out hB)
    replace T0 := Aside0.mk (IsT.below T0.out hB)
    replace T1 := Aside0.mk (IsT.below T1.out hB)
    replace TL := Aside0.mk (IsT.below TL.out hB)
    replace TR := Aside0.mk (IsT.below TR.out hB)
    replace HB4 := Aside0.mk (below_then HB4.out HB4.out.size hB)
    clear e10 e11 q1 q2 hB hB' hl1 hc1 k3 k4 HB3
    obtain ⟨e10, e11⟩ := c26_of K1.out (Below.refl _ _)
    have q1 := blk_lt K1.out
    have q2 := blk_lt K2.out
    go_wp2_with fail
    have hW := below1 w4 #[.int .i8 4, .slice AC 2 cC] 26
    have k5 := heap_alloc_new w4 (.cells #[.int .i8 4, .slice AC 2 cC] 26)
    have K5 := Aside0.mk k5
    replace T0 := Aside0.mk (IsT.below T0.out hW)
    replace T1 := Aside0.mk (IsT.below T1.out hW)
    replace TL := Aside0.mk (IsT.below TL.out hW)
    replace TR := Aside0.mk (IsT.below TR.out hW)
    replace TC := Aside0.mk (IsT.below TC.out hW)
    replace K1 := Aside0.mk (blk_below K1.out hW)
    replace K2 := Aside0.mk (blk_below K2.out hW)
    replace K3 := Aside0.mk (blk_below K3.out hW)
    replace K4 := Aside0.mk (blk_below K4.out hW)
    have HB5 := Aside0.mk (below_then HB4.out HB4.out.size hW)
    clear hW k5
    refine (Agree_calls T0.out TC.out).mono ?_
    rw [AG0.out]
    rintro e w6 ⟨rfl, hB⟩
    replace T0 := Aside0.mk (IsT.below T0.out hB)
    replace T1 := Aside0.mk (IsT.below T1.out hB)
    replace TL := Aside0.mk (IsT.below TL.out hB)
    replace TR := Aside0.mk (IsT.below TR.out hB)
    replace TC := Aside0.mk (IsT.below TC.out hB)
    replace K1 := Aside0.mk (blk_below K1.out hB)
    replace K2 := Aside0.mk (blk_below K2.out hB)
    replace K3 := Aside0.mk (blk_below K3.out hB)
    replace K4 := Aside0.mk (blk_below K4.out hB)
    replace K5 := Aside0.mk (blk_below K5.out hB)
    have HB6 := Aside0.mk (below_then HB5.out HB5.out.size hB)
    clear e10 e11 q1 q2 hB HB4 HB5
    generalize w4.heap.size = n4 at *
    obtain ⟨e10, e11⟩ := c26_of K1.out (Below.refl _ _)
    have q1 := blk_lt K1.out
    obtain ⟨e12, e13⟩ := c26_of K2.out (Below.refl _ _)
    have q2 := blk_lt K2.out
    have e20 : w6.cell? ⟨n4, 0, none⟩ = some (.int .i8 4) := (blk_cell K5.out 0).trans rfl
    have e21 : w6.cell? ⟨n4, 1, none⟩ = some (.slice AC 2 cC) := (blk_cell K5.out 1).trans rfl
    go_wp2_with fail
    refine (Same_calls T0.out TC.out).mono ?_
    rw [SA.out]
    rintro e w6b ⟨rfl, hB⟩
    replace K1 := Aside0.mk (blk_below K1.out hB)
    replace K2 := Aside0.mk (blk_below K2.out hB)
    replace K3 := Aside0.mk (blk_below K3.out hB)
    replace K4 := Aside0.mk (blk_below K4.out hB)
    replace T0 := Aside0.mk (IsT.below T0.out hB)
    replace T1 := Aside0.mk (IsT.below T1.out hB)
    replace TL := Aside0.mk (IsT.below TL.out hB)
    replace TR := Aside0.mk (IsT.below TR.out hB)
    replace HB6 := Aside0.mk (below_then HB6.out HB6.out.size hB)
    clear hB e10 e11 e12 e13 e20 e21 q1 q2 TC K5
    obtain ⟨e10, e11⟩ := c26_of K1.out (Below.refl _ _)
    have q1 := blk_lt K1.out
    obtain ⟨e12, e13⟩ := c26_of K2.out (Below.refl _ _)
    have q2 := blk_lt K2.out
    have e20 := trivial
    have e21 := trivial
    go_wp2_with fail
    refine (agree_As_calls _ t1 _ _ T1.out).mono ?_
    unfold AsPost
    rw [AS1.out]
    rintro e w7 ⟨v1, v2, rfl, hv1, hv2, hB⟩
    obtain ⟨AX, cX, rfl, hl1, hc1⟩ := hv1
    obtain ⟨AY, cY, rfl, hl2, hc2⟩ := hv2
    have TX := Aside0.mk (IsT.mk (k := X1.f0) hl1 hc1)
    have TY := Aside0.mk (IsT.mk (k := Y1.f0) hl2 hc2)
    rw [S26.eta] at TX TY
    replace K1 := Aside0.mk (blk_below K1.out hB)
    replace K2 := Aside0.mk (blk_below K2.out hB)
    replace K3 := Aside0.mk (blk_below K3.out hB)
    replace K4 := Aside0.mk (blk_below K4.out hB)
    replace T0 := Aside0.mk (IsT.below T0.out hB)
    replace T1 := Aside0.mk (IsT.below T1.out hB)
    replace TL := Aside0.mk (IsT.below TL.out hB)
    replace TR := Aside0.mk (IsT.below TR.out hB)
    have HB7 := Aside0.mk (below_then HB6.out HB6.out.size hB)
    clear hB hl1 hl2 hc1 hc2 e10 e11 e12 e13 e20 e21 q1 q2
    obtain ⟨e10, e11⟩ := c26_of K1.out (Below.refl _ _)
    have q1 := blk_lt K1.out
    obtain ⟨e12, e13⟩ := c26_of K2.out (Below.refl _ _)
    have q2 := blk_lt K2.out
    cases too with
    | false =>
      go_wp2_with fail
      have hW := below2 w7 #[.int .i8 X1.f0, .slice AX X1.f1.length cX] #[.int .i8 Y1.f0, .slice AY Y1.f1.length cY] 26 26
      have HBE := Aside0.mk (below_then HB7.out HB7.out.size hW)
      clear hW
      go_wp2_with fail
      refine (wakes6_calls _).mono ?_
      rintro e wE ⟨rfl, hB⟩
      go_wp2_with fail
      go_ret
      exact ⟨rfl, below_then HBE.out HBE.out.size hB⟩
    | true =>
      by_cases hz : (t1.f0 == 4) = true
      · obtain ⟨v, hLX, hag⟩ := HP.out hz rfl
        have AGP := Aside0.mk hag
        clear hag HP
        rcases hLX with ⟨h1, rfl⟩ | ⟨h1, h2⟩
        · have LX := Aside0.mk h1
          clear h1
          go_wp2_with fail
          have hW := below2 w7 #[.int .i8 X1.f0, .slice AX X1.f1.length cX] #[.int .i8 Y1.f0, .slice AY Y1.f1.length cY] 26 26
          have n5 := heap_alloc_new w7 (.cells #[.int .i8 X1.f0, .slice AX X1.f1.length cX] 26)
          have K6 := Aside0.mk (new2 w7 (.cells #[.int .i8 X1.f0, .slice AX X1.f1.length cX] 26) #[.int .i8 Y1.f0, .slice AY Y1.f1.length cY] 26)
          have K5 := Aside0.mk (blk_alloc n5 (.cells #[.int .i8 Y1.f0, .slice AY Y1.f1.length cY] 26))
          generalize (w7.alloc (.cells #[.int .i8 X1.f0, .slice AX X1.f1.length cX] 26)).alloc (.cells #[.int .i8 Y1.f0, .slice AY Y1.f1.length cY] 26) = W at *
          replace K1 := Aside0.mk (blk_below K1.out hW)
          replace K2 := Aside0.mk (blk_below K2.out hW)
          replace K3 := Aside0.mk (blk_below K3.out hW)
          replace K4 := Aside0.mk (blk_below K4.out hW)
          replace T0 := Aside0.mk (IsT.below T0.out hW)
          replace T1 := Aside0.mk (IsT.below T1.out hW)
          replace TL := Aside0.mk (IsT.below TL.out hW)
          replace TR := Aside0.mk (IsT.below TR.out hW)
          replace TX := Aside0.mk (IsT.below TX.out hW)
          replace TY := Aside0.mk (IsT.below TY.out hW)
          have HB8 := Aside0.mk (below_then HB7.out HB7.out.size hW)
          clear n5 hW e10 e11 e12 e13 q1 q2
          generalize w7.heap.size = n7 at *
          generalize w3.heap.size = n3 at *
          have OK := Aside0.mk (fun w' (h : Below W.heap.size W w') => (⟨c26_of K1.out h, c26_of K2.out h, c26_of K3.out h, c26_of K4.out h, c26_of K5.out h, c26_of K6.out h⟩ :
            (w'.cell? ⟨w.heap.size, 0, none⟩ = some (.int .i8 t0.f0) ∧ w'.cell? ⟨w.heap.size, 1, none⟩ = some (.slice A0 t0.f1.length c0)) ∧ (w'.cell? ⟨(w.heap.size + 1), 0, none⟩ = some (.int .i8 t1.f0) ∧ w'.cell? ⟨(w.heap.size + 1), 1, none⟩ = some (.slice A1 t1.f1.length c1)) ∧ (w'.cell? ⟨n3, 0, none⟩ = some (.int .i8 L.f0) ∧ w'.cell? ⟨n3, 1, none⟩ = some (.slice AL L.f1.length cL)) ∧ (w'.cell? ⟨(n3 + 1), 0, none⟩ = some (.int .i8 R.f0) ∧ w'.cell? ⟨(n3 + 1), 1, none⟩ = some (.slice AR R.f1.length cR)) ∧ (w'.cell? ⟨n7, 0, none⟩ = some (.int .i8 X1.f0) ∧ w'.cell? ⟨n7, 1, none⟩ = some (.slice AX X1.f1.length cX)) ∧ (w'.cell? ⟨(n7 + 1), 0, none⟩ = some (.int .i8 Y1.f0) ∧ w'.cell? ⟨(n7 + 1), 1, none⟩ = some (.slice AY Y1.f1.length cY))))
          have HBW := Aside0.mk (Below.refl W.heap.size W)
          have hsz := HB8.out.size
          clear K1 K2 K3 K4 K5 K6 HB7 HB6 AS0 AS1 AG0 SA S0 S1
          have tok1 : True := trivial
          have tok2 : True := trivial
          refine wp_region_held_drew (S := (fun w' => (w'.cell? ⟨w.heap.size, 0, none⟩ = some (.int .i8 t0.f0) ∧ w'.cell? ⟨w.heap.size, 1, none⟩ = some (.slice A0 t0.f1.length c0)) ∧ (w'.cell? ⟨(w.heap.size + 1), 0, none⟩ = some (.int .i8 t1.f0) ∧ w'.cell? ⟨(w.heap.size + 1), 1, none⟩ = some (.slice A1 t1.f1.length c1)) ∧ (w'.cell? ⟨n3, 0, none⟩ = some (.int .i8 L.f0) ∧ w'.cell? ⟨n3, 1, none⟩ = some (.slice AL L.f1.length cL)) ∧ (w'.cell? ⟨(n3 + 1), 0, none⟩ = some (.int .i8 R.f0) ∧ w'.cell? ⟨(n3 + 1), 1, none⟩ = some (.slice AR R.f1.length cR)) ∧ (w'.cell? ⟨n7, 0, none⟩ = some (.int .i8 X1.f0) ∧ w'.cell? ⟨n7, 1, none⟩ = some (.slice AX X1.f1.length cX)) ∧ (w'.cell? ⟨(n7 + 1), 0, none⟩ = some (.int .i8 Y1.f0) ∧ w'.cell? ⟨(n7 + 1), 1, none⟩ = some (.slice AY Y1.f1.length cY)))) (by kernel_rfl) (OK.out _ HBW.out.drew) (fun hHeld => ?_)
          refine takeH (d := some 85) (v := ?_) 0 rfl rfl (by kernel_rfl) (by kernel_rfl) (by kernel_rfl) (fun _ _ _ h => h) (by rfl) ?_ hHeld ?_
          rotate_left
          · intro w hSw
            try dsimp only at hSw
            go_simp <;> with_reducible rfl
          try simp only [Act.put, List.setIfInBounds_toArray, List.set_cons_zero, List.set_cons_succ]
          refine takeH (d := some 86) (v := ?_) 1 rfl rfl (by kernel_rfl) (by kernel_rfl) (by kernel_rfl) (fun _ _ _ h => h) (by rfl) ?_ hHeld ?_
          rotate_left
          · intro w hSw
            try dsimp only at hSw
            go_simp <;> with_reducible rfl
          try simp only [Act.put, List.setIfInBounds_toArray, List.set_cons_zero, List.set_cons_succ]
          refine takeH (d := some 88) (v := ?_) 3 rfl rfl (by kernel_rfl) (by kernel_rfl) (by kernel_rfl) (fun _ _ _ h => h) (by rfl) ?_ hHeld ?_
          rotate_left
          · intro w hSw
            try dsimp only at hSw
            go_simp <;> with_reducible rfl
          try simp only [Act.put, List.setIfInBounds_toArray, List.set_cons_zero, List.set_cons_succ]
          refine takeH (d := some 89) (v := ?_) 4 rfl rfl (by kernel_rfl) (by kernel_rfl) (by kernel_rfl) (fun _ _ _ h => h) (by rfl) ?_ hHeld ?_
          rotate_left
          · intro w hSw
            try dsimp only at hSw
            go_simp <;> with_reducible rfl
          try simp only [Act.put, List.setIfInBounds_toArray, List.set_cons_zero, List.set_cons_succ]
          refine wpAnyH_ready (rs := [2]) (by kernel_rfl) (by simp) ?_
          refine AllReadyH.cons rfl (fun K hK => ?_) AllReadyH.nil
          go_simp
          refine (Agree_calls (T0.out.below HBW.out.drew) (T1.out.below HBW.out.drew)).mono ?_
          rw [AGP.out]
          rintro e w2 ⟨rfl, hB⟩
          have HB2 := Aside0.mk (below_then HBW.out.drew HBW.out.drew.size hB)
          clear hB
          refine hK.out _ _ (OK.out _ HB2.out) (fun hHeld => ?_)
          clear hK K
          try simp only [Act.put, List.setIfInBounds_toArray, List.set_cons_zero, List.set_cons_succ]
          refine wpAnyH_ready (rs := [5]) (by kernel_rfl) (by simp) ?_
          refine AllReadyH.cons rfl (fun K hK => ?_) AllReadyH.nil
          go_simp
          refine (Agree_calls (TL.out.below HB2.out) (TX.out.below HB2.out)).mono ?_
          rw [LX.out]
          rintro e w3 ⟨rfl, hB⟩
          have HB3 := Aside0.mk (below_then HB2.out HB2.out.size hB)
          clear hB
          refine hK.out _ _ (OK.out _ HB3.out) (fun hHeld => ?_)
          clear hK K
          try simp only [Act.put, List.setIfInBounds_toArray, List.set_cons_zero, List.set_cons_succ]
          refine takeH (d := some 91) (v := ?_) 6 rfl rfl (by kernel_rfl) (by kernel_rfl) (by kernel_rfl) (fun _ _ _ h => h) (by rfl) ?_ hHeld ?_
          rotate_left
          · intro w hSw
            try dsimp only at hSw
            go_simp <;> with_reducible rfl
          try simp only [Act.put, List.setIfInBounds_toArray, List.set_cons_zero, List.set_cons_succ]
          refine passH (d := some 92) 7 rfl rfl (by kernel_rfl) (by kernel_rfl) (by kernel_rfl) (fun _ _ _ h => h) (by rfl) hHeld ?_
          try simp only [Act.put, List.setIfInBounds_toArray, List.set_cons_zero, List.set_cons_succ]
          refine passH (d := some 93) 8 rfl rfl (by kernel_rfl) (by kernel_rfl) (by kernel_rfl) (fun _ _ _ h => h) (by rfl) hHeld ?_
          try simp only [Act.put, List.setIfInBounds_toArray, List.set_cons_zero, List.set_cons_succ]
          refine passH (d := some 94) 9 rfl rfl (by kernel_rfl) (by kernel_rfl) (by kernel_rfl) (fun _ _ _ h => h) (by rfl) hHeld ?_
          try simp only [Act.put, List.setIfInBounds_toArray, List.set_cons_zero, List.set_cons_succ]
          refine takeH (d := some 95) (v := ?_) 10 rfl rfl (by kernel_rfl) (by kernel_rfl) (by kernel_rfl) (fun _ _ _ h => h) (by rfl) ?_ hHeld ?_
          rotate_left
          · intro w hSw
            try dsimp only at hSw
            go_simp <;> with_reducible rfl
          try simp only [Act.put, List.setIfInBounds_toArray, List.set_cons_zero, List.set_cons_succ]
          refine takeH (d := some 96) (v := ?_) 11 rfl rfl (by kernel_rfl) (by kernel_rfl) (by kernel_rfl) (fun _ _ _ h => h) (by rfl) ?_ hHeld ?_
          rotate_left
          · intro w hSw
            try dsimp only at hSw
            go_simp <;> with_reducible rfl
          try simp only [Act.put, List.setIfInBounds_toArray, List.set_cons_zero, List.set_cons_succ]
          refine takeH (d := some 97) (v := ?_) 12 rfl rfl (by kernel_rfl) (by kernel_rfl) (by kernel_rfl) (fun _ _ _ h => h) (by rfl) ?_ hHeld ?_
          rotate_left
          · intro w hSw
            try dsimp only at hSw
            go_simp <;> with_reducible rfl
          try simp only [Act.put, List.setIfInBounds_toArray, List.set_cons_zero, List.set_cons_succ]
          refine wpAnyH_ready (rs := [13]) (by kernel_rfl) (by simp) ?_
          refine AllReadyH.cons rfl (fun K hK => ?_) AllReadyH.nil
          go_simp
          refine (wakes6_calls _).mono ?_
          rintro e w6 ⟨rfl, hB⟩
          have HB5 := Aside0.mk (below_then HB3.out HB3.out.size hB)
          clear hB
          refine hK.out _ _ (OK.out _ HB5.out) (fun hHeld => ?_)
          clear hK K
          try simp only [Act.put, List.setIfInBounds_toArray, List.set_cons_zero, List.set_cons_succ]
          refine takeH (d := some 99) (v := ?_) 14 rfl rfl (by kernel_rfl) (by kernel_rfl) (by kernel_rfl) (fun _ _ _ h => h) (by rfl) ?_ hHeld ?_
          rotate_left
          · intro w hSw
            try dsimp only at hSw
            go_simp <;> with_reducible rfl
          try simp only [Act.put, List.setIfInBounds_toArray, List.set_cons_zero, List.set_cons_succ]
          refine takeH (d := some 6) (v := ?_) 15 rfl rfl (by kernel_rfl) (by kernel_rfl) (by kernel_rfl) (fun _ _ _ h => h) (by rfl) ?_ hHeld ?_
          rotate_left
          · intro w hSw
            try dsimp only at hSw
            go_simp <;> with_reducible rfl
          try simp only [Act.put, List.setIfInBounds_toArray, List.set_cons_zero, List.set_cons_succ]
          refine wpAnyH_done (by kernel_rfl) ?_ _
          go_wp2_with fail
          go_ret
          exact ⟨rfl, below_then HB8.out hsz HB5.out⟩
        · have LX := Aside0.mk h1
          have RY := Aside0.mk h2
          clear h1 h2
          go_wp2_with fail
          have hW := below2 w7 #[.int .i8 X1.f0, .slice AX X1.f1.length cX] #[.int .i8 Y1.f0, .slice AY Y1.f1.length cY] 26 26
          have n5 := heap_alloc_new w7 (.cells #[.int .i8 X1.f0, .slice AX X1.f1.length cX] 26)
          have K6 := Aside0.mk (new2 w7 (.cells #[.int .i8 X1.f0, .slice AX X1.f1.length cX] 26) #[.int .i8 Y1.f0, .slice AY Y1.f1.length cY] 26)
          have K5 := Aside0.mk (blk_alloc n5 (.cells #[.int .i8 Y1.f0, .slice AY Y1.f1.length cY] 26))
          generalize (w7.alloc (.cells #[.int .i8 X1.f0, .slice AX X1.f1.length cX] 26)).alloc (.cells #[.int .i8 Y1.f0, .slice AY Y1.f1.length cY] 26) = W at *
          replace K1 := Aside0.mk (blk_below K1.out hW)
          replace K2 := Aside0.mk (blk_below K2.out hW)
          replace K3 := Aside0.mk (blk_below K3.out hW)
          replace K4 := Aside0.mk (blk_below K4.out hW)
          replace T0 := Aside0.mk (IsT.below T0.out hW)
          replace T1 := Aside0.mk (IsT.below T1.out hW)
          replace TL := Aside0.mk (IsT.below TL.out hW)
          replace TR := Aside0.mk (IsT.below TR.out hW)
          replace TX := Aside0.mk (IsT.below TX.out hW)
          replace TY := Aside0.mk (IsT.below TY.out hW)
          have HB8 := Aside0.mk (below_then HB7.out HB7.out.size hW)
          clear n5 hW e10 e11 e12 e13 q1 q2
          generalize w7.heap.size = n7 at *
          generalize w3.heap.size = n3 at *
          have OK := Aside0.mk (fun w' (h : Below W.heap.size W w') => (⟨c26_of K1.out h, c26_of K2.out h, c26_of K3.out h, c26_of K4.out h, c26_of K5.out h, c26_of K6.out h⟩ :
            (w'.cell? ⟨w.heap.size, 0, none⟩ = some (.int .i8 t0.f0) ∧ w'.cell? ⟨w.heap.size, 1, none⟩ = some (.slice A0 t0.f1.length c0)) ∧ (w'.cell? ⟨(w.heap.size + 1), 0, none⟩ = some (.int .i8 t1.f0) ∧ w'.cell? ⟨(w.heap.size + 1), 1, none⟩ = some (.slice A1 t1.f1.length c1)) ∧ (w'.cell? ⟨n3, 0, none⟩ = some (.int .i8 L.f0) ∧ w'.cell? ⟨n3, 1, none⟩ = some (.slice AL L.f1.length cL)) ∧ (w'.cell? ⟨(n3 + 1), 0, none⟩ = some (.int .i8 R.f0) ∧ w'.cell? ⟨(n3 + 1), 1, none⟩ = some (.slice AR R.f1.length cR)) ∧ (w'.cell? ⟨n7, 0, none⟩ = some (.int .i8 X1.f0) ∧ w'.cell? ⟨n7, 1, none⟩ = some (.slice AX X1.f1.length cX)) ∧ (w'.cell? ⟨(n7 + 1), 0, none⟩ = some (.int .i8 Y1.f0) ∧ w'.cell? ⟨(n7 + 1), 1, none⟩ = some (.slice AY Y1.f1.length cY))))
          have HBW := Aside0.mk (Below.refl W.heap.size W)
          have hsz := HB8.out.size
          clear K1 K2 K3 K4 K5 K6 HB7 HB6 AS0 AS1 AG0 SA S0 S1
          have tok1 : True := trivial
          have tok2 : True := trivial
          go_region_held3 (fun w' => (w'.cell? ⟨w.heap.size, 0, none⟩ = some (.int .i8 t0.f0) ∧ w'.cell? ⟨w.heap.size, 1, none⟩ = some (.slice A0 t0.f1.length c0)) ∧ (w'.cell? ⟨(w.heap.size + 1), 0, none⟩ = some (.int .i8 t1.f0) ∧ w'.cell? ⟨(w.heap.size + 1), 1, none⟩ = some (.slice A1 t1.f1.length c1)) ∧ (w'.cell? ⟨n3, 0, none⟩ = some (.int .i8 L.f0) ∧ w'.cell? ⟨n3, 1, none⟩ = some (.slice AL L.f1.length cL)) ∧ (w'.cell? ⟨(n3 + 1), 0, none⟩ = some (.int .i8 R.f0) ∧ w'.cell? ⟨(n3 + 1), 1, none⟩ = some (.slice AR R.f1.length cR)) ∧ (w'.cell? ⟨n7, 0, none⟩ = some (.int .i8 X1.f0) ∧ w'.cell? ⟨n7, 1, none⟩ = some (.slice AX X1.f1.length cX)) ∧ (w'.cell? ⟨(n7 + 1), 0, none⟩ = some (.int .i8 Y1.f0) ∧ w'.cell? ⟨(n7 + 1), 1, none⟩ = some (.slice AY Y1.f1.length cY)))
            (first | exact OK.out _ HBW.out | exact OK.out _ HBW.out.drew | exact OK.out _ HB2.out | exact OK.out _ HB3.out | exact OK.out _ HB4.out | exact OK.out _ HB5.out)
            (first
              | (go_at_call 24; have _t := tok1; refine (Agree_calls (T0.out.below HBW.out.drew) (T1.out.below HBW.out.drew)).mono ?_; rw [AGP.out]; rintro e w2 ⟨rfl, hB⟩; clear tok1; have HB2 := Aside0.mk (below_then HBW.out.drew HBW.out.drew.size hB); clear hB)
              | (go_at_call 24; have _t := tok2; refine (Agree_calls (TL.out.below HB2.out) (TX.out.below HB2.out)).mono ?_; rw [LX.out]; rintro e w3 ⟨rfl, hB⟩; clear tok2; have HB3 := Aside0.mk (below_then HB2.out HB2.out.size hB); clear hB)
              | (go_at_call 24; refine (Agree_calls (TR.out.below HB3.out) (TY.out.below HB3.out)).mono ?_; rw [RY.out]; rintro e w4 ⟨rfl, hB⟩; have HB4 := Aside0.mk (below_then HB3.out HB3.out.size hB); clear hB)
              | (go_at_call 27; refine (wakes6_calls _).mono ?_; rintro e w6 ⟨rfl, hB⟩; have HB5 := Aside0.mk (below_then HB4.out HB4.out.size hB); clear hB))
          go_wp2_with fail
          go_ret
          exact ⟨rfl, below_then HB8.out hsz HB5.out⟩
      · have hz' : (t1.f0 == 4) = false := by simpa using hz
        clear hz HP
        go_wp2_with fail
        have hW := below2 w7 #[.int .i8 X1.f0, .slice AX X1.f1.length cX] #[.int .i8 Y1.f0, .slice AY Y1.f1.length cY] 26 26
        have HBE := Aside0.mk (below_then HB7.out HB7.out.size hW)
        clear hW
        go_wp2_with fail
        refine (wakes6_calls _).mono ?_
        rintro e wE ⟨rfl, hB⟩
        go_wp2_with fail
        go_ret
        exact ⟨rfl, below_then HBE.out HBE.out.size hB⟩
  · go_enter Try.func6, Try.ntmps6
    go_wp2_with fail
    refine (Small_calls (T0.out.below (below2 ..))).mono ?_
    rw [S0.out]
    rintro e w1 ⟨rfl, hB⟩
    obtain ⟨b1, b2, hB1⟩ := two_blocks hB
    have HB1 := Aside0.mk hB1
    have K1 := Aside0.mk b1
    have K2 := Aside0.mk b2
    replace T0 := Aside0.mk (IsT.below T0.out hB1)
    replace T1 := Aside0.mk (IsT.below T1.out hB1)
    clear hB hB1 b1 b2
    obtain ⟨e10, e11⟩ := c26_of K1.out (Below.refl _ _)
    have q1 := blk_lt K1.out
    obtain ⟨e20, e21⟩ := c26_of K2.out (Below.refl _ _)
    have q2 := blk_lt K2.out
    go_wp2_with fail
    refine (Small_calls T1.out).mono ?_
    rw [S1.out]
    rintro e w2 ⟨rfl, hB⟩
    replace K1 := Aside0.mk (blk_below K1.out hB)
    replace K2 := Aside0.mk (blk_below K2.out hB)
    replace T0 := Aside0.mk (IsT.below T0.out hB)
    replace T1 := Aside0.mk (IsT.below T1.out hB)
    have HB2 := Aside0.mk (below_then HB1.out HB1.out.size hB)
    clear e10 e11 e20 e21 q1 q2 hB HB1
    obtain ⟨e10, e11⟩ := c26_of K1.out (Below.refl _ _)
    have q1 := blk_lt K1.out
    go_wp2_with fail
    refine (agree_As_calls _ t0 _ _ T0.out).mono ?_
    unfold AsPost
    rw [AS0.out]
    rintro e w3 ⟨v1, v2, rfl, hv1, hv2, hB⟩
    obtain ⟨AL, cL, rfl, hl1, hc1⟩ := hv1
    obtain ⟨AR, cR, rfl, hl2, hc2⟩ := hv2
    have TL := Aside0.mk (IsT.mk (k := L.f0) hl1 hc1)
    have TR := Aside0.mk (IsT.mk (k := R.f0) hl2 hc2)
    rw [S26.eta] at TL TR
    replace K1 := Aside0.mk (blk_below K1.out hB)
    replace K2 := Aside0.mk (blk_below K2.out hB)
    replace T0 := Aside0.mk (IsT.below T0.out hB)
    replace T1 := Aside0.mk (IsT.below T1.out hB)
    have HB3 := Aside0.mk (below_then HB2.out HB2.out.size hB)
    clear e10 e11 q1 hB HB2 hl1 hl2 hc1 hc2
    obtain ⟨e10, e11⟩ := c26_of K1.out (Below.refl _ _)
    have q1 := blk_lt K1.out
    have q2 := blk_lt K2.out
    go_wp2_with fail
    have hW := below2 w3 #[.int .i8 L.f0, .slice AL L.f1.length cL] #[.int .i8 R.f0, .slice AR R.f1.length cR] 26 26
    replace T0 := Aside0.mk (IsT.below T0.out hW)
    replace T1 := Aside0.mk (IsT.below T1.out hW)
    replace TL := Aside0.mk (IsT.below TL.out hW)
    replace TR := Aside0.mk (IsT.below TR.out hW)
    have HB4 := Aside0.mk (below_then HB3.out HB3.out.size hW)
    replace K1 := Aside0.mk (blk_below K1.out hW)
    replace K2 := Aside0.mk (blk_below K2.out hW)
    clear hW
    refine (Of_calls TL.out TR.out).mono ?_
    rintro e w4 ⟨vC, rfl, hC, hB⟩
    obtain ⟨AC, cC, rfl, hl1, hc1⟩ := hC
    obtain ⟨k3, k4, hB'⟩ := two_blocks hB
    have K3 := Aside0.mk k3
    have K4 := Aside0.mk k4
    have TC := Aside0.mk (IsT.mk (k := 5) hl1 hc1)
    replace K1 := Aside0.mk (blk_below K1.out hB)
    replace K2 := Aside0.mk (blk_below K2.out hB)
    replace T0 := Aside0.mk (IsT.below T0.out hB)
    replace T1 := Aside0.mk (IsT.below T1.out hB)
    replace TL := Aside0.mk (IsT.below TL.out hB)
    replace TR := Aside0.mk (IsT.below TR.out hB)
    replace HB4 := Aside0.mk (below_then HB4.out HB4.out.size hB)
    clear e10 e11 q1 q2 hB hB' hl1 hc1 k3 k4 HB3
    obtain ⟨e10, e11⟩ := c26_of K1.out (Below.refl _ _)
    have q1 := blk_lt K1.out
    have q2 := blk_lt K2.out
    go_wp2_with fail
    have hW := below1 w4 #[.int .i8 5, .slice AC 2 cC] 26
    have k5 := heap_alloc_new w4 (.cells #[.int .i8 5, .slice AC 2 cC] 26)
    have K5 := Aside0.mk k5
    replace T0 := Aside0.mk (IsT.below T0.out hW)
    replace T1 := Aside0.mk (IsT.below T1.out hW)
    replace TL := Aside0.mk (IsT.below TL.out hW)
    replace TR := Aside0.mk (IsT.below TR.out hW)
    replace TC := Aside0.mk (IsT.below TC.out hW)
    replace K1 := Aside0.mk (blk_below K1.out hW)
    replace K2 := Aside0.mk (blk_below K2.out hW)
    replace K3 := Aside0.mk (blk_below K3.out hW)
    replace K4 := Aside0.mk (blk_below K4.out hW)
    have HB5 := Aside0.mk (below_then HB4.out HB4.out.size hW)
    clear hW k5
    refine (Agree_calls T0.out TC.out).mono ?_
    rw [AG0.out]
    rintro e w6 ⟨rfl, hB⟩
    replace T0 := Aside0.mk (IsT.below T0.out hB)
    replace T1 := Aside0.mk (IsT.below T1.out hB)
    replace TL := Aside0.mk (IsT.below TL.out hB)
    replace TR := Aside0.mk (IsT.below TR.out hB)
    replace TC := Aside0.mk (IsT.below TC.out hB)
    replace K1 := Aside0.mk (blk_below K1.out hB)
    replace K2 := Aside0.mk (blk_below K2.out hB)
    replace K3 := Aside0.mk (blk_below K3.out hB)
    replace K4 := Aside0.mk (blk_below K4.out hB)
    replace K5 := Aside0.mk (blk_below K5.out hB)
    have HB6 := Aside0.mk (below_then HB5.out HB5.out.size hB)
    clear e10 e11 q1 q2 hB HB4 HB5
    generalize w4.heap.size = n4 at *
    obtain ⟨e10, e11⟩ := c26_of K1.out (Below.refl _ _)
    have q1 := blk_lt K1.out
    obtain ⟨e12, e13⟩ := c26_of K2.out (Below.refl _ _)
    have q2 := blk_lt K2.out
    have e20 : w6.cell? ⟨n4, 0, none⟩ = some (.int .i8 5) := (blk_cell K5.out 0).trans rfl
    have e21 : w6.cell? ⟨n4, 1, none⟩ = some (.slice AC 2 cC) := (blk_cell K5.out 1).trans rfl
    go_wp2_with fail
    refine (Same_calls T0.out TC.out).mono ?_
    rw [SA.out]
    rintro e w6b ⟨rfl, hB⟩
    replace K1 := Aside0.mk (blk_below K1.out hB)
    replace K2 := Aside0.mk (blk_below K2.out hB)
    replace K3 := Aside0.mk (blk_below K3.out hB)
    replace K4 := Aside0.mk (blk_below K4.out hB)
    replace T0 := Aside0.mk (IsT.below T0.out hB)
    replace T1 := Aside0.mk (IsT.below T1.out hB)
    replace TL := Aside0.mk (IsT.below TL.out hB)
    replace TR := Aside0.mk (IsT.below TR.out hB)
    replace HB6 := Aside0.mk (below_then HB6.out HB6.out.size hB)
    clear hB e10 e11 e12 e13 e20 e21 q1 q2 TC K5
    obtain ⟨e10, e11⟩ := c26_of K1.out (Below.refl _ _)
    have q1 := blk_lt K1.out
    obtain ⟨e12, e13⟩ := c26_of K2.out (Below.refl _ _)
    have q2 := blk_lt K2.out
    have e20 := trivial
    have e21 := trivial
    go_wp2_with fail
    refine (agree_As_calls _ t1 _ _ T1.out).mono ?_
    unfold AsPost
    rw [AS1.out]
    rintro e w7 ⟨v1, v2, rfl, hv1, hv2, hB⟩
    obtain ⟨AX, cX, rfl, hl1, hc1⟩ := hv1
    obtain ⟨AY, cY, rfl, hl2, hc2⟩ := hv2
    have TX := Aside0.mk (IsT.mk (k := X1.f0) hl1 hc1)
    have TY := Aside0.mk (IsT.mk (k := Y1.f0) hl2 hc2)
    rw [S26.eta] at TX TY
    replace K1 := Aside0.mk (blk_below K1.out hB)
    replace K2 := Aside0.mk (blk_below K2.out hB)
    replace K3 := Aside0.mk (blk_below K3.out hB)
    replace K4 := Aside0.mk (blk_below K4.out hB)
    replace T0 := Aside0.mk (IsT.below T0.out hB)
    replace T1 := Aside0.mk (IsT.below T1.out hB)
    replace TL := Aside0.mk (IsT.below TL.out hB)
    replace TR := Aside0.mk (IsT.below TR.out hB)
    have HB7 := Aside0.mk (below_then HB6.out HB6.out.size hB)
    clear hB hl1 hl2 hc1 hc2 e10 e11 e12 e13 e20 e21 q1 q2
    obtain ⟨e10, e11⟩ := c26_of K1.out (Below.refl _ _)
    have q1 := blk_lt K1.out
    obtain ⟨e12, e13⟩ := c26_of K2.out (Below.refl _ _)
    have q2 := blk_lt K2.out
    cases too with
    | false =>
      go_wp2_with fail
      have hW := below2 w7 #[.int .i8 X1.f0, .slice AX X1.f1.length cX] #[.int .i8 Y1.f0, .slice AY Y1.f1.length cY] 26 26
      have HBE := Aside0.mk (below_then HB7.out HB7.out.size hW)
      clear hW
      go_wp2_with fail
      refine (wakes6_calls _).mono ?_
      rintro e wE ⟨rfl, hB⟩
      go_wp2_with fail
      go_ret
      exact ⟨rfl, below_then HBE.out HBE.out.size hB⟩
    | true =>
      by_cases hz : (t1.f0 == 5) = true
      · obtain ⟨v, hLX, hag⟩ := HP.out hz rfl
        have AGP := Aside0.mk hag
        clear hag HP
        rcases hLX with ⟨h1, rfl⟩ | ⟨h1, h2⟩
        · have LX := Aside0.mk h1
          clear h1
          go_wp2_with fail
          have hW := below2 w7 #[.int .i8 X1.f0, .slice AX X1.f1.length cX] #[.int .i8 Y1.f0, .slice AY Y1.f1.length cY] 26 26
          have n5 := heap_alloc_new w7 (.cells #[.int .i8 X1.f0, .slice AX X1.f1.length cX] 26)
          have K6 := Aside0.mk (new2 w7 (.cells #[.int .i8 X1.f0, .slice AX X1.f1.length cX] 26) #[.int .i8 Y1.f0, .slice AY Y1.f1.length cY] 26)
          have K5 := Aside0.mk (blk_alloc n5 (.cells #[.int .i8 Y1.f0, .slice AY Y1.f1.length cY] 26))
          generalize (w7.alloc (.cells #[.int .i8 X1.f0, .slice AX X1.f1.length cX] 26)).alloc (.cells #[.int .i8 Y1.f0, .slice AY Y1.f1.length cY] 26) = W at *
          replace K1 := Aside0.mk (blk_below K1.out hW)
          replace K2 := Aside0.mk (blk_below K2.out hW)
          replace K3 := Aside0.mk (blk_below K3.out hW)
          replace K4 := Aside0.mk (blk_below K4.out hW)
          replace T0 := Aside0.mk (IsT.below T0.out hW)
          replace T1 := Aside0.mk (IsT.below T1.out hW)
          replace TL := Aside0.mk (IsT.below TL.out hW)
          replace TR := Aside0.mk (IsT.below TR.out hW)
          replace TX := Aside0.mk (IsT.below TX.out hW)
          replace TY := Aside0.mk (IsT.below TY.out hW)
          have HB8 := Aside0.mk (below_then HB7.out HB7.out.size hW)
          clear n5 hW e10 e11 e12 e13 q1 q2
          generalize w7.heap.size = n7 at *
          generalize w3.heap.size = n3 at *
          have OK := Aside0.mk (fun w' (h : Below W.heap.size W w') => (⟨c26_of K1.out h, c26_of K2.out h, c26_of K3.out h, c26_of K4.out h, c26_of K5.out h, c26_of K6.out h⟩ :
            (w'.cell? ⟨w.heap.size, 0, none⟩ = some (.int .i8 t0.f0) ∧ w'.cell? ⟨w.heap.size, 1, none⟩ = some (.slice A0 t0.f1.length c0)) ∧ (w'.cell? ⟨(w.heap.size + 1), 0, none⟩ = some (.int .i8 t1.f0) ∧ w'.cell? ⟨(w.heap.size + 1), 1, none⟩ = some (.slice A1 t1.f1.length c1)) ∧ (w'.cell? ⟨n3, 0, none⟩ = some (.int .i8 L.f0) ∧ w'.cell? ⟨n3, 1, none⟩ = some (.slice AL L.f1.length cL)) ∧ (w'.cell? ⟨(n3 + 1), 0, none⟩ = some (.int .i8 R.f0) ∧ w'.cell? ⟨(n3 + 1), 1, none⟩ = some (.slice AR R.f1.length cR)) ∧ (w'.cell? ⟨n7, 0, none⟩ = some (.int .i8 X1.f0) ∧ w'.cell? ⟨n7, 1, none⟩ = some (.slice AX X1.f1.length cX)) ∧ (w'.cell? ⟨(n7 + 1), 0, none⟩ = some (.int .i8 Y1.f0) ∧ w'.cell? ⟨(n7 + 1), 1, none⟩ = some (.slice AY Y1.f1.length cY))))
          have HBW := Aside0.mk (Below.refl W.heap.size W)
          have hsz := HB8.out.size
          clear K1 K2 K3 K4 K5 K6 HB7 HB6 AS0 AS1 AG0 SA S0 S1
          have tok1 : True := trivial
          have tok2 : True := trivial
          refine wp_region_held_drew (S := (fun w' => (w'.cell? ⟨w.heap.size, 0, none⟩ = some (.int .i8 t0.f0) ∧ w'.cell? ⟨w.heap.size, 1, none⟩ = some (.slice A0 t0.f1.length c0)) ∧ (w'.cell? ⟨(w.heap.size + 1), 0, none⟩ = some (.int .i8 t1.f0) ∧ w'.cell? ⟨(w.heap.size + 1), 1, none⟩ = some (.slice A1 t1.f1.length c1)) ∧ (w'.cell? ⟨n3, 0, none⟩ = some (.int .i8 L.f0) ∧ w'.cell? ⟨n3, 1, none⟩ = some (.slice AL L.f1.length cL)) ∧ (w'.cell? ⟨(n3 + 1), 0, none⟩ = some (.int .i8 R.f0) ∧ w'.cell? ⟨(n3 + 1), 1, none⟩ = some (.slice AR R.f1.length cR)) ∧ (w'.cell? ⟨n7, 0, none⟩ = some (.int .i8 X1.f0) ∧ w'.cell? ⟨n7, 1, none⟩ = some (.slice AX X1.f1.length cX)) ∧ (w'.cell? ⟨(n7 + 1), 0, none⟩ = some (.int .i8 Y1.f0) ∧ w'.cell? ⟨(n7 + 1), 1, none⟩ = some (.slice AY Y1.f1.length cY)))) (by kernel_rfl) (OK.out _ HBW.out.drew) (fun hHeld => ?_)
          refine takeH (d := some 85) (v := ?_) 0 rfl rfl (by kernel_rfl) (by kernel_rfl) (by kernel_rfl) (fun _ _ _ h => h) (by rfl) ?_ hHeld ?_
          rotate_left
          · intro w hSw
            try dsimp only at hSw
            go_simp <;> with_reducible rfl
          try simp only [Act.put, List.setIfInBounds_toArray, List.set_cons_zero, List.set_cons_succ]
          refine takeH (d := some 86) (v := ?_) 1 rfl rfl (by kernel_rfl) (by kernel_rfl) (by kernel_rfl) (fun _ _ _ h => h) (by rfl) ?_ hHeld ?_
          rotate_left
          · intro w hSw
            try dsimp only at hSw
            go_simp <;> with_reducible rfl
          try simp only [Act.put, List.setIfInBounds_toArray, List.set_cons_zero, List.set_cons_succ]
          refine takeH (d := some 88) (v := ?_) 3 rfl rfl (by kernel_rfl) (by kernel_rfl) (by kernel_rfl) (fun _ _ _ h => h) (by rfl) ?_ hHeld ?_
          rotate_left
          · intro w hSw
            try dsimp only at hSw
            go_simp <;> with_reducible rfl
          try simp only [Act.put, List.setIfInBounds_toArray, List.set_cons_zero, List.set_cons_succ]
          refine takeH (d := some 89) (v := ?_) 4 rfl rfl (by kernel_rfl) (by kernel_rfl) (by kernel_rfl) (fun _ _ _ h => h) (by rfl) ?_ hHeld ?_
          rotate_left
          · intro w hSw
            try dsimp only at hSw
            go_simp <;> with_reducible rfl
          try simp only [Act.put, List.setIfInBounds_toArray, List.set_cons_zero, List.set_cons_succ]
          refine wpAnyH_ready (rs := [2]) (by kernel_rfl) (by simp) ?_
          refine AllReadyH.cons rfl (fun K hK => ?_) AllReadyH.nil
          go_simp
          refine (Agree_calls (T0.out.below HBW.out.drew) (T1.out.below HBW.out.drew)).mono ?_
          rw [AGP.out]
          rintro e w2 ⟨rfl, hB⟩
          have HB2 := Aside0.mk (below_then HBW.out.drew HBW.out.drew.size hB)
          clear hB
          refine hK.out _ _ (OK.out _ HB2.out) (fun hHeld => ?_)
          clear hK K
          try simp only [Act.put, List.setIfInBounds_toArray, List.set_cons_zero, List.set_cons_succ]
          refine wpAnyH_ready (rs := [5]) (by kernel_rfl) (by simp) ?_
          refine AllReadyH.cons rfl (fun K hK => ?_) AllReadyH.nil
          go_simp
          refine (Agree_calls (TL.out.below HB2.out) (TX.out.below HB2.out)).mono ?_
          rw [LX.out]
          rintro e w3 ⟨rfl, hB⟩
          have HB3 := Aside0.mk (below_then HB2.out HB2.out.size hB)
          clear hB
          refine hK.out _ _ (OK.out _ HB3.out) (fun hHeld => ?_)
          clear hK K
          try simp only [Act.put, List.setIfInBounds_toArray, List.set_cons_zero, List.set_cons_succ]
          refine takeH (d := some 91) (v := ?_) 6 rfl rfl (by kernel_rfl) (by kernel_rfl) (by kernel_rfl) (fun _ _ _ h => h) (by rfl) ?_ hHeld ?_
          rotate_left
          · intro w hSw
            try dsimp only at hSw
            go_simp <;> with_reducible rfl
          try simp only [Act.put, List.setIfInBounds_toArray, List.set_cons_zero, List.set_cons_succ]
          refine passH (d := some 92) 7 rfl rfl (by kernel_rfl) (by kernel_rfl) (by kernel_rfl) (fun _ _ _ h => h) (by rfl) hHeld ?_
          try simp only [Act.put, List.setIfInBounds_toArray, List.set_cons_zero, List.set_cons_succ]
          refine passH (d := some 93) 8 rfl rfl (by kernel_rfl) (by kernel_rfl) (by kernel_rfl) (fun _ _ _ h => h) (by rfl) hHeld ?_
          try simp only [Act.put, List.setIfInBounds_toArray, List.set_cons_zero, List.set_cons_succ]
          refine passH (d := some 94) 9 rfl rfl (by kernel_rfl) (by kernel_rfl) (by kernel_rfl) (fun _ _ _ h => h) (by rfl) hHeld ?_
          try simp only [Act.put, List.setIfInBounds_toArray, List.set_cons_zero, List.set_cons_succ]
          refine takeH (d := some 95) (v := ?_) 10 rfl rfl (by kernel_rfl) (by kernel_rfl) (by kernel_rfl) (fun _ _ _ h => h) (by rfl) ?_ hHeld ?_
          rotate_left
          · intro w hSw
            try dsimp only at hSw
            go_simp <;> with_reducible rfl
          try simp only [Act.put, List.setIfInBounds_toArray, List.set_cons_zero, List.set_cons_succ]
          refine takeH (d := some 96) (v := ?_) 11 rfl rfl (by kernel_rfl) (by kernel_rfl) (by kernel_rfl) (fun _ _ _ h => h) (by rfl) ?_ hHeld ?_
          rotate_left
          · intro w hSw
            try dsimp only at hSw
            go_simp <;> with_reducible rfl
          try simp only [Act.put, List.setIfInBounds_toArray, List.set_cons_zero, List.set_cons_succ]
          refine takeH (d := some 97) (v := ?_) 12 rfl rfl (by kernel_rfl) (by kernel_rfl) (by kernel_rfl) (fun _ _ _ h => h) (by rfl) ?_ hHeld ?_
          rotate_left
          · intro w hSw
            try dsimp only at hSw
            go_simp <;> with_reducible rfl
          try simp only [Act.put, List.setIfInBounds_toArray, List.set_cons_zero, List.set_cons_succ]
          refine wpAnyH_ready (rs := [13]) (by kernel_rfl) (by simp) ?_
          refine AllReadyH.cons rfl (fun K hK => ?_) AllReadyH.nil
          go_simp
          refine (wakes6_calls _).mono ?_
          rintro e w6 ⟨rfl, hB⟩
          have HB5 := Aside0.mk (below_then HB3.out HB3.out.size hB)
          clear hB
          refine hK.out _ _ (OK.out _ HB5.out) (fun hHeld => ?_)
          clear hK K
          try simp only [Act.put, List.setIfInBounds_toArray, List.set_cons_zero, List.set_cons_succ]
          refine takeH (d := some 99) (v := ?_) 14 rfl rfl (by kernel_rfl) (by kernel_rfl) (by kernel_rfl) (fun _ _ _ h => h) (by rfl) ?_ hHeld ?_
          rotate_left
          · intro w hSw
            try dsimp only at hSw
            go_simp <;> with_reducible rfl
          try simp only [Act.put, List.setIfInBounds_toArray, List.set_cons_zero, List.set_cons_succ]
          refine takeH (d := some 6) (v := ?_) 15 rfl rfl (by kernel_rfl) (by kernel_rfl) (by kernel_rfl) (fun _ _ _ h => h) (by rfl) ?_ hHeld ?_
          rotate_left
          · intro w hSw
            try dsimp only at hSw
            go_simp <;> with_reducible rfl
          try simp only [Act.put, List.setIfInBounds_toArray, List.set_cons_zero, List.set_cons_succ]
          refine wpAnyH_done (by kernel_rfl) ?_ _
          go_wp2_with fail
          go_ret
          exact ⟨rfl, below_then HB8.out hsz HB5.out⟩
        · have LX := Aside0.mk h1
          have RY := Aside0.mk h2
          clear h1 h2
          go_wp2_with fail
          have hW := below2 w7 #[.int .i8 X1.f0, .slice AX X1.f1.length cX] #[.int .i8 Y1.f0, .slice AY Y1.f1.length cY] 26 26
          have n5 := heap_alloc_new w7 (.cells #[.int .i8 X1.f0, .slice AX X1.f1.length cX] 26)
          have K6 := Aside0.mk (new2 w7 (.cells #[.int .i8 X1.f0, .slice AX X1.f1.length cX] 26) #[.int .i8 Y1.f0, .slice AY Y1.f1.length cY] 26)
          have K5 := Aside0.mk (blk_alloc n5 (.cells #[.int .i8 Y1.f0, .slice AY Y1.f1.length cY] 26))
          generalize (w7.alloc (.cells #[.int .i8 X1.f0, .slice AX X1.f1.length cX] 26)).alloc (.cells #[.int .i8 Y1.f0, .slice AY Y1.f1.length cY] 26) = W at *
          replace K1 := Aside0.mk (blk_below K1.out hW)
          replace K2 := Aside0.mk (blk_below K2.out hW)
          replace K3 := Aside0.mk (blk_below K3.out hW)
          replace K4 := Aside0.mk (blk_below K4.out hW)
          replace T0 := Aside0.mk (IsT.below T0.out hW)
          replace T1 := Aside0.mk (IsT.below T1.out hW)
          replace TL := Aside0.mk (IsT.below TL.out hW)
          replace TR := Aside0.mk (IsT.below TR.out hW)
          replace TX := Aside0.mk (IsT.below TX.out hW)
          replace TY := Aside0.mk (IsT.below TY.out hW)
          have HB8 := Aside0.mk (below_then HB7.out HB7.out.size hW)
          clear n5 hW e10 e11 e12 e13 q1 q2
          generalize w7.heap.size = n7 at *
          generalize w3.heap.size = n3 at *
          have OK := Aside0.mk (fun w' (h : Below W.heap.size W w') => (⟨c26_of K1.out h, c26_of K2.out h, c26_of K3.out h, c26_of K4.out h, c26_of K5.out h, c26_of K6.out h⟩ :
            (w'.cell? ⟨w.heap.size, 0, none⟩ = some (.int .i8 t0.f0) ∧ w'.cell? ⟨w.heap.size, 1, none⟩ = some (.slice A0 t0.f1.length c0)) ∧ (w'.cell? ⟨(w.heap.size + 1), 0, none⟩ = some (.int .i8 t1.f0) ∧ w'.cell? ⟨(w.heap.size + 1), 1, none⟩ = some (.slice A1 t1.f1.length c1)) ∧ (w'.cell? ⟨n3, 0, none⟩ = some (.int .i8 L.f0) ∧ w'.cell? ⟨n3, 1, none⟩ = some (.slice AL L.f1.length cL)) ∧ (w'.cell? ⟨(n3 + 1), 0, none⟩ = some (.int .i8 R.f0) ∧ w'.cell? ⟨(n3 + 1), 1, none⟩ = some (.slice AR R.f1.length cR)) ∧ (w'.cell? ⟨n7, 0, none⟩ = some (.int .i8 X1.f0) ∧ w'.cell? ⟨n7, 1, none⟩ = some (.slice AX X1.f1.length cX)) ∧ (w'.cell? ⟨(n7 + 1), 0, none⟩ = some (.int .i8 Y1.f0) ∧ w'.cell? ⟨(n7 + 1), 1, none⟩ = some (.slice AY Y1.f1.length cY))))
          have HBW := Aside0.mk (Below.refl W.heap.size W)
          have hsz := HB8.out.size
          clear K1 K2 K3 K4 K5 K6 HB7 HB6 AS0 AS1 AG0 SA S0 S1
          have tok1 : True := trivial
          have tok2 : True := trivial
          go_region_held3 (fun w' => (w'.cell? ⟨w.heap.size, 0, none⟩ = some (.int .i8 t0.f0) ∧ w'.cell? ⟨w.heap.size, 1, none⟩ = some (.slice A0 t0.f1.length c0)) ∧ (w'.cell? ⟨(w.heap.size + 1), 0, none⟩ = some (.int .i8 t1.f0) ∧ w'.cell? ⟨(w.heap.size + 1), 1, none⟩ = some (.slice A1 t1.f1.length c1)) ∧ (w'.cell? ⟨n3, 0, none⟩ = some (.int .i8 L.f0) ∧ w'.cell? ⟨n3, 1, none⟩ = some (.slice AL L.f1.length cL)) ∧ (w'.cell? ⟨(n3 + 1), 0, none⟩ = some (.int .i8 R.f0) ∧ w'.cell? ⟨(n3 + 1), 1, none⟩ = some (.slice AR R.f1.length cR)) ∧ (w'.cell? ⟨n7, 0, none⟩ = some (.int .i8 X1.f0) ∧ w'.cell? ⟨n7, 1, none⟩ = some (.slice AX X1.f1.length cX)) ∧ (w'.cell? ⟨(n7 + 1), 0, none⟩ = some (.int .i8 Y1.f0) ∧ w'.cell? ⟨(n7 + 1), 1, none⟩ = some (.slice AY Y1.f1.length cY)))
            (first | exact OK.out _ HBW.out | exact OK.out _ HBW.out.drew | exact OK.out _ HB2.out | exact OK.out _ HB3.out | exact OK.out _ HB4.out | exact OK.out _ HB5.out)
            (first
              | (go_at_call 24; have _t := tok1; refine (Agree_calls (T0.out.below HBW.out.drew) (T1.out.below HBW.out.drew)).mono ?_; rw [AGP.out]; rintro e w2 ⟨rfl, hB⟩; clear tok1; have HB2 := Aside0.mk (below_then HBW.out.drew HBW.out.drew.size hB); clear hB)
              | (go_at_call 24; have _t := tok2; refine (Agree_calls (TL.out.below HB2.out) (TX.out.below HB2.out)).mono ?_; rw [LX.out]; rintro e w3 ⟨rfl, hB⟩; clear tok2; have HB3 := Aside0.mk (below_then HB2.out HB2.out.size hB); clear hB)
              | (go_at_call 24; refine (Agree_calls (TR.out.below HB3.out) (TY.out.below HB3.out)).mono ?_; rw [RY.out]; rintro e w4 ⟨rfl, hB⟩; have HB4 := Aside0.mk (below_then HB3.out HB3.out.size hB); clear hB)
              | (go_at_call 27; refine (wakes6_calls _).mono ?_; rintro e w6 ⟨rfl, hB⟩; have HB5 := Aside0.mk (below_then HB4.out HB4.out.size hB); clear hB))
          go_wp2_with fail
          go_ret
          exact ⟨rfl, below_then HB8.out hsz HB5.out⟩
      · have hz' : (t1.f0 == 5) = false := by simpa using hz
        clear hz HP
        go_wp2_with fail
        have hW := below2 w7 #[.int .i8 X1.f0, .slice AX X1.f1.length cX] #[.int .i8 Y1.f0, .slice AY Y1.f1.length cY] 26 26
        have HBE := Aside0.mk (below_then HB7.out HB7.out.size hW)
        clear hW
        go_wp2_with fail
        refine (wakes6_calls _).mono ?_
        rintro e wE ⟨rfl, hB⟩
        go_wp2_with fail
        go_ret
        exact ⟨rfl, below_then HBE.out HBE.out.size hB⟩
end Go.Proofs.Ytamhdpllmhafhaa.X
