/- The walk of the law AgreeParts. -/
import Derived.Test.YtamhdpllmhafhaaHWakes6
import Derived.Test.YtamhdpllmhafhaaPureAgree
import Derived.Test.YtamhdpllmhafhaaHSmall
import Derived.Test.YtamhdpllmhafhaaWkAgreePartsY
import Derived.Test.YtamhdpllmhafhaaWkAgreePartsZ
namespace Go.Proofs.Ytamhdpllmhafhaa.X
open Go.RowKit Go.Proofs.YtamhdpllmhafhaaW.PrintWords Go.Proofs.YtamhdpllmhafhaaW.PrintLast Go.Proofs.YtamhdpllmhafhaaW.PrintMore
set_option linter.unusedVariables false
set_option linter.unusedSimpArgs false

set_option maxRecDepth 100000 in
set_option maxHeartbeats 1600000 in
theorem agreeParts_big (t0 t1 : S26) (kind : Int) (w : World) (A0 : Option Addr) (c0 : Nat) (A1 : Option Addr) (c1 : Nat) (T0 : Aside0 (IsT w (.agg #[.int .i8 t0.f0, .slice A0 t0.f1.length c0]) t0)) (T1 : Aside0 (IsT w (.agg #[.int .i8 t1.f0, .slice A1 t1.f1.length c1]) t1))
    (h : smallB t0 = false ∨ smallB t0 = true ∧ smallB t1 = false) :
    Calls Try.prog 6 #[.agg #[.int .i8 t0.f0, .slice A0 t0.f1.length c0], .agg #[.int .i8 t1.f0, .slice A1 t1.f1.length c1], .int .i8 kind] w fun e w' => e = .returned (.bool true) ∧ Below w.heap.size w w' := by
  rcases h with h | ⟨h, h'⟩
  · have S0 := Aside0.mk h
    clear h
    go_enter Try.func6, Try.ntmps6
    go_wp2_with fail
    refine (Small_calls (T0.out.below (below2 ..))).mono ?_
    rw [S0.out]
    rintro e w1 ⟨rfl, hB⟩
    obtain ⟨b1, b2, hB1⟩ := two_blocks hB
    have HB1 := Aside0.mk hB1
    have K1 := Aside0.mk b1
    have K2 := Aside0.mk b2
    replace T0 := Aside0.mk (IsT.below T0.out hB1)
    replace T1 := Aside0.mk (IsT.below T1.out hB1)
    clear hB hB1 b1 b2
    obtain ⟨e10, e11⟩ := c26_of K1.out (Below.refl _ _)
    have q1 := blk_lt K1.out
    obtain ⟨e20, e21⟩ := c26_of K2.out (Below.refl _ _)
    have q2 := blk_lt K2.out
    have HBE := HB1
    clear e10 e11 e20 e21 K1 K2
    go_wp2_with fail
    refine (wakes6_calls _).mono ?_
    rintro e wE ⟨rfl, hB⟩
    go_wp2_with fail
    go_ret
    exact ⟨rfl, below_then HBE.out HBE.out.size hB⟩
  · have S0 := Aside0.mk h
    have S1 := Aside0.mk h'
    clear h h'
    go_enter Try.func6, Try.ntmps6
    go_wp2_with fail
    refine (Small_calls (T0.out.below (below2 ..))).mono ?_
    rw [S0.out]
    rintro e w1 ⟨rfl, hB⟩
    obtain ⟨b1, b2, hB1⟩ := two_blocks hB
    have HB1 := Aside0.mk hB1
    have K1 := Aside0.mk b1
    have K2 := Aside0.mk b2
    replace T0 := Aside0.mk (IsT.below T0.out hB1)
    replace T1 := Aside0.mk (IsT.below T1.out hB1)
    clear hB hB1 b1 b2
    obtain ⟨e10, e11⟩ := c26_of K1.out (Below.refl _ _)
    have q1 := blk_lt K1.out
    obtain ⟨e20, e21⟩ := c26_of K2.out (Below.refl _ _)
    have q2 := blk_lt K2.out
    go_wp2_with fail
    refine (Small_calls T1.out).mono ?_
    rw [S1.out]
    rintro e w2 ⟨rfl, hB⟩
    have HBE := Aside0.mk (below_then HB1.out HB1.out.size hB)
    clear e10 e11 e20 e21 K1 K2 hB
    go_wp2_with fail
    refine (wakes6_calls _).mono ?_
    rintro e wE ⟨rfl, hB⟩
    go_wp2_with fail
    go_ret
    exact ⟨rfl, below_then HBE.out HBE.out.size hB⟩
set_option maxRecDepth 100000 in
set_option maxHeartbeats 1600000 in
theorem agreeParts_no (t0 t1 L R : S26) (kind : Int) (w : World) (A0 : Option Addr) (c0 : Nat) (A1 : Option Addr) (c1 : Nat) (T0 : Aside0 (IsT w (.agg #[.int .i8 t0.f0, .slice A0 t0.f1.length c0]) t0)) (T1 : Aside0 (IsT w (.agg #[.int .i8 t1.f0, .slice A1 t1.f1.length c1]) t1))
    (S0 : Aside0 (smallB t0 = true)) (S1 : Aside0 (smallB t1 = true)) (AS0 : Aside0 (asT kind t0 = (L, R, false))) :
    Calls Try.prog 6 #[.agg #[.int .i8 t0.f0, .slice A0 t0.f1.length c0], .agg #[.int .i8 t1.f0, .slice A1 t1.f1.length c1], .int .i8 kind] w fun e w' => e = .returned (.bool true) ∧ Below w.heap.size w w' := by
  obtain ⟨X1, Y1, too, hb⟩ : ∃ X1 Y1 too, asT kind t1 = (X1, Y1, too) := ⟨_, _, _, rfl⟩
  have AS1 := Aside0.mk hb
  clear hb
  go_enter Try.func6, Try.ntmps6
  go_wp2_with fail
  refine (Small_calls (T0.out.below (below2 ..))).mono ?_
  rw [S0.out]
  rintro e w1 ⟨rfl, hB⟩
  obtain ⟨b1, b2, hB1⟩ := two_blocks hB
  have HB1 := Aside0.mk hB1
  have K1 := Aside0.mk b1
  have K2 := Aside0.mk b2
  replace T0 := Aside0.mk (IsT.below T0.out hB1)
  replace T1 := Aside0.mk (IsT.below T1.out hB1)
  clear hB hB1 b1 b2
  obtain ⟨e10, e11⟩ := c26_of K1.out (Below.refl _ _)
  have q1 := blk_lt K1.out
  obtain ⟨e20, e21⟩ := c26_of K2.out (Below.refl _ _)
  have q2 := blk_lt K2.out
  go_wp2_with fail
  refine (Small_calls T1.out).mono ?_
  rw [S1.out]
  rintro e w2 ⟨rfl, hB⟩
  replace K1 := Aside0.mk (blk_below K1.out hB)
  replace K2 := Aside0.mk (blk_below K2.out hB)
  replace T0 := Aside0.mk (IsT.below T0.out hB)
  replace T1 := Aside0.mk (IsT.below T1.out hB)
  have HB2 := Aside0.mk (below_then HB1.out HB1.out.size hB)
  clear e10 e11 e20 e21 q1 q2 hB HB1
  obtain ⟨e10, e11⟩ := c26_of K1.out (Below.refl _ _)
  have q1 := blk_lt K1.out
  go_wp2_with fail
  refine (agree_As_calls _ t0 _ _ T0.out).mono ?_
  unfold AsPost
  rw [AS0.out]
  rintro e w3 ⟨v1, v2, rfl, hv1, hv2, hB⟩
  obtain ⟨AL, cL, rfl, hl1, hc1⟩ := hv1
  obtain ⟨AR, cR, rfl, hl2, hc2⟩ := hv2
  have TL := Aside0.mk (IsT.mk (k := L.f0) hl1 hc1)
  have TR := Aside0.mk (IsT.mk (k := R.f0) hl2 hc2)
  rw [S26.eta] at TL TR
  replace K1 := Aside0.mk (blk_below K1.out hB)
  replace K2 := Aside0.mk (blk_below K2.out hB)
  replace T0 := Aside0.mk (IsT.below T0.out hB)
  replace T1 := Aside0.mk (IsT.below T1.out hB)
  have HB3 := Aside0.mk (below_then HB2.out HB2.out.size hB)
  clear e10 e11 q1 hB HB2 hl1 hl2 hc1 hc2
  obtain ⟨e20, e21⟩ := c26_of K2.out (Below.refl _ _)
  have q2 := blk_lt K2.out
  have q1 := blk_lt K1.out
  go_wp2_with fail
  have hW := below2 w3 #[.int .i8 L.f0, .slice AL L.f1.length cL] #[.int .i8 R.f0, .slice AR R.f1.length cR] 26 26
  replace T0 := Aside0.mk (IsT.below T0.out hW)
  replace T1 := Aside0.mk (IsT.below T1.out hW)
  replace TL := Aside0.mk (IsT.below TL.out hW)
  replace TR := Aside0.mk (IsT.below TR.out hW)
  replace K1 := Aside0.mk (blk_below K1.out hW)
  replace K2 := Aside0.mk (blk_below K2.out hW)
  have HB4 := Aside0.mk (below_then HB3.out HB3.out.size hW)
  clear hW
  refine (agree_As_calls _ t1 _ _ T1.out).mono ?_
  unfold AsPost
  rw [AS1.out]
  rintro e w5 ⟨v1, v2, rfl, hv1, hv2, hB⟩
  obtain ⟨AX, cX, rfl, hl1, hc1⟩ := hv1
  obtain ⟨AY, cY, rfl, hl2, hc2⟩ := hv2
  have TX := Aside0.mk (IsT.mk (k := X1.f0) hl1 hc1)
  have TY := Aside0.mk (IsT.mk (k := Y1.f0) hl2 hc2)
  rw [S26.eta] at TX TY
  replace K1 := Aside0.mk (blk_below K1.out hB)
  replace K2 := Aside0.mk (blk_below K2.out hB)
  have HB5 := Aside0.mk (below_then HB4.out HB4.out.size hB)
  clear e20 e21 q1 q2
  obtain ⟨e10, e11⟩ := c26_of K1.out (Below.refl _ _)
  have q1 := blk_lt K1.out
  obtain ⟨e20, e21⟩ := c26_of K2.out (Below.refl _ _)
  have q2 := blk_lt K2.out
  clear hB hl1 hl2 hc1 hc2
  have hW := below2 w5 #[.int .i8 X1.f0, .slice AX X1.f1.length cX] #[.int .i8 Y1.f0, .slice AY Y1.f1.length cY] 26 26
  have HBE := Aside0.mk (below_then HB5.out HB5.out.size hW)
  clear hW
  go_wp2_with fail
  refine (wakes6_calls _).mono ?_
  rintro e wE ⟨rfl, hB⟩
  go_wp2_with fail
  go_ret
  exact ⟨rfl, below_then HBE.out HBE.out.size hB⟩

theorem agreeParts_walk (u0 : Value) (t0 : S26) (u1 : Value) (t1 : S26) (kind : Int) (w : World) (h0 : IsT w u0 t0) (h1 : IsT w u1 t1) :
    Calls Try.prog 6 #[u0, u1, .int .i8 kind] w fun e w' => e = .returned (.bool true) ∧ Below w.heap.size w w' := by
  have T0 := Aside0.mk h0
  have T1 := Aside0.mk h1
  obtain ⟨A0, c0, rfl, _, _⟩ := h0
  obtain ⟨A1, c1, rfl, _, _⟩ := h1
  cases s0 : smallB t0 with
  | false => exact agreeParts_big t0 t1 kind w A0 c0 A1 c1 T0 T1 (.inl s0)
  | true =>
    cases s1 : smallB t1 with
    | false => exact agreeParts_big t0 t1 kind w A0 c0 A1 c1 T0 T1 (.inr ⟨s0, s1⟩)
    | true =>
      obtain ⟨L, R, ok, ha⟩ : ∃ L R ok, asT kind t0 = (L, R, ok) := ⟨_, _, _, rfl⟩
      cases ok with
      | false => exact agreeParts_no t0 t1 L R kind w A0 c0 A1 c1 T0 T1 (Aside0.mk s0) (Aside0.mk s1) (Aside0.mk ha)
      | true =>
        obtain ⟨hk, hg, ⟨z1, z2⟩ | ⟨z1, z2, hs, he, hc⟩⟩ := as_facts ha
        · exact agreeParts_zero t0 t1 L R kind w A0 c0 A1 c1 T0 T1 (Aside0.mk s0) (Aside0.mk s1) (Aside0.mk ha) (Aside0.mk hg) z1 z2 hk
        · exact agreeParts_two t0 t1 L R kind w A0 c0 A1 c1 T0 T1 (Aside0.mk s0) (Aside0.mk s1) (Aside0.mk ha) (Aside0.mk hg) z1 z2 (Aside0.mk hs) (Aside0.mk ⟨he, hc⟩) hk
end Go.Proofs.Ytamhdpllmhafhaa.X
