/- Texts of this claim, joined: HCo9, HCo12. -/
import Derived.Test.YtjmpejbciniceaaDoorKCoerceCheck8
namespace Go.Proofs.YtjmpejbciniceaaDoor.X
open Go.RowKit Go.Proofs.YtjmpejbciniceaaDoorW.PrintWords Go.Proofs.YtjmpejbciniceaaDoorW.PrintLast Go.Proofs.YtjmpejbciniceaaDoorW.PrintMore
set_option linter.unusedVariables false
set_option linter.unusedSimpArgs false
def PartsPost (r : Option (S43 × S43)) (w : World) (e : Ending) (w' : World) : Prop := ∃ va vb ta tb, e = .returned (.tuple #[va, vb, .bool r.isSome]) ∧ IsT w' va ta ∧ IsT w' vb tb ∧ (r.isSome = true → r = some (ta, tb)) ∧ rightB ta = true ∧ rightB tb = true ∧ Below w.heap.size w w'
set_option maxRecDepth 100000 in
set_option maxHeartbeats 6400000 in
theorem rparts_calls {p q : S54} (HP0 : ∀ (v : Value) (w : World), IsC w v p → Calls Tryd.prog 50 #[v] w (EndsPost p w)) (HQ0 : ∀ (v : Value) (w : World), IsC w v q → Calls Tryd.prog 50 #[v] w (EndsPost q w)) {x : S54} {v : Value} {w : World} (hx : IsC w v x) (hl : x.f5 = [p, q]) : Calls Tryd.prog 101 #[v] w (PartsPost (partsC x.f0 p q) w) := by
  have HP := Aside0.mk HP0
  have HQ := Aside0.mk HQ0
  clear HP0 HQ0
  obtain ⟨A2, c2, A4, c4, A7, c7, rfl, -, -, -, -, -, hC⟩ := hx
  have hlen : x.f5.length = 2 := by rw [hl]; rfl
  rw [hlen] at hC ⊢
  clear hlen
  obtain ⟨q0, q1, q2, hB⟩ := three w (.cells #[.int .i8 x.f0, .int .i8 x.f1.f0, .slice A2 x.f1.f1.length c2, .int .i8 x.f2.f0, .slice A4 x.f2.f1.length c4, .int .i64 x.f3, .bool x.f4, .slice A7 2 c7] 54) (.cells #[.int .i8 0, .slice none 0 0] 43) (.cells #[.int .i8 0, .slice none 0 0] 43)
  have K0 := Aside0.mk q0
  have K1 := Aside0.mk q1
  have K2 := Aside0.mk q2
  have HW := Aside0.mk hB
  have HC := Aside0.mk (Kd.C_below hC hB)
  clear q0 q1 q2 hB hC
  go_enter Tryd.func101, Tryd.ntmps101
  obtain ⟨ad, P2, Pn2, P4, Pn4, P7, Pn7, rfl, ⟨k0, k1, k2, k3, k4, k5, k6, k7⟩, hP⟩ := kid_at HC.out 0 (by omega) (by omega) (x := p) (by rw [hl]; rfl)
  simp [Addr.add] at k0 k1 k2 k3 k4 k5 k6 k7
  have HX := Aside0.mk hP
  clear hP
  go_wp2_with fail
  generalize ((w.alloc (.cells #[.int .i8 x.f0, .int .i8 x.f1.f0, .slice A2 x.f1.f1.length c2, .int .i8 x.f2.f0, .slice A4 x.f2.f1.length c4, .int .i64 x.f3, .bool x.f4, .slice (some ad) 2 c7] 54)).alloc (.cells #[.int .i8 0, .slice none 0 0] 43)).alloc (.cells #[.int .i8 0, .slice none 0 0] 43) = wa at *
  clear k0 k1 k2 k3 k4 k5 k6 k7
  refine (HP.out _ _ HX.out).mono ?_
  clear HX
  rintro e w3 ⟨va, vb, ta, tb, rfl, hta, htb, hima, Ra, Rb, hB⟩
  replace K0 := Aside0.mk (blk_below K0.out hB)
  replace K1 := Aside0.mk (blk_below K1.out hB)
  replace K2 := Aside0.mk (blk_below K2.out hB)
  replace HC := Aside0.mk (Kd.C_below HC.out hB)
  replace HW := Aside0.mk (below_then HW.out HW.out.size hB)
  clear hB
  have HTA := Aside0.mk hta
  have HTB := Aside0.mk htb
  have HIA := Aside0.mk hima
  clear hima
  obtain ⟨Pa, pa, rfl, -⟩ := hta
  obtain ⟨Pb, pb, rfl, -⟩ := htb
  have hn3 := blk_lt K2.out
  obtain ⟨q1, q2, hB⟩ := two_ w3 (.cells #[.int .i8 ta.f0, .slice Pa ta.f1.length pa] 43) (.cells #[.int .i8 tb.f0, .slice Pb tb.f1.length pb] 43)
  have KA := Aside0.mk q1
  have KB := Aside0.mk q2
  clear q1 q2
  replace K0 := Aside0.mk (blk_below K0.out hB)
  replace K1 := Aside0.mk (blk_below K1.out hB)
  replace K2 := Aside0.mk (blk_below K2.out hB)
  replace HTA := Aside0.mk (HTA.out.below hB)
  replace HTB := Aside0.mk (HTB.out.below hB)
  replace HC := Aside0.mk (Kd.C_below HC.out hB)
  replace HW := Aside0.mk (below_then HW.out HW.out.size hB)
  clear hB
  cases hsp : (endsC p).isSome with
  | false =>
    obtain ⟨ad', Q2, Qn2, Q4, Qn4, Q7, Qn7, e', ⟨k0, k1, k2, k3, k4, k5, k6, k7⟩, hP⟩ := kid_at HC.out 1 (by omega) (by omega) (x := q) (by rw [hl]; rfl)
    cases e'
    simp [Addr.add] at k0 k1 k2 k3 k4 k5 k6 k7
    have HX := Aside0.mk hP
    clear hP
    have b7 := (blk_cell K0.out 7).trans rfl
    simp at b7
    go_wp2_with fail
    generalize (w3.alloc (.cells #[.int .i8 ta.f0, .slice Pa ta.f1.length pa] 43)).alloc (.cells #[.int .i8 tb.f0, .slice Pb tb.f1.length pb] 43) = wb at *
    generalize w3.heap.size = n3 at *
    clear k0 k1 k2 k3 k4 k5 k6 k7 b7
    refine (HQ.out _ _ HX.out).mono ?_
    clear HX
    rintro e w4 ⟨vc, vd, tc, td, rfl, htc, htd, himc, Rc, Rd, hB⟩
    replace K0 := Aside0.mk (blk_below K0.out hB)
    replace K1 := Aside0.mk (blk_below K1.out hB)
    replace K2 := Aside0.mk (blk_below K2.out hB)
    replace KA := Aside0.mk (blk_below KA.out hB)
    replace KB := Aside0.mk (blk_below KB.out hB)
    replace HTA := Aside0.mk (HTA.out.below hB)
    replace HTB := Aside0.mk (HTB.out.below hB)
    replace HC := Aside0.mk (Kd.C_below HC.out hB)
    replace HW := Aside0.mk (below_then HW.out HW.out.size hB)
    clear hB
    have HTC := Aside0.mk htc
    have HTD := Aside0.mk htd
    have HIC := Aside0.mk himc
    clear himc
    obtain ⟨Pc, pc, rfl, -⟩ := htc
    obtain ⟨Pd, pd, rfl, -⟩ := htd
    have hn4 := blk_lt KB.out
    obtain ⟨q1, q2, hB⟩ := two_ w4 (.cells #[.int .i8 tc.f0, .slice Pc tc.f1.length pc] 43) (.cells #[.int .i8 td.f0, .slice Pd td.f1.length pd] 43)
    have KC := Aside0.mk q1
    have KD := Aside0.mk q2
    clear q1 q2
    replace K0 := Aside0.mk (blk_below K0.out hB)
    replace K1 := Aside0.mk (blk_below K1.out hB)
    replace K2 := Aside0.mk (blk_below K2.out hB)
    replace KA := Aside0.mk (blk_below KA.out hB)
    replace KB := Aside0.mk (blk_below KB.out hB)
    replace HTA := Aside0.mk (HTA.out.below hB)
    replace HTB := Aside0.mk (HTB.out.below hB)
    replace HTC := Aside0.mk (HTC.out.below hB)
    replace HTD := Aside0.mk (HTD.out.below hB)
    replace HC := Aside0.mk (Kd.C_below HC.out hB)
    replace HW := Aside0.mk (below_then HW.out HW.out.size hB)
    clear hB
    have hr : partsC x.f0 p q = none := by
      have h1 : endsC p = none := by simpa using hsp
      unfold partsC
      rw [h1]
    obtain ⟨c0, c1, z0, z1⟩ := cells2 K1.out
    obtain ⟨d0, d1, y0, y1⟩ := cells2 K2.out
    go_wp2_with fail
    exact retP K1.out K2.out (by omega) (by rw [hr]; exact ⟨_, _, z43, z43, rfl, IsT.zero _, IsT.zero _, fun h => absurd h (by decide), rfl, rfl, bFar rfl (bFar rfl HW.out (by omega)) (by omega)⟩)
  | true =>
    obtain ⟨ad', Q2, Qn2, Q4, Qn4, Q7, Qn7, e', ⟨k0, k1, k2, k3, k4, k5, k6, k7⟩, hP⟩ := kid_at HC.out 1 (by omega) (by omega) (x := q) (by rw [hl]; rfl)
    cases e'
    simp [Addr.add] at k0 k1 k2 k3 k4 k5 k6 k7
    have HX := Aside0.mk hP
    clear hP
    have b7 := (blk_cell K0.out 7).trans rfl
    simp at b7
    go_wp2_with fail
    generalize (w3.alloc (.cells #[.int .i8 ta.f0, .slice Pa ta.f1.length pa] 43)).alloc (.cells #[.int .i8 tb.f0, .slice Pb tb.f1.length pb] 43) = wb at *
    generalize w3.heap.size = n3 at *
    clear k0 k1 k2 k3 k4 k5 k6 k7 b7
    refine (HQ.out _ _ HX.out).mono ?_
    clear HX
    rintro e w4 ⟨vc, vd, tc, td, rfl, htc, htd, himc, Rc, Rd, hB⟩
    replace K0 := Aside0.mk (blk_below K0.out hB)
    replace K1 := Aside0.mk (blk_below K1.out hB)
    replace K2 := Aside0.mk (blk_below K2.out hB)
    replace KA := Aside0.mk (blk_below KA.out hB)
    replace KB := Aside0.mk (blk_below KB.out hB)
    replace HTA := Aside0.mk (HTA.out.below hB)
    replace HTB := Aside0.mk (HTB.out.below hB)
    replace HC := Aside0.mk (Kd.C_below HC.out hB)
    replace HW := Aside0.mk (below_then HW.out HW.out.size hB)
    clear hB
    have HTC := Aside0.mk htc
    have HTD := Aside0.mk htd
    have HIC := Aside0.mk himc
    clear himc
    obtain ⟨Pc, pc, rfl, -⟩ := htc
    obtain ⟨Pd, pd, rfl, -⟩ := htd
    have hn4 := blk_lt KB.out
    obtain ⟨q1, q2, hB⟩ := two_ w4 (.cells #[.int .i8 tc.f0, .slice Pc tc.f1.length pc] 43) (.cells #[.int .i8 td.f0, .slice Pd td.f1.length pd] 43)
    have KC := Aside0.mk q1
    have KD := Aside0.mk q2
    clear q1 q2
    replace K0 := Aside0.mk (blk_below K0.out hB)
    replace K1 := Aside0.mk (blk_below K1.out hB)
    replace K2 := Aside0.mk (blk_below K2.out hB)
    replace KA := Aside0.mk (blk_below KA.out hB)
    replace KB := Aside0.mk (blk_below KB.out hB)
    replace HTA := Aside0.mk (HTA.out.below hB)
    replace HTB := Aside0.mk (HTB.out.below hB)
    replace HTC := Aside0.mk (HTC.out.below hB)
    replace HTD := Aside0.mk (HTD.out.below hB)
    replace HC := Aside0.mk (Kd.C_below HC.out hB)
    replace HW := Aside0.mk (below_then HW.out HW.out.size hB)
    clear hB
    cases hsq : (endsC q).isSome with
    | false =>
      have hr : partsC x.f0 p q = none := by
        have h1 : endsC q = none := by simpa using hsq
        unfold partsC
        rw [h1]
        cases endsC p <;> rfl
      obtain ⟨c0, c1, z0, z1⟩ := cells2 K1.out
      obtain ⟨d0, d1, y0, y1⟩ := cells2 K2.out
      go_wp2_with fail
      exact retP K1.out K2.out (by omega) (by rw [hr]; exact ⟨_, _, z43, z43, rfl, IsT.zero _, IsT.zero _, fun h => absurd h (by decide), rfl, rfl, bFar rfl (bFar rfl HW.out (by omega)) (by omega)⟩)
    | true =>
      have e1 := HIA.out hsp
      have e2 := HIC.out hsq
      have HR0 : Aside0 (partsC x.f0 p q = joinC x.f0 ta tb tc td) := .mk (by rw [partsC, e1, e2])
      clear HIA HIC e1 e2
      by_cases h4 : x.f0 = 4
      · have hr : partsC x.f0 p q = some (⟨3, [tb, tc]⟩, ⟨3, [ta, td]⟩) := by rw [HR0.out]; simp [joinC, h4]
        have gk : (x.f0 == 4) = true := beq_iff_eq.mpr h4
        clear h4
        obtain ⟨b0, b1, b2, b3, b4, b5, b6, b7⟩ := cells8 K0.out
        go_wp2_with fail
        clear b0 b1 b2 b3 b4 b5 b6 b7
        generalize (w4.alloc (.cells #[.int .i8 tc.f0, .slice Pc tc.f1.length pc] 43)).alloc (.cells #[.int .i8 td.f0, .slice Pd td.f1.length pd] 43) = w5 at *
        generalize w4.heap.size = n4 at *
        refine wp_region_held_drew (S := fun w' => w'.cell? ⟨n3, 0, none⟩ = some (.int .i8 ta.f0) ∧ w'.cell? ⟨n3, 1, none⟩ = some (.slice Pa ta.f1.length pa) ∧ w'.cell? ⟨n3 + 1, 0, none⟩ = some (.int .i8 tb.f0) ∧ w'.cell? ⟨n3 + 1, 1, none⟩ = some (.slice Pb tb.f1.length pb) ∧ w'.cell? ⟨n4, 0, none⟩ = some (.int .i8 tc.f0) ∧ w'.cell? ⟨n4, 1, none⟩ = some (.slice Pc tc.f1.length pc) ∧ w'.cell? ⟨n4 + 1, 0, none⟩ = some (.int .i8 td.f0) ∧ w'.cell? ⟨n4 + 1, 1, none⟩ = some (.slice Pd td.f1.length pd)) (by kernel_rfl) ⟨bcl KA.out, bcl KA.out, bcl KB.out, bcl KB.out, bcl KC.out, bcl KC.out, bcl KD.out, bcl KD.out⟩ (fun hHeld => ?_)
        have HZ := Aside0.mk ((Below.refl w5.heap.size w5).drew)
        replace HW := Aside0.mk (below_then HW.out HW.out.size HZ.out)
        generalize w5.drew = w6 at *
        refine tK 41 0 hHeld ?_
        refine tK 42 1 hHeld ?_
        refine tK 44 3 hHeld ?_
        refine tK 45 4 hHeld ?_
        refine cK 43 2 (pair_calls (k := 3) (HTB.out.below HZ.out) (HTC.out.below HZ.out)) ?_
        rintro e w7 ⟨v1, rfl, hv1, hB⟩
        replace HZ := Aside0.mk (below_then HZ.out HZ.out.size hB)
        replace HW := Aside0.mk (below_then HW.out HW.out.size hB)
        have HR1 := Aside0.mk hv1
        clear hv1
        refine ⟨_, rfl, ⟨pwc hB hHeld.1, pwc hB hHeld.2.1, pwc hB hHeld.2.2.1, pwc hB hHeld.2.2.2.1, pwc hB hHeld.2.2.2.2.1, pwc hB hHeld.2.2.2.2.2.1, pwc hB hHeld.2.2.2.2.2.2.1, pwc hB hHeld.2.2.2.2.2.2.2⟩, fun hHeld => nA ?_⟩
        clear hB
        refine cK 46 5 (pair_calls (k := 3) (HTA.out.below HZ.out) (HTD.out.below HZ.out)) ?_
        rintro e w8 ⟨v2, rfl, hv2, hB⟩
        replace HZ := Aside0.mk (below_then HZ.out HZ.out.size hB)
        replace HW := Aside0.mk (below_then HW.out HW.out.size hB)
        replace HR1 := Aside0.mk (HR1.out.below hB)
        have HR2 := Aside0.mk hv2
        clear hv2
        refine ⟨_, rfl, ⟨pwc hB hHeld.1, pwc hB hHeld.2.1, pwc hB hHeld.2.2.1, pwc hB hHeld.2.2.2.1, pwc hB hHeld.2.2.2.2.1, pwc hB hHeld.2.2.2.2.2.1, pwc hB hHeld.2.2.2.2.2.2.1, pwc hB hHeld.2.2.2.2.2.2.2⟩, fun hHeld => nA ?_⟩
        clear hB
        have hr1 := pair_right (k := 3) rfl Rb Rc
        have hr2 := pair_right (k := 3) rfl Ra Rd
        have HR1' := HR1.out
        have HR2' := HR2.out
        obtain ⟨M1, m1, rfl, -⟩ := HR1'
        obtain ⟨M2, m2, rfl, -⟩ := HR2'
        replace K1 := Aside0.mk (blk_below K1.out HZ.out)
        replace K2 := Aside0.mk (blk_below K2.out HZ.out)
        clear HZ
        refine sK 6 K1.out ⟨far2 hHeld.1 (by omega), far2 hHeld.2.1 (by omega), far2 hHeld.2.2.1 (by omega), far2 hHeld.2.2.2.1 (by omega), far2 hHeld.2.2.2.2.1 (by omega), far2 hHeld.2.2.2.2.2.1 (by omega), far2 hHeld.2.2.2.2.2.2.1 (by omega), far2 hHeld.2.2.2.2.2.2.2 (by omega)⟩ fun w9 hHeld hp => ?_
        replace HR1 := Aside0.mk (tFar hp K1.out hr1 HR1.out)
        replace HR2 := Aside0.mk (tFar hp K1.out hr2 HR2.out)
        replace K2 := Aside0.mk (kFar hp K2.out (by omega))
        replace K1 := Aside0.mk (kOwn hp K1.out)
        replace HW := Aside0.mk (bFar hp HW.out (by omega))
        clear hp
        refine sK 7 K2.out ⟨far2 hHeld.1 (by omega), far2 hHeld.2.1 (by omega), far2 hHeld.2.2.1 (by omega), far2 hHeld.2.2.2.1 (by omega), far2 hHeld.2.2.2.2.1 (by omega), far2 hHeld.2.2.2.2.2.1 (by omega), far2 hHeld.2.2.2.2.2.2.1 (by omega), far2 hHeld.2.2.2.2.2.2.2 (by omega)⟩ fun w10 hHeld hp => ?_
        replace HR1 := Aside0.mk (tFar hp K2.out hr1 HR1.out)
        replace HR2 := Aside0.mk (tFar hp K2.out hr2 HR2.out)
        replace K1 := Aside0.mk (kFar hp K1.out (by omega))
        replace K2 := Aside0.mk (kOwn hp K2.out)
        replace HW := Aside0.mk (bFar hp HW.out (by omega))
        clear hp
        refine tK 4 8 hHeld ?_
        refine wpAnyH_done (by kernel_rfl) ?_ _
        go_wp2_with fail
        exact retK K1.out K2.out (by (try rw [hr]); exact ⟨_, _, _, _, rfl, HR1.out, HR2.out, fun _ => rfl, hr1, hr2, HW.out⟩)
      by_cases h5 : x.f0 = 5
      · have hr : partsC x.f0 p q = some (⟨4, [ta, tc]⟩, ⟨4, [tb, td]⟩) := by rw [HR0.out]; simp [joinC, h5]
        have gk4 : (x.f0 == 4) = false := beq_eq_false_iff_ne.mpr h4
        have gk : (x.f0 == 5) = true := beq_iff_eq.mpr h5
        clear h4 h5
        obtain ⟨b0, b1, b2, b3, b4, b5, b6, b7⟩ := cells8 K0.out
        go_wp2_with fail
        clear b0 b1 b2 b3 b4 b5 b6 b7
        generalize (w4.alloc (.cells #[.int .i8 tc.f0, .slice Pc tc.f1.length pc] 43)).alloc (.cells #[.int .i8 td.f0, .slice Pd td.f1.length pd] 43) = w5 at *
        generalize w4.heap.size = n4 at *
        refine wp_region_held_drew (S := fun w' => w'.cell? ⟨n3, 0, none⟩ = some (.int .i8 ta.f0) ∧ w'.cell? ⟨n3, 1, none⟩ = some (.slice Pa ta.f1.length pa) ∧ w'.cell? ⟨n3 + 1, 0, none⟩ = some (.int .i8 tb.f0) ∧ w'.cell? ⟨n3 + 1, 1, none⟩ = some (.slice Pb tb.f1.length pb) ∧ w'.cell? ⟨n4, 0, none⟩ = some (.int .i8 tc.f0) ∧ w'.cell? ⟨n4, 1, none⟩ = some (.slice Pc tc.f1.length pc) ∧ w'.cell? ⟨n4 + 1, 0, none⟩ = some (.int .i8 td.f0) ∧ w'.cell? ⟨n4 + 1, 1, none⟩ = some (.slice Pd td.f1.length pd)) (by kernel_rfl) ⟨bcl KA.out, bcl KA.out, bcl KB.out, bcl KB.out, bcl KC.out, bcl KC.out, bcl KD.out, bcl KD.out⟩ (fun hHeld => ?_)
        have HZ := Aside0.mk ((Below.refl w5.heap.size w5).drew)
        replace HW := Aside0.mk (below_then HW.out HW.out.size HZ.out)
        generalize w5.drew = w6 at *
        refine tK 49 0 hHeld ?_
        refine tK 50 1 hHeld ?_
        refine tK 52 3 hHeld ?_
        refine tK 53 4 hHeld ?_
        refine cK 51 2 (pair_calls (k := 4) (HTA.out.below HZ.out) (HTC.out.below HZ.out)) ?_
        rintro e w7 ⟨v1, rfl, hv1, hB⟩
        replace HZ := Aside0.mk (below_then HZ.out HZ.out.size hB)
        replace HW := Aside0.mk (below_then HW.out HW.out.size hB)
        have HR1 := Aside0.mk hv1
        clear hv1
        refine ⟨_, rfl, ⟨pwc hB hHeld.1, pwc hB hHeld.2.1, pwc hB hHeld.2.2.1, pwc hB hHeld.2.2.2.1, pwc hB hHeld.2.2.2.2.1, pwc hB hHeld.2.2.2.2.2.1, pwc hB hHeld.2.2.2.2.2.2.1, pwc hB hHeld.2.2.2.2.2.2.2⟩, fun hHeld => nA ?_⟩
        clear hB
        refine cK 54 5 (pair_calls (k := 4) (HTB.out.below HZ.out) (HTD.out.below HZ.out)) ?_
        rintro e w8 ⟨v2, rfl, hv2, hB⟩
        replace HZ := Aside0.mk (below_then HZ.out HZ.out.size hB)
        replace HW := Aside0.mk (below_then HW.out HW.out.size hB)
        replace HR1 := Aside0.mk (HR1.out.below hB)
        have HR2 := Aside0.mk hv2
        clear hv2
        refine ⟨_, rfl, ⟨pwc hB hHeld.1, pwc hB hHeld.2.1, pwc hB hHeld.2.2.1, pwc hB hHeld.2.2.2.1, pwc hB hHeld.2.2.2.2.1, pwc hB hHeld.2.2.2.2.2.1, pwc hB hHeld.2.2.2.2.2.2.1, pwc hB hHeld.2.2.2.2.2.2.2⟩, fun hHeld => nA ?_⟩
        clear hB
        have hr1 := pair_right (k := 4) rfl Ra Rc
        have hr2 := pair_right (k := 4) rfl Rb Rd
        have HR1' := HR1.out
        have HR2' := HR2.out
        obtain ⟨M1, m1, rfl, -⟩ := HR1'
        obtain ⟨M2, m2, rfl, -⟩ := HR2'
        replace K1 := Aside0.mk (blk_below K1.out HZ.out)
        replace K2 := Aside0.mk (blk_below K2.out HZ.out)
        clear HZ
        refine sK 6 K1.out ⟨far2 hHeld.1 (by omega), far2 hHeld.2.1 (by omega), far2 hHeld.2.2.1 (by omega), far2 hHeld.2.2.2.1 (by omega), far2 hHeld.2.2.2.2.1 (by omega), far2 hHeld.2.2.2.2.2.1 (by omega), far2 hHeld.2.2.2.2.2.2.1 (by omega), far2 hHeld.2.2.2.2.2.2.2 (by omega)⟩ fun w9 hHeld hp => ?_
        replace HR1 := Aside0.mk (tFar hp K1.out hr1 HR1.out)
        replace HR2 := Aside0.mk (tFar hp K1.out hr2 HR2.out)
        replace K2 := Aside0.mk (kFar hp K2.out (by omega))
        replace K1 := Aside0.mk (kOwn hp K1.out)
        replace HW := Aside0.mk (bFar hp HW.out (by omega))
        clear hp
        refine sK 7 K2.out ⟨far2 hHeld.1 (by omega), far2 hHeld.2.1 (by omega), far2 hHeld.2.2.1 (by omega), far2 hHeld.2.2.2.1 (by omega), far2 hHeld.2.2.2.2.1 (by omega), far2 hHeld.2.2.2.2.2.1 (by omega), far2 hHeld.2.2.2.2.2.2.1 (by omega), far2 hHeld.2.2.2.2.2.2.2 (by omega)⟩ fun w10 hHeld hp => ?_
        replace HR1 := Aside0.mk (tFar hp K2.out hr1 HR1.out)
        replace HR2 := Aside0.mk (tFar hp K2.out hr2 HR2.out)
        replace K1 := Aside0.mk (kFar hp K1.out (by omega))
        replace K2 := Aside0.mk (kOwn hp K2.out)
        replace HW := Aside0.mk (bFar hp HW.out (by omega))
        clear hp
        refine tK 4 8 hHeld ?_
        refine wpAnyH_done (by kernel_rfl) ?_ _
        go_wp2_with fail
        exact retK K1.out K2.out (by (try rw [hr]); exact ⟨_, _, _, _, rfl, HR1.out, HR2.out, fun _ => rfl, hr1, hr2, HW.out⟩)
      by_cases h6 : x.f0 = 6
      · have hr : partsC x.f0 p q = some (⟨5, [ta, tc]⟩, ⟨5, [tb, td]⟩) := by rw [HR0.out]; simp [joinC, h6]
        have gk4 : (x.f0 == 4) = false := beq_eq_false_iff_ne.mpr h4
        have gk5 : (x.f0 == 5) = false := beq_eq_false_iff_ne.mpr h5
        have gk : (x.f0 == 6) = true := beq_iff_eq.mpr h6
        clear h4 h5 h6
        obtain ⟨b0, b1, b2, b3, b4, b5, b6, b7⟩ := cells8 K0.out
        go_wp2_with fail
        clear b0 b1 b2 b3 b4 b5 b6 b7
        generalize (w4.alloc (.cells #[.int .i8 tc.f0, .slice Pc tc.f1.length pc] 43)).alloc (.cells #[.int .i8 td.f0, .slice Pd td.f1.length pd] 43) = w5 at *
        generalize w4.heap.size = n4 at *
        refine wp_region_held_drew (S := fun w' => w'.cell? ⟨n3, 0, none⟩ = some (.int .i8 ta.f0) ∧ w'.cell? ⟨n3, 1, none⟩ = some (.slice Pa ta.f1.length pa) ∧ w'.cell? ⟨n3 + 1, 0, none⟩ = some (.int .i8 tb.f0) ∧ w'.cell? ⟨n3 + 1, 1, none⟩ = some (.slice Pb tb.f1.length pb) ∧ w'.cell? ⟨n4, 0, none⟩ = some (.int .i8 tc.f0) ∧ w'.cell? ⟨n4, 1, none⟩ = some (.slice Pc tc.f1.length pc) ∧ w'.cell? ⟨n4 + 1, 0, none⟩ = some (.int .i8 td.f0) ∧ w'.cell? ⟨n4 + 1, 1, none⟩ = some (.slice Pd td.f1.length pd)) (by kernel_rfl) ⟨bcl KA.out, bcl KA.out, bcl KB.out, bcl KB.out, bcl KC.out, bcl KC.out, bcl KD.out, bcl KD.out⟩ (fun hHeld => ?_)
        have HZ := Aside0.mk ((Below.refl w5.heap.size w5).drew)
        replace HW := Aside0.mk (below_then HW.out HW.out.size HZ.out)
        generalize w5.drew = w6 at *
        refine tK 57 0 hHeld ?_
        refine tK 58 1 hHeld ?_
        refine tK 60 3 hHeld ?_
        refine tK 61 4 hHeld ?_
        refine cK 59 2 (pair_calls (k := 5) (HTA.out.below HZ.out) (HTC.out.below HZ.out)) ?_
        rintro e w7 ⟨v1, rfl, hv1, hB⟩
        replace HZ := Aside0.mk (below_then HZ.out HZ.out.size hB)
        replace HW := Aside0.mk (below_then HW.out HW.out.size hB)
        have HR1 := Aside0.mk hv1
        clear hv1
        refine ⟨_, rfl, ⟨pwc hB hHeld.1, pwc hB hHeld.2.1, pwc hB hHeld.2.2.1, pwc hB hHeld.2.2.2.1, pwc hB hHeld.2.2.2.2.1, pwc hB hHeld.2.2.2.2.2.1, pwc hB hHeld.2.2.2.2.2.2.1, pwc hB hHeld.2.2.2.2.2.2.2⟩, fun hHeld => nA ?_⟩
        clear hB
        refine cK 62 5 (pair_calls (k := 5) (HTB.out.below HZ.out) (HTD.out.below HZ.out)) ?_
        rintro e w8 ⟨v2, rfl, hv2, hB⟩
        replace HZ := Aside0.mk (below_then HZ.out HZ.out.size hB)
        replace HW := Aside0.mk (below_then HW.out HW.out.size hB)
        replace HR1 := Aside0.mk (HR1.out.below hB)
        have HR2 := Aside0.mk hv2
        clear hv2
        refine ⟨_, rfl, ⟨pwc hB hHeld.1, pwc hB hHeld.2.1, pwc hB hHeld.2.2.1, pwc hB hHeld.2.2.2.1, pwc hB hHeld.2.2.2.2.1, pwc hB hHeld.2.2.2.2.2.1, pwc hB hHeld.2.2.2.2.2.2.1, pwc hB hHeld.2.2.2.2.2.2.2⟩, fun hHeld => nA ?_⟩
        clear hB
        have hr1 := pair_right (k := 5) rfl Ra Rc
        have hr2 := pair_right (k := 5) rfl Rb Rd
        have HR1' := HR1.out
        have HR2' := HR2.out
        obtain ⟨M1, m1, rfl, -⟩ := HR1'
        obtain ⟨M2, m2, rfl, -⟩ := HR2'
        replace K1 := Aside0.mk (blk_below K1.out HZ.out)
        replace K2 := Aside0.mk (blk_below K2.out HZ.out)
        clear HZ
        refine sK 6 K1.out ⟨far2 hHeld.1 (by omega), far2 hHeld.2.1 (by omega), far2 hHeld.2.2.1 (by omega), far2 hHeld.2.2.2.1 (by omega), far2 hHeld.2.2.2.2.1 (by omega), far2 hHeld.2.2.2.2.2.1 (by omega), far2 hHeld.2.2.2.2.2.2.1 (by omega), far2 hHeld.2.2.2.2.2.2.2 (by omega)⟩ fun w9 hHeld hp => ?_
        replace HR1 := Aside0.mk (tFar hp K1.out hr1 HR1.out)
        replace HR2 := Aside0.mk (tFar hp K1.out hr2 HR2.out)
        replace K2 := Aside0.mk (kFar hp K2.out (by omega))
        replace K1 := Aside0.mk (kOwn hp K1.out)
        replace HW := Aside0.mk (bFar hp HW.out (by omega))
        clear hp
        refine sK 7 K2.out ⟨far2 hHeld.1 (by omega), far2 hHeld.2.1 (by omega), far2 hHeld.2.2.1 (by omega), far2 hHeld.2.2.2.1 (by omega), far2 hHeld.2.2.2.2.1 (by omega), far2 hHeld.2.2.2.2.2.1 (by omega), far2 hHeld.2.2.2.2.2.2.1 (by omega), far2 hHeld.2.2.2.2.2.2.2 (by omega)⟩ fun w10 hHeld hp => ?_
        replace HR1 := Aside0.mk (tFar hp K2.out hr1 HR1.out)
        replace HR2 := Aside0.mk (tFar hp K2.out hr2 HR2.out)
        replace K1 := Aside0.mk (kFar hp K1.out (by omega))
        replace K2 := Aside0.mk (kOwn hp K2.out)
        replace HW := Aside0.mk (bFar hp HW.out (by omega))
        clear hp
        refine tK 4 8 hHeld ?_
        refine wpAnyH_done (by kernel_rfl) ?_ _
        go_wp2_with fail
        exact retK K1.out K2.out (by (try rw [hr]); exact ⟨_, _, _, _, rfl, HR1.out, HR2.out, fun _ => rfl, hr1, hr2, HW.out⟩)
      by_cases h7 : x.f0 = 7
      · have HR7 : Aside0 (partsC x.f0 p q = if sameB tb tc = true then some (ta, td) else none) := .mk (by rw [HR0.out, h7]; simp [joinC])
        have gk4 : (x.f0 == 4) = false := beq_eq_false_iff_ne.mpr h4
        have gk5 : (x.f0 == 5) = false := beq_eq_false_iff_ne.mpr h5
        have gk6 : (x.f0 == 6) = false := beq_eq_false_iff_ne.mpr h6
        have gk : (x.f0 == 7) = true := beq_iff_eq.mpr h7
        clear h4 h5 h6 h7
        obtain ⟨b0, b1, b2, b3, b4, b5, b6, b7⟩ := cells8 K0.out
        go_wp2_with fail
        clear b0 b1 b2 b3 b4 b5 b6 b7
        generalize (w4.alloc (.cells #[.int .i8 tc.f0, .slice Pc tc.f1.length pc] 43)).alloc (.cells #[.int .i8 td.f0, .slice Pd td.f1.length pd] 43) = w5 at *
        generalize w4.heap.size = n4 at *
        cases hsb : (checkI tb == 0) with
        | false =>
          have hs : sameB tb tc = false := by unfold sameB; simp at hsb; simp [hsb]
          have hr : partsC x.f0 p q = none := by rw [HR7.out, hs]; rfl
          refine wp_region_held_drew (S := fun w' => w'.cell? ⟨n3, 0, none⟩ = some (.int .i8 ta.f0) ∧ w'.cell? ⟨n3, 1, none⟩ = some (.slice Pa ta.f1.length pa) ∧ w'.cell? ⟨n3 + 1, 0, none⟩ = some (.int .i8 tb.f0) ∧ w'.cell? ⟨n3 + 1, 1, none⟩ = some (.slice Pb tb.f1.length pb) ∧ w'.cell? ⟨n4, 0, none⟩ = some (.int .i8 tc.f0) ∧ w'.cell? ⟨n4, 1, none⟩ = some (.slice Pc tc.f1.length pc) ∧ w'.cell? ⟨n4 + 1, 0, none⟩ = some (.int .i8 td.f0) ∧ w'.cell? ⟨n4 + 1, 1, none⟩ = some (.slice Pd td.f1.length pd)) (by kernel_rfl) ⟨bcl KA.out, bcl KA.out, bcl KB.out, bcl KB.out, bcl KC.out, bcl KC.out, bcl KD.out, bcl KD.out⟩ (fun hHeld => ?_)
          have HZ := Aside0.mk ((Below.refl w5.heap.size w5).drew)
          replace HW := Aside0.mk (below_then HW.out HW.out.size HZ.out)
          generalize w5.drew = w6 at *
          refine tK 65 0 hHeld ?_
          refine tK 66 1 hHeld ?_
          refine tK 67 2 hHeld ?_
          refine cK 68 3 (small_calls (HTB.out.below HZ.out)) ?_
          rintro e w7 ⟨rfl, hB⟩
          rw [hsb]
          replace HZ := Aside0.mk (below_then HZ.out HZ.out.size hB)
          replace HW := Aside0.mk (below_then HW.out HW.out.size hB)
          refine ⟨_, rfl, ⟨pwc hB hHeld.1, pwc hB hHeld.2.1, pwc hB hHeld.2.2.1, pwc hB hHeld.2.2.2.1, pwc hB hHeld.2.2.2.2.1, pwc hB hHeld.2.2.2.2.2.1, pwc hB hHeld.2.2.2.2.2.2.1, pwc hB hHeld.2.2.2.2.2.2.2⟩, fun hHeld => nA ?_⟩
          clear hB
          refine tK 69 4 hHeld ?_
          refine pK 70 5 hHeld ?_
          refine pK 71 6 hHeld ?_
          refine tK 72 7 hHeld ?_
          refine tK 73 8 hHeld ?_
          refine pK 74 9 hHeld ?_
          refine pK 75 10 hHeld ?_
          refine pK 76 11 hHeld ?_
          refine tK 77 12 hHeld ?_
          replace K1 := Aside0.mk (blk_below K1.out HZ.out)
          replace K2 := Aside0.mk (blk_below K2.out HZ.out)
          replace HTA := Aside0.mk (HTA.out.below HZ.out)
          replace HTD := Aside0.mk (HTD.out.below HZ.out)
          clear HZ
          refine sK 13 K1.out ⟨far2 hHeld.1 (by omega), far2 hHeld.2.1 (by omega), far2 hHeld.2.2.1 (by omega), far2 hHeld.2.2.2.1 (by omega), far2 hHeld.2.2.2.2.1 (by omega), far2 hHeld.2.2.2.2.2.1 (by omega), far2 hHeld.2.2.2.2.2.2.1 (by omega), far2 hHeld.2.2.2.2.2.2.2 (by omega)⟩ fun w10 hHeld hp => ?_
          replace HTA := Aside0.mk (tFar hp K1.out Ra HTA.out)
          replace HTD := Aside0.mk (tFar hp K1.out Rd HTD.out)
          replace K2 := Aside0.mk (kFar hp K2.out (by omega))
          replace K1 := Aside0.mk (kOwn hp K1.out)
          replace HW := Aside0.mk (bFar hp HW.out (by omega))
          clear hp
          refine sK 14 K2.out ⟨far2 hHeld.1 (by omega), far2 hHeld.2.1 (by omega), far2 hHeld.2.2.1 (by omega), far2 hHeld.2.2.2.1 (by omega), far2 hHeld.2.2.2.2.1 (by omega), far2 hHeld.2.2.2.2.2.1 (by omega), far2 hHeld.2.2.2.2.2.2.1 (by omega), far2 hHeld.2.2.2.2.2.2.2 (by omega)⟩ fun w11 hHeld hp => ?_
          replace HTA := Aside0.mk (tFar hp K2.out Ra HTA.out)
          replace HTD := Aside0.mk (tFar hp K2.out Rd HTD.out)
          replace K1 := Aside0.mk (kFar hp K1.out (by omega))
          replace K2 := Aside0.mk (kOwn hp K2.out)
          replace HW := Aside0.mk (bFar hp HW.out (by omega))
          clear hp
          refine tK 4 15 hHeld ?_
          refine wpAnyH_done (by kernel_rfl) ?_ _
          go_wp2_with fail
          exact retK K1.out K2.out (by (try rw [hr]); exact ⟨_, _, _, _, rfl, HTA.out, HTD.out, fun h => absurd h (by decide), Ra, Rd, HW.out⟩)
        | true =>
          cases hsc : (checkI tc == 0) with
          | false =>
            have hs : sameB tb tc = false := by unfold sameB; simp at hsc; simp [hsc]
            have hr : partsC x.f0 p q = none := by rw [HR7.out, hs]; rfl
            refine wp_region_held_drew (S := fun w' => w'.cell? ⟨n3, 0, none⟩ = some (.int .i8 ta.f0) ∧ w'.cell? ⟨n3, 1, none⟩ = some (.slice Pa ta.f1.length pa) ∧ w'.cell? ⟨n3 + 1, 0, none⟩ = some (.int .i8 tb.f0) ∧ w'.cell? ⟨n3 + 1, 1, none⟩ = some (.slice Pb tb.f1.length pb) ∧ w'.cell? ⟨n4, 0, none⟩ = some (.int .i8 tc.f0) ∧ w'.cell? ⟨n4, 1, none⟩ = some (.slice Pc tc.f1.length pc) ∧ w'.cell? ⟨n4 + 1, 0, none⟩ = some (.int .i8 td.f0) ∧ w'.cell? ⟨n4 + 1, 1, none⟩ = some (.slice Pd td.f1.length pd)) (by kernel_rfl) ⟨bcl KA.out, bcl KA.out, bcl KB.out, bcl KB.out, bcl KC.out, bcl KC.out, bcl KD.out, bcl KD.out⟩ (fun hHeld => ?_)
            have HZ := Aside0.mk ((Below.refl w5.heap.size w5).drew)
            replace HW := Aside0.mk (below_then HW.out HW.out.size HZ.out)
            generalize w5.drew = w6 at *
            refine tK 65 0 hHeld ?_
            refine tK 66 1 hHeld ?_
            refine tK 67 2 hHeld ?_
            refine cK 68 3 (small_calls (HTB.out.below HZ.out)) ?_
            rintro e w7 ⟨rfl, hB⟩
            rw [hsb]
            replace HZ := Aside0.mk (below_then HZ.out HZ.out.size hB)
            replace HW := Aside0.mk (below_then HW.out HW.out.size hB)
            refine ⟨_, rfl, ⟨pwc hB hHeld.1, pwc hB hHeld.2.1, pwc hB hHeld.2.2.1, pwc hB hHeld.2.2.2.1, pwc hB hHeld.2.2.2.2.1, pwc hB hHeld.2.2.2.2.2.1, pwc hB hHeld.2.2.2.2.2.2.1, pwc hB hHeld.2.2.2.2.2.2.2⟩, fun hHeld => nA ?_⟩
            clear hB
            refine tK 69 4 hHeld ?_
            refine tK 70 5 hHeld ?_
            refine cK 71 6 (small_calls (HTC.out.below HZ.out)) ?_
            rintro e w8 ⟨rfl, hB⟩
            rw [hsc]
            replace HZ := Aside0.mk (below_then HZ.out HZ.out.size hB)
            replace HW := Aside0.mk (below_then HW.out HW.out.size hB)
            refine ⟨_, rfl, ⟨pwc hB hHeld.1, pwc hB hHeld.2.1, pwc hB hHeld.2.2.1, pwc hB hHeld.2.2.2.1, pwc hB hHeld.2.2.2.2.1, pwc hB hHeld.2.2.2.2.2.1, pwc hB hHeld.2.2.2.2.2.2.1, pwc hB hHeld.2.2.2.2.2.2.2⟩, fun hHeld => nA ?_⟩
            clear hB
            refine tK 72 7 hHeld ?_
            refine tK 73 8 hHeld ?_
            refine pK 74 9 hHeld ?_
            refine pK 75 10 hHeld ?_
            refine pK 76 11 hHeld ?_
            refine tK 77 12 hHeld ?_
            replace K1 := Aside0.mk (blk_below K1.out HZ.out)
            replace K2 := Aside0.mk (blk_below K2.out HZ.out)
            replace HTA := Aside0.mk (HTA.out.below HZ.out)
            replace HTD := Aside0.mk (HTD.out.below HZ.out)
            clear HZ
            refine sK 13 K1.out ⟨far2 hHeld.1 (by omega), far2 hHeld.2.1 (by omega), far2 hHeld.2.2.1 (by omega), far2 hHeld.2.2.2.1 (by omega), far2 hHeld.2.2.2.2.1 (by omega), far2 hHeld.2.2.2.2.2.1 (by omega), far2 hHeld.2.2.2.2.2.2.1 (by omega), far2 hHeld.2.2.2.2.2.2.2 (by omega)⟩ fun w10 hHeld hp => ?_
            replace HTA := Aside0.mk (tFar hp K1.out Ra HTA.out)
            replace HTD := Aside0.mk (tFar hp K1.out Rd HTD.out)
            replace K2 := Aside0.mk (kFar hp K2.out (by omega))
            replace K1 := Aside0.mk (kOwn hp K1.out)
            replace HW := Aside0.mk (bFar hp HW.out (by omega))
            clear hp
            refine sK 14 K2.out ⟨far2 hHeld.1 (by omega), far2 hHeld.2.1 (by omega), far2 hHeld.2.2.1 (by omega), far2 hHeld.2.2.2.1 (by omega), far2 hHeld.2.2.2.2.1 (by omega), far2 hHeld.2.2.2.2.2.1 (by omega), far2 hHeld.2.2.2.2.2.2.1 (by omega), far2 hHeld.2.2.2.2.2.2.2 (by omega)⟩ fun w11 hHeld hp => ?_
            replace HTA := Aside0.mk (tFar hp K2.out Ra HTA.out)
            replace HTD := Aside0.mk (tFar hp K2.out Rd HTD.out)
            replace K1 := Aside0.mk (kFar hp K1.out (by omega))
            replace K2 := Aside0.mk (kOwn hp K2.out)
            replace HW := Aside0.mk (bFar hp HW.out (by omega))
            clear hp
            refine tK 4 15 hHeld ?_
            refine wpAnyH_done (by kernel_rfl) ?_ _
            go_wp2_with fail
            exact retK K1.out K2.out (by (try rw [hr]); exact ⟨_, _, _, _, rfl, HTA.out, HTD.out, fun h => absurd h (by decide), Ra, Rd, HW.out⟩)
          | true =>
            cases hs : sameB tb tc with
            | false =>
              have hr : partsC x.f0 p q = none := by rw [HR7.out, hs]; rfl
              refine wp_region_held_drew (S := fun w' => w'.cell? ⟨n3, 0, none⟩ = some (.int .i8 ta.f0) ∧ w'.cell? ⟨n3, 1, none⟩ = some (.slice Pa ta.f1.length pa) ∧ w'.cell? ⟨n3 + 1, 0, none⟩ = some (.int .i8 tb.f0) ∧ w'.cell? ⟨n3 + 1, 1, none⟩ = some (.slice Pb tb.f1.length pb) ∧ w'.cell? ⟨n4, 0, none⟩ = some (.int .i8 tc.f0) ∧ w'.cell? ⟨n4, 1, none⟩ = some (.slice Pc tc.f1.length pc) ∧ w'.cell? ⟨n4 + 1, 0, none⟩ = some (.int .i8 td.f0) ∧ w'.cell? ⟨n4 + 1, 1, none⟩ = some (.slice Pd td.f1.length pd)) (by kernel_rfl) ⟨bcl KA.out, bcl KA.out, bcl KB.out, bcl KB.out, bcl KC.out, bcl KC.out, bcl KD.out, bcl KD.out⟩ (fun hHeld => ?_)
              have HZ := Aside0.mk ((Below.refl w5.heap.size w5).drew)
              replace HW := Aside0.mk (below_then HW.out HW.out.size HZ.out)
              generalize w5.drew = w6 at *
              refine tK 65 0 hHeld ?_
              refine tK 66 1 hHeld ?_
              refine tK 67 2 hHeld ?_
              refine cK 68 3 (small_calls (HTB.out.below HZ.out)) ?_
              rintro e w7 ⟨rfl, hB⟩
              rw [hsb]
              replace HZ := Aside0.mk (below_then HZ.out HZ.out.size hB)
              replace HW := Aside0.mk (below_then HW.out HW.out.size hB)
              refine ⟨_, rfl, ⟨pwc hB hHeld.1, pwc hB hHeld.2.1, pwc hB hHeld.2.2.1, pwc hB hHeld.2.2.2.1, pwc hB hHeld.2.2.2.2.1, pwc hB hHeld.2.2.2.2.2.1, pwc hB hHeld.2.2.2.2.2.2.1, pwc hB hHeld.2.2.2.2.2.2.2⟩, fun hHeld => nA ?_⟩
              clear hB
              refine tK 69 4 hHeld ?_
              refine tK 70 5 hHeld ?_
              refine cK 71 6 (small_calls (HTC.out.below HZ.out)) ?_
              rintro e w8 ⟨rfl, hB⟩
              rw [hsc]
              replace HZ := Aside0.mk (below_then HZ.out HZ.out.size hB)
              replace HW := Aside0.mk (below_then HW.out HW.out.size hB)
              refine ⟨_, rfl, ⟨pwc hB hHeld.1, pwc hB hHeld.2.1, pwc hB hHeld.2.2.1, pwc hB hHeld.2.2.2.1, pwc hB hHeld.2.2.2.2.1, pwc hB hHeld.2.2.2.2.2.1, pwc hB hHeld.2.2.2.2.2.2.1, pwc hB hHeld.2.2.2.2.2.2.2⟩, fun hHeld => nA ?_⟩
              clear hB
              refine tK 72 7 hHeld ?_
              refine tK 73 8 hHeld ?_
              refine tK 74 9 hHeld ?_
              refine tK 75 10 hHeld ?_
              refine cK 76 11 (refSame_calls (HTB.out.below HZ.out) (HTC.out.below HZ.out)) ?_
              rintro e w9 ⟨rfl, hB⟩
              rw [hs]
              replace HZ := Aside0.mk (below_then HZ.out HZ.out.size hB)
              replace HW := Aside0.mk (below_then HW.out HW.out.size hB)
              refine ⟨_, rfl, ⟨pwc hB hHeld.1, pwc hB hHeld.2.1, pwc hB hHeld.2.2.1, pwc hB hHeld.2.2.2.1, pwc hB hHeld.2.2.2.2.1, pwc hB hHeld.2.2.2.2.2.1, pwc hB hHeld.2.2.2.2.2.2.1, pwc hB hHeld.2.2.2.2.2.2.2⟩, fun hHeld => nA ?_⟩
              clear hB
              refine tK 77 12 hHeld ?_
              replace K1 := Aside0.mk (blk_below K1.out HZ.out)
              replace K2 := Aside0.mk (blk_below K2.out HZ.out)
              replace HTA := Aside0.mk (HTA.out.below HZ.out)
              replace HTD := Aside0.mk (HTD.out.below HZ.out)
              clear HZ
              refine sK 13 K1.out ⟨far2 hHeld.1 (by omega), far2 hHeld.2.1 (by omega), far2 hHeld.2.2.1 (by omega), far2 hHeld.2.2.2.1 (by omega), far2 hHeld.2.2.2.2.1 (by omega), far2 hHeld.2.2.2.2.2.1 (by omega), far2 hHeld.2.2.2.2.2.2.1 (by omega), far2 hHeld.2.2.2.2.2.2.2 (by omega)⟩ fun w10 hHeld hp => ?_
              replace HTA := Aside0.mk (tFar hp K1.out Ra HTA.out)
              replace HTD := Aside0.mk (tFar hp K1.out Rd HTD.out)
              replace K2 := Aside0.mk (kFar hp K2.out (by omega))
              replace K1 := Aside0.mk (kOwn hp K1.out)
              replace HW := Aside0.mk (bFar hp HW.out (by omega))
              clear hp
              refine sK 14 K2.out ⟨far2 hHeld.1 (by omega), far2 hHeld.2.1 (by omega), far2 hHeld.2.2.1 (by omega), far2 hHeld.2.2.2.1 (by omega), far2 hHeld.2.2.2.2.1 (by omega), far2 hHeld.2.2.2.2.2.1 (by omega), far2 hHeld.2.2.2.2.2.2.1 (by omega), far2 hHeld.2.2.2.2.2.2.2 (by omega)⟩ fun w11 hHeld hp => ?_
              replace HTA := Aside0.mk (tFar hp K2.out Ra HTA.out)
              replace HTD := Aside0.mk (tFar hp K2.out Rd HTD.out)
              replace K1 := Aside0.mk (kFar hp K1.out (by omega))
              replace K2 := Aside0.mk (kOwn hp K2.out)
              replace HW := Aside0.mk (bFar hp HW.out (by omega))
              clear hp
              refine tK 4 15 hHeld ?_
              refine wpAnyH_done (by kernel_rfl) ?_ _
              go_wp2_with fail
              exact retK K1.out K2.out (by (try rw [hr]); exact ⟨_, _, _, _, rfl, HTA.out, HTD.out, fun h => absurd h (by decide), Ra, Rd, HW.out⟩)
            | true =>
              have hr : partsC x.f0 p q = some (ta, td) := by rw [HR7.out, hs]; rfl
              refine wp_region_held_drew (S := fun w' => w'.cell? ⟨n3, 0, none⟩ = some (.int .i8 ta.f0) ∧ w'.cell? ⟨n3, 1, none⟩ = some (.slice Pa ta.f1.length pa) ∧ w'.cell? ⟨n3 + 1, 0, none⟩ = some (.int .i8 tb.f0) ∧ w'.cell? ⟨n3 + 1, 1, none⟩ = some (.slice Pb tb.f1.length pb) ∧ w'.cell? ⟨n4, 0, none⟩ = some (.int .i8 tc.f0) ∧ w'.cell? ⟨n4, 1, none⟩ = some (.slice Pc tc.f1.length pc) ∧ w'.cell? ⟨n4 + 1, 0, none⟩ = some (.int .i8 td.f0) ∧ w'.cell? ⟨n4 + 1, 1, none⟩ = some (.slice Pd td.f1.length pd)) (by kernel_rfl) ⟨bcl KA.out, bcl KA.out, bcl KB.out, bcl KB.out, bcl KC.out, bcl KC.out, bcl KD.out, bcl KD.out⟩ (fun hHeld => ?_)
              have HZ := Aside0.mk ((Below.refl w5.heap.size w5).drew)
              replace HW := Aside0.mk (below_then HW.out HW.out.size HZ.out)
              generalize w5.drew = w6 at *
              refine tK 65 0 hHeld ?_
              refine tK 66 1 hHeld ?_
              refine tK 67 2 hHeld ?_
              refine cK 68 3 (small_calls (HTB.out.below HZ.out)) ?_
              rintro e w7 ⟨rfl, hB⟩
              rw [hsb]
              replace HZ := Aside0.mk (below_then HZ.out HZ.out.size hB)
              replace HW := Aside0.mk (below_then HW.out HW.out.size hB)
              refine ⟨_, rfl, ⟨pwc hB hHeld.1, pwc hB hHeld.2.1, pwc hB hHeld.2.2.1, pwc hB hHeld.2.2.2.1, pwc hB hHeld.2.2.2.2.1, pwc hB hHeld.2.2.2.2.2.1, pwc hB hHeld.2.2.2.2.2.2.1, pwc hB hHeld.2.2.2.2.2.2.2⟩, fun hHeld => nA ?_⟩
              clear hB
              refine tK 69 4 hHeld ?_
              refine tK 70 5 hHeld ?_
              refine cK 71 6 (small_calls (HTC.out.below HZ.out)) ?_
              rintro e w8 ⟨rfl, hB⟩
              rw [hsc]
              replace HZ := Aside0.mk (below_then HZ.out HZ.out.size hB)
              replace HW := Aside0.mk (below_then HW.out HW.out.size hB)
              refine ⟨_, rfl, ⟨pwc hB hHeld.1, pwc hB hHeld.2.1, pwc hB hHeld.2.2.1, pwc hB hHeld.2.2.2.1, pwc hB hHeld.2.2.2.2.1, pwc hB hHeld.2.2.2.2.2.1, pwc hB hHeld.2.2.2.2.2.2.1, pwc hB hHeld.2.2.2.2.2.2.2⟩, fun hHeld => nA ?_⟩
              clear hB
              refine tK 72 7 hHeld ?_
              refine tK 73 8 hHeld ?_
              refine tK 74 9 hHeld ?_
              refine tK 75 10 hHeld ?_
              refine cK 76 11 (refSame_calls (HTB.out.below HZ.out) (HTC.out.below HZ.out)) ?_
              rintro e w9 ⟨rfl, hB⟩
              rw [hs]
              replace HZ := Aside0.mk (below_then HZ.out HZ.out.size hB)
              replace HW := Aside0.mk (below_then HW.out HW.out.size hB)
              refine ⟨_, rfl, ⟨pwc hB hHeld.1, pwc hB hHeld.2.1, pwc hB hHeld.2.2.1, pwc hB hHeld.2.2.2.1, pwc hB hHeld.2.2.2.2.1, pwc hB hHeld.2.2.2.2.2.1, pwc hB hHeld.2.2.2.2.2.2.1, pwc hB hHeld.2.2.2.2.2.2.2⟩, fun hHeld => nA ?_⟩
              clear hB
              refine tK 77 12 hHeld ?_
              replace K1 := Aside0.mk (blk_below K1.out HZ.out)
              replace K2 := Aside0.mk (blk_below K2.out HZ.out)
              replace HTA := Aside0.mk (HTA.out.below HZ.out)
              replace HTD := Aside0.mk (HTD.out.below HZ.out)
              clear HZ
              refine sK 13 K1.out ⟨far2 hHeld.1 (by omega), far2 hHeld.2.1 (by omega), far2 hHeld.2.2.1 (by omega), far2 hHeld.2.2.2.1 (by omega), far2 hHeld.2.2.2.2.1 (by omega), far2 hHeld.2.2.2.2.2.1 (by omega), far2 hHeld.2.2.2.2.2.2.1 (by omega), far2 hHeld.2.2.2.2.2.2.2 (by omega)⟩ fun w10 hHeld hp => ?_
              replace HTA := Aside0.mk (tFar hp K1.out Ra HTA.out)
              replace HTD := Aside0.mk (tFar hp K1.out Rd HTD.out)
              replace K2 := Aside0.mk (kFar hp K2.out (by omega))
              replace K1 := Aside0.mk (kOwn hp K1.out)
              replace HW := Aside0.mk (bFar hp HW.out (by omega))
              clear hp
              refine sK 14 K2.out ⟨far2 hHeld.1 (by omega), far2 hHeld.2.1 (by omega), far2 hHeld.2.2.1 (by omega), far2 hHeld.2.2.2.1 (by omega), far2 hHeld.2.2.2.2.1 (by omega), far2 hHeld.2.2.2.2.2.1 (by omega), far2 hHeld.2.2.2.2.2.2.1 (by omega), far2 hHeld.2.2.2.2.2.2.2 (by omega)⟩ fun w11 hHeld hp => ?_
              replace HTA := Aside0.mk (tFar hp K2.out Ra HTA.out)
              replace HTD := Aside0.mk (tFar hp K2.out Rd HTD.out)
              replace K1 := Aside0.mk (kFar hp K1.out (by omega))
              replace K2 := Aside0.mk (kOwn hp K2.out)
              replace HW := Aside0.mk (bFar hp HW.out (by omega))
              clear hp
              refine tK 4 15 hHeld ?_
              refine wpAnyH_done (by kernel_rfl) ?_ _
              go_wp2_with fail
              exact retK K1.out K2.out (by (try rw [hr]); exact ⟨_, _, _, _, rfl, HTA.out, HTD.out, fun _ => rfl, Ra, Rd, HW.out⟩)
      have hr : partsC x.f0 p q = none := by rw [HR0.out]; simp [joinC, h4, h5, h6, h7]
      have gk4 : (x.f0 == 4) = false := beq_eq_false_iff_ne.mpr h4
      have gk5 : (x.f0 == 5) = false := beq_eq_false_iff_ne.mpr h5
      have gk6 : (x.f0 == 6) = false := beq_eq_false_iff_ne.mpr h6
      have gk7 : (x.f0 == 7) = false := beq_eq_false_iff_ne.mpr h7
      clear h4 h5 h6 h7
      obtain ⟨b0, b1, b2, b3, b4, b5, b6, b7⟩ := cells8 K0.out
      obtain ⟨c0, c1, z0, z1⟩ := cells2 K1.out
      obtain ⟨d0, d1, y0, y1⟩ := cells2 K2.out
      go_wp2_with fail
      exact retP K1.out K2.out (by omega) (by rw [hr]; exact ⟨_, _, z43, z43, rfl, IsT.zero _, IsT.zero _, fun h => absurd h (by decide), rfl, rfl, bFar rfl (bFar rfl HW.out (by omega)) (by omega)⟩)
end Go.Proofs.YtjmpejbciniceaaDoor.X
namespace Go.Proofs.YtjmpejbciniceaaDoor.X
open Go.RowKit Go.Proofs.YtjmpejbciniceaaDoorW.PrintWords Go.Proofs.YtjmpejbciniceaaDoorW.PrintLast Go.Proofs.YtjmpejbciniceaaDoorW.PrintMore
set_option linter.unusedVariables false
set_option linter.unusedSimpArgs false
set_option maxRecDepth 100000 in
set_option maxHeartbeats 3200000 in
theorem rends_t {x : S54} {v : Value} {w : World} (hx : IsC w v x) (hLo : Aside0 (leafB x.f0 = true)) (hct : Aside0 (checkI x.f1 ≠ 0)) : Calls Tryd.prog 50 #[v] w (PartsPost none w) := by
  have HX := Aside0.mk hx
  obtain ⟨A2, c2, A4, c4, A7, c7, rfl, hl2, hC2, hl4, hC4, -, -⟩ := hx
  have HT := Aside0.mk (IsT.mk (k := x.f1.f0) hl2 hC2)
  have HU := Aside0.mk (IsT.mk (k := x.f2.f0) hl4 hC4)
  rw [S43.eta] at HT HU
  clear hl2 hC2 hl4 hC4
  obtain ⟨k0, k1, k2, hB⟩ := three w (.cells #[.int .i8 x.f0, .int .i8 x.f1.f0, .slice A2 x.f1.f1.length c2, .int .i8 x.f2.f0, .slice A4 x.f2.f1.length c4, .int .i64 x.f3, .bool x.f4, .slice A7 x.f5.length c7] 54) (.cells #[.int .i8 0, .slice none 0 0] 43) (.cells #[.int .i8 0, .slice none 0 0] 43)
  have K0 := Aside0.mk k0
  have K1 := Aside0.mk k1
  have K2 := Aside0.mk k2
  replace HX := Aside0.mk (HX.out.below hB)
  replace HT := Aside0.mk (HT.out.below hB)
  replace HU := Aside0.mk (HU.out.below hB)
  have HW := Aside0.mk hB
  clear hB k0 k1 k2
  have hL := hLo.out
  have ct : (checkI x.f1 != 0) = true := bne_iff_ne.mpr hct.out
  go_enter Tryd.func50, Tryd.ntmps50
  go_wp2_with fail
  generalize ((w.alloc (.cells #[.int .i8 x.f0, .int .i8 x.f1.f0, .slice A2 x.f1.f1.length c2, .int .i8 x.f2.f0, .slice A4 x.f2.f1.length c4, .int .i64 x.f3, .bool x.f4, .slice A7 x.f5.length c7] 54)).alloc (.cells #[.int .i8 0, .slice none 0 0] 43)).alloc (.cells #[.int .i8 0, .slice none 0 0] 43) = w0 at *
  have HY := Aside0.mk (Below.refl w0.heap.size w0)
  refine (typed_calls x.f0 _).mono ?_
  rintro e w1 ⟨rfl, hB⟩
  rw [hL]
  replace HY := Aside0.mk (below_then HY.out HY.out.size hB)
  clear hB
  obtain ⟨b0, b1, b2, b3, b4, b5, b6, b7⟩ := cells8 (blk_below K0.out HY.out)
  go_wp2_with fail
  clear b0 b1 b2 b3 b4 b5 b6 b7
  refine (refCheck_calls (HT.out.below HY.out)).mono ?_
  rintro e w2 ⟨rfl, hB⟩
  replace HY := Aside0.mk (below_then HY.out HY.out.size hB)
  clear hB
  obtain ⟨b0, b1, b2, b3, b4, b5, b6, b7⟩ := cells8 (blk_below K0.out HY.out)
  obtain ⟨c0, c1, z0, z1⟩ := cells2 (blk_below K1.out HY.out)
  obtain ⟨d0, d1, y0, y1⟩ := cells2 (blk_below K2.out HY.out)
  go_wp2_with fail
  exact retP (blk_below K1.out HY.out) (blk_below K2.out HY.out) (by omega) ⟨_, _, z43, z43, rfl, IsT.zero _, IsT.zero _, fun h => absurd h (by decide), rfl, rfl, bFar rfl (bFar rfl (below_then HW.out HW.out.size HY.out) (by omega)) (by omega)⟩
set_option maxRecDepth 100000 in
set_option maxHeartbeats 3200000 in
theorem rends_u {x : S54} {v : Value} {w : World} (hx : IsC w v x) (hk : Aside0 (x.f0 = 1)) (hct : Aside0 (checkI x.f1 = 0)) (hcu : Aside0 (checkI x.f2 ≠ 0)) : Calls Tryd.prog 50 #[v] w (PartsPost none w) := by
  have HX := Aside0.mk hx
  obtain ⟨A2, c2, A4, c4, A7, c7, rfl, hl2, hC2, hl4, hC4, -, -⟩ := hx
  have HT := Aside0.mk (IsT.mk (k := x.f1.f0) hl2 hC2)
  have HU := Aside0.mk (IsT.mk (k := x.f2.f0) hl4 hC4)
  rw [S43.eta] at HT HU
  clear hl2 hC2 hl4 hC4
  obtain ⟨k0, k1, k2, hB⟩ := three w (.cells #[.int .i8 x.f0, .int .i8 x.f1.f0, .slice A2 x.f1.f1.length c2, .int .i8 x.f2.f0, .slice A4 x.f2.f1.length c4, .int .i64 x.f3, .bool x.f4, .slice A7 x.f5.length c7] 54) (.cells #[.int .i8 0, .slice none 0 0] 43) (.cells #[.int .i8 0, .slice none 0 0] 43)
  have K0 := Aside0.mk k0
  have K1 := Aside0.mk k1
  have K2 := Aside0.mk k2
  replace HX := Aside0.mk (HX.out.below hB)
  replace HT := Aside0.mk (HT.out.below hB)
  replace HU := Aside0.mk (HU.out.below hB)
  have HW := Aside0.mk hB
  clear hB k0 k1 k2
  have hL : leafB x.f0 = true := by rw [hk.out]; rfl
  have hTo : decide (x.f0 = 1) = true := by rw [hk.out]; rfl
  have hLa : (decide (x.f0 = 1) || decide (x.f0 = 3)) = true := by rw [hk.out]; rfl
  have gk0 : (x.f0 == 0) = false := by rw [hk.out]; rfl
  have gk : (x.f0 == 1) = true := by rw [hk.out]; rfl
  have ct : (checkI x.f1 != 0) = false := bne_eq_false_iff_eq.mpr hct.out
  have cu : (checkI x.f2 != 0) = true := bne_iff_ne.mpr hcu.out
  go_enter Tryd.func50, Tryd.ntmps50
  go_wp2_with fail
  generalize ((w.alloc (.cells #[.int .i8 x.f0, .int .i8 x.f1.f0, .slice A2 x.f1.f1.length c2, .int .i8 x.f2.f0, .slice A4 x.f2.f1.length c4, .int .i64 x.f3, .bool x.f4, .slice A7 x.f5.length c7] 54)).alloc (.cells #[.int .i8 0, .slice none 0 0] 43)).alloc (.cells #[.int .i8 0, .slice none 0 0] 43) = w0 at *
  have HY := Aside0.mk (Below.refl w0.heap.size w0)
  refine (typed_calls x.f0 _).mono ?_
  rintro e w1 ⟨rfl, hB⟩
  rw [hL]
  replace HY := Aside0.mk (below_then HY.out HY.out.size hB)
  clear hB
  obtain ⟨b0, b1, b2, b3, b4, b5, b6, b7⟩ := cells8 (blk_below K0.out HY.out)
  go_wp2_with fail
  clear b0 b1 b2 b3 b4 b5 b6 b7
  refine (refCheck_calls (HT.out.below HY.out)).mono ?_
  rintro e w2 ⟨rfl, hB⟩
  replace HY := Aside0.mk (below_then HY.out HY.out.size hB)
  clear hB
  obtain ⟨b0, b1, b2, b3, b4, b5, b6, b7⟩ := cells8 (blk_below K0.out HY.out)
  go_wp2_with fail
  clear b0 b1 b2 b3 b4 b5 b6 b7
  refine (toed_calls x.f0 _).mono ?_
  rintro e w3 ⟨rfl, hB⟩
  rw [hTo]
  replace HY := Aside0.mk (below_then HY.out HY.out.size hB)
  clear hB
  obtain ⟨b0, b1, b2, b3, b4, b5, b6, b7⟩ := cells8 (blk_below K0.out HY.out)
  go_wp2_with fail
  clear b0 b1 b2 b3 b4 b5 b6 b7
  refine (refCheck_calls (HU.out.below HY.out)).mono ?_
  rintro e w4 ⟨rfl, hB⟩
  replace HY := Aside0.mk (below_then HY.out HY.out.size hB)
  clear hB
  obtain ⟨b0, b1, b2, b3, b4, b5, b6, b7⟩ := cells8 (blk_below K0.out HY.out)
  obtain ⟨c0, c1, z0, z1⟩ := cells2 (blk_below K1.out HY.out)
  obtain ⟨d0, d1, y0, y1⟩ := cells2 (blk_below K2.out HY.out)
  go_wp2_with fail
  exact retP (blk_below K1.out HY.out) (blk_below K2.out HY.out) (by omega) ⟨_, _, z43, z43, rfl, IsT.zero _, IsT.zero _, fun h => absurd h (by decide), rfl, rfl, bFar rfl (bFar rfl (below_then HW.out HW.out.size HY.out) (by omega)) (by omega)⟩
set_option maxRecDepth 100000 in
set_option maxHeartbeats 3200000 in
theorem rends_l1 {x : S54} {v : Value} {w : World} (hx : IsC w v x) (hk : Aside0 (x.f0 = 1)) (hct : Aside0 (checkI x.f1 = 0)) (hcu : Aside0 (checkI x.f2 = 0)) (hl1 : Aside0 (x.f3 < 1)) : Calls Tryd.prog 50 #[v] w (PartsPost none w) := by
  have HX := Aside0.mk hx
  obtain ⟨A2, c2, A4, c4, A7, c7, rfl, hl2, hC2, hl4, hC4, -, -⟩ := hx
  have HT := Aside0.mk (IsT.mk (k := x.f1.f0) hl2 hC2)
  have HU := Aside0.mk (IsT.mk (k := x.f2.f0) hl4 hC4)
  rw [S43.eta] at HT HU
  clear hl2 hC2 hl4 hC4
  obtain ⟨k0, k1, k2, hB⟩ := three w (.cells #[.int .i8 x.f0, .int .i8 x.f1.f0, .slice A2 x.f1.f1.length c2, .int .i8 x.f2.f0, .slice A4 x.f2.f1.length c4, .int .i64 x.f3, .bool x.f4, .slice A7 x.f5.length c7] 54) (.cells #[.int .i8 0, .slice none 0 0] 43) (.cells #[.int .i8 0, .slice none 0 0] 43)
  have K0 := Aside0.mk k0
  have K1 := Aside0.mk k1
  have K2 := Aside0.mk k2
  replace HX := Aside0.mk (HX.out.below hB)
  replace HT := Aside0.mk (HT.out.below hB)
  replace HU := Aside0.mk (HU.out.below hB)
  have HW := Aside0.mk hB
  clear hB k0 k1 k2
  have hL : leafB x.f0 = true := by rw [hk.out]; rfl
  have hTo : decide (x.f0 = 1) = true := by rw [hk.out]; rfl
  have hLa : (decide (x.f0 = 1) || decide (x.f0 = 3)) = true := by rw [hk.out]; rfl
  have gk0 : (x.f0 == 0) = false := by rw [hk.out]; rfl
  have gk : (x.f0 == 1) = true := by rw [hk.out]; rfl
  have ct : (checkI x.f1 != 0) = false := bne_eq_false_iff_eq.mpr hct.out
  have cu : (checkI x.f2 != 0) = false := bne_eq_false_iff_eq.mpr hcu.out
  have hla1 : decide (x.f3 < 1) = true := decide_eq_true hl1.out
  go_enter Tryd.func50, Tryd.ntmps50
  go_wp2_with fail
  generalize ((w.alloc (.cells #[.int .i8 x.f0, .int .i8 x.f1.f0, .slice A2 x.f1.f1.length c2, .int .i8 x.f2.f0, .slice A4 x.f2.f1.length c4, .int .i64 x.f3, .bool x.f4, .slice A7 x.f5.length c7] 54)).alloc (.cells #[.int .i8 0, .slice none 0 0] 43)).alloc (.cells #[.int .i8 0, .slice none 0 0] 43) = w0 at *
  have HY := Aside0.mk (Below.refl w0.heap.size w0)
  refine (typed_calls x.f0 _).mono ?_
  rintro e w1 ⟨rfl, hB⟩
  rw [hL]
  replace HY := Aside0.mk (below_then HY.out HY.out.size hB)
  clear hB
  obtain ⟨b0, b1, b2, b3, b4, b5, b6, b7⟩ := cells8 (blk_below K0.out HY.out)
  go_wp2_with fail
  clear b0 b1 b2 b3 b4 b5 b6 b7
  refine (refCheck_calls (HT.out.below HY.out)).mono ?_
  rintro e w2 ⟨rfl, hB⟩
  replace HY := Aside0.mk (below_then HY.out HY.out.size hB)
  clear hB
  obtain ⟨b0, b1, b2, b3, b4, b5, b6, b7⟩ := cells8 (blk_below K0.out HY.out)
  go_wp2_with fail
  clear b0 b1 b2 b3 b4 b5 b6 b7
  refine (toed_calls x.f0 _).mono ?_
  rintro e w3 ⟨rfl, hB⟩
  rw [hTo]
  replace HY := Aside0.mk (below_then HY.out HY.out.size hB)
  clear hB
  obtain ⟨b0, b1, b2, b3, b4, b5, b6, b7⟩ := cells8 (blk_below K0.out HY.out)
  go_wp2_with fail
  clear b0 b1 b2 b3 b4 b5 b6 b7
  refine (refCheck_calls (HU.out.below HY.out)).mono ?_
  rintro e w4 ⟨rfl, hB⟩
  replace HY := Aside0.mk (below_then HY.out HY.out.size hB)
  clear hB
  obtain ⟨b0, b1, b2, b3, b4, b5, b6, b7⟩ := cells8 (blk_below K0.out HY.out)
  go_wp2_with fail
  clear b0 b1 b2 b3 b4 b5 b6 b7
  refine (labelled_calls x.f0 _).mono ?_
  rintro e w5 ⟨rfl, hB⟩
  rw [hLa]
  replace HY := Aside0.mk (below_then HY.out HY.out.size hB)
  clear hB
  obtain ⟨b0, b1, b2, b3, b4, b5, b6, b7⟩ := cells8 (blk_below K0.out HY.out)
  obtain ⟨c0, c1, z0, z1⟩ := cells2 (blk_below K1.out HY.out)
  obtain ⟨d0, d1, y0, y1⟩ := cells2 (blk_below K2.out HY.out)
  go_wp2_with fail
  exact retP (blk_below K1.out HY.out) (blk_below K2.out HY.out) (by omega) ⟨_, _, z43, z43, rfl, IsT.zero _, IsT.zero _, fun h => absurd h (by decide), rfl, rfl, bFar rfl (bFar rfl (below_then HW.out HW.out.size HY.out) (by omega)) (by omega)⟩
set_option maxRecDepth 100000 in
set_option maxHeartbeats 3200000 in
theorem rends_m1 {x : S54} {v : Value} {w : World} (hx : IsC w v x) (hk : Aside0 (x.f0 = 1)) (hct : Aside0 (checkI x.f1 = 0)) (hcu : Aside0 (checkI x.f2 = 0)) (hl1 : Aside0 (¬ x.f3 < 1)) (hl2o : Aside0 (2147483648 < x.f3)) : Calls Tryd.prog 50 #[v] w (PartsPost none w) := by
  have HX := Aside0.mk hx
  obtain ⟨A2, c2, A4, c4, A7, c7, rfl, hl2, hC2, hl4, hC4, -, -⟩ := hx
  have HT := Aside0.mk (IsT.mk (k := x.f1.f0) hl2 hC2)
  have HU := Aside0.mk (IsT.mk (k := x.f2.f0) hl4 hC4)
  rw [S43.eta] at HT HU
  clear hl2 hC2 hl4 hC4
  obtain ⟨k0, k1, k2, hB⟩ := three w (.cells #[.int .i8 x.f0, .int .i8 x.f1.f0, .slice A2 x.f1.f1.length c2, .int .i8 x.f2.f0, .slice A4 x.f2.f1.length c4, .int .i64 x.f3, .bool x.f4, .slice A7 x.f5.length c7] 54) (.cells #[.int .i8 0, .slice none 0 0] 43) (.cells #[.int .i8 0, .slice none 0 0] 43)
  have K0 := Aside0.mk k0
  have K1 := Aside0.mk k1
  have K2 := Aside0.mk k2
  replace HX := Aside0.mk (HX.out.below hB)
  replace HT := Aside0.mk (HT.out.below hB)
  replace HU := Aside0.mk (HU.out.below hB)
  have HW := Aside0.mk hB
  clear hB k0 k1 k2
  have hL : leafB x.f0 = true := by rw [hk.out]; rfl
  have hTo : decide (x.f0 = 1) = true := by rw [hk.out]; rfl
  have hLa : (decide (x.f0 = 1) || decide (x.f0 = 3)) = true := by rw [hk.out]; rfl
  have gk0 : (x.f0 == 0) = false := by rw [hk.out]; rfl
  have gk : (x.f0 == 1) = true := by rw [hk.out]; rfl
  have ct : (checkI x.f1 != 0) = false := bne_eq_false_iff_eq.mpr hct.out
  have cu : (checkI x.f2 != 0) = false := bne_eq_false_iff_eq.mpr hcu.out
  have hla1 : decide (x.f3 < 1) = false := decide_eq_false hl1.out
  have hla2 : decide ((2147483648 : Int) < x.f3) = true := decide_eq_true hl2o.out
  go_enter Tryd.func50, Tryd.ntmps50
  go_wp2_with fail
  generalize ((w.alloc (.cells #[.int .i8 x.f0, .int .i8 x.f1.f0, .slice A2 x.f1.f1.length c2, .int .i8 x.f2.f0, .slice A4 x.f2.f1.length c4, .int .i64 x.f3, .bool x.f4, .slice A7 x.f5.length c7] 54)).alloc (.cells #[.int .i8 0, .slice none 0 0] 43)).alloc (.cells #[.int .i8 0, .slice none 0 0] 43) = w0 at *
  have HY := Aside0.mk (Below.refl w0.heap.size w0)
  refine (typed_calls x.f0 _).mono ?_
  rintro e w1 ⟨rfl, hB⟩
  rw [hL]
  replace HY := Aside0.mk (below_then HY.out HY.out.size hB)
  clear hB
  obtain ⟨b0, b1, b2, b3, b4, b5, b6, b7⟩ := cells8 (blk_below K0.out HY.out)
  go_wp2_with fail
  clear b0 b1 b2 b3 b4 b5 b6 b7
  refine (refCheck_calls (HT.out.below HY.out)).mono ?_
  rintro e w2 ⟨rfl, hB⟩
  replace HY := Aside0.mk (below_then HY.out HY.out.size hB)
  clear hB
  obtain ⟨b0, b1, b2, b3, b4, b5, b6, b7⟩ := cells8 (blk_below K0.out HY.out)
  go_wp2_with fail
  clear b0 b1 b2 b3 b4 b5 b6 b7
  refine (toed_calls x.f0 _).mono ?_
  rintro e w3 ⟨rfl, hB⟩
  rw [hTo]
  replace HY := Aside0.mk (below_then HY.out HY.out.size hB)
  clear hB
  obtain ⟨b0, b1, b2, b3, b4, b5, b6, b7⟩ := cells8 (blk_below K0.out HY.out)
  go_wp2_with fail
  clear b0 b1 b2 b3 b4 b5 b6 b7
  refine (refCheck_calls (HU.out.below HY.out)).mono ?_
  rintro e w4 ⟨rfl, hB⟩
  replace HY := Aside0.mk (below_then HY.out HY.out.size hB)
  clear hB
  obtain ⟨b0, b1, b2, b3, b4, b5, b6, b7⟩ := cells8 (blk_below K0.out HY.out)
  go_wp2_with fail
  clear b0 b1 b2 b3 b4 b5 b6 b7
  refine (labelled_calls x.f0 _).mono ?_
  rintro e w5 ⟨rfl, hB⟩
  rw [hLa]
  replace HY := Aside0.mk (below_then HY.out HY.out.size hB)
  clear hB
  obtain ⟨b0, b1, b2, b3, b4, b5, b6, b7⟩ := cells8 (blk_below K0.out HY.out)
  obtain ⟨c0, c1, z0, z1⟩ := cells2 (blk_below K1.out HY.out)
  obtain ⟨d0, d1, y0, y1⟩ := cells2 (blk_below K2.out HY.out)
  go_wp2_with fail
  exact retP (blk_below K1.out HY.out) (blk_below K2.out HY.out) (by omega) ⟨_, _, z43, z43, rfl, IsT.zero _, IsT.zero _, fun h => absurd h (by decide), rfl, rfl, bFar rfl (bFar rfl (below_then HW.out HW.out.size HY.out) (by omega)) (by omega)⟩
set_option maxRecDepth 100000 in
set_option maxHeartbeats 3200000 in
theorem rends_l3 {x : S54} {v : Value} {w : World} (hx : IsC w v x) (hk : Aside0 (x.f0 = 3)) (hct : Aside0 (checkI x.f1 = 0)) (hl1 : Aside0 (x.f3 < 1)) : Calls Tryd.prog 50 #[v] w (PartsPost none w) := by
  have HX := Aside0.mk hx
  obtain ⟨A2, c2, A4, c4, A7, c7, rfl, hl2, hC2, hl4, hC4, -, -⟩ := hx
  have HT := Aside0.mk (IsT.mk (k := x.f1.f0) hl2 hC2)
  have HU := Aside0.mk (IsT.mk (k := x.f2.f0) hl4 hC4)
  rw [S43.eta] at HT HU
  clear hl2 hC2 hl4 hC4
  obtain ⟨k0, k1, k2, hB⟩ := three w (.cells #[.int .i8 x.f0, .int .i8 x.f1.f0, .slice A2 x.f1.f1.length c2, .int .i8 x.f2.f0, .slice A4 x.f2.f1.length c4, .int .i64 x.f3, .bool x.f4, .slice A7 x.f5.length c7] 54) (.cells #[.int .i8 0, .slice none 0 0] 43) (.cells #[.int .i8 0, .slice none 0 0] 43)
  have K0 := Aside0.mk k0
  have K1 := Aside0.mk k1
  have K2 := Aside0.mk k2
  replace HX := Aside0.mk (HX.out.below hB)
  replace HT := Aside0.mk (HT.out.below hB)
  replace HU := Aside0.mk (HU.out.below hB)
  have HW := Aside0.mk hB
  clear hB k0 k1 k2
  have hL : leafB x.f0 = true := by rw [hk.out]; rfl
  have hTo : decide (x.f0 = 1) = false := by rw [hk.out]; rfl
  have hLa : (decide (x.f0 = 1) || decide (x.f0 = 3)) = true := by rw [hk.out]; rfl
  have gk0 : (x.f0 == 0) = false := by rw [hk.out]; rfl
  have gk1 : (x.f0 == 1) = false := by rw [hk.out]; rfl
  have gk2 : (x.f0 == 2) = false := by rw [hk.out]; rfl
  have gk : (x.f0 == 3) = true := by rw [hk.out]; rfl
  have ct : (checkI x.f1 != 0) = false := bne_eq_false_iff_eq.mpr hct.out
  have hla1 : decide (x.f3 < 1) = true := decide_eq_true hl1.out
  go_enter Tryd.func50, Tryd.ntmps50
  go_wp2_with fail
  generalize ((w.alloc (.cells #[.int .i8 x.f0, .int .i8 x.f1.f0, .slice A2 x.f1.f1.length c2, .int .i8 x.f2.f0, .slice A4 x.f2.f1.length c4, .int .i64 x.f3, .bool x.f4, .slice A7 x.f5.length c7] 54)).alloc (.cells #[.int .i8 0, .slice none 0 0] 43)).alloc (.cells #[.int .i8 0, .slice none 0 0] 43) = w0 at *
  have HY := Aside0.mk (Below.refl w0.heap.size w0)
  refine (typed_calls x.f0 _).mono ?_
  rintro e w1 ⟨rfl, hB⟩
  rw [hL]
  replace HY := Aside0.mk (below_then HY.out HY.out.size hB)
  clear hB
  obtain ⟨b0, b1, b2, b3, b4, b5, b6, b7⟩ := cells8 (blk_below K0.out HY.out)
  go_wp2_with fail
  clear b0 b1 b2 b3 b4 b5 b6 b7
  refine (refCheck_calls (HT.out.below HY.out)).mono ?_
  rintro e w2 ⟨rfl, hB⟩
  replace HY := Aside0.mk (below_then HY.out HY.out.size hB)
  clear hB
  obtain ⟨b0, b1, b2, b3, b4, b5, b6, b7⟩ := cells8 (blk_below K0.out HY.out)
  go_wp2_with fail
  clear b0 b1 b2 b3 b4 b5 b6 b7
  refine (toed_calls x.f0 _).mono ?_
  rintro e w3 ⟨rfl, hB⟩
  rw [hTo]
  replace HY := Aside0.mk (below_then HY.out HY.out.size hB)
  clear hB
  obtain ⟨b0, b1, b2, b3, b4, b5, b6, b7⟩ := cells8 (blk_below K0.out HY.out)
  go_wp2_with fail
  clear b0 b1 b2 b3 b4 b5 b6 b7
  refine (labelled_calls x.f0 _).mono ?_
  rintro e w4 ⟨rfl, hB⟩
  rw [hLa]
  replace HY := Aside0.mk (below_then HY.out HY.out.size hB)
  clear hB
  obtain ⟨b0, b1, b2, b3, b4, b5, b6, b7⟩ := cells8 (blk_below K0.out HY.out)
  obtain ⟨c0, c1, z0, z1⟩ := cells2 (blk_below K1.out HY.out)
  obtain ⟨d0, d1, y0, y1⟩ := cells2 (blk_below K2.out HY.out)
  go_wp2_with fail
  exact retP (blk_below K1.out HY.out) (blk_below K2.out HY.out) (by omega) ⟨_, _, z43, z43, rfl, IsT.zero _, IsT.zero _, fun h => absurd h (by decide), rfl, rfl, bFar rfl (bFar rfl (below_then HW.out HW.out.size HY.out) (by omega)) (by omega)⟩
set_option maxRecDepth 100000 in
set_option maxHeartbeats 3200000 in
theorem rends_m3 {x : S54} {v : Value} {w : World} (hx : IsC w v x) (hk : Aside0 (x.f0 = 3)) (hct : Aside0 (checkI x.f1 = 0)) (hl1 : Aside0 (¬ x.f3 < 1)) (hl2o : Aside0 (2147483648 < x.f3)) : Calls Tryd.prog 50 #[v] w (PartsPost none w) := by
  have HX := Aside0.mk hx
  obtain ⟨A2, c2, A4, c4, A7, c7, rfl, hl2, hC2, hl4, hC4, -, -⟩ := hx
  have HT := Aside0.mk (IsT.mk (k := x.f1.f0) hl2 hC2)
  have HU := Aside0.mk (IsT.mk (k := x.f2.f0) hl4 hC4)
  rw [S43.eta] at HT HU
  clear hl2 hC2 hl4 hC4
  obtain ⟨k0, k1, k2, hB⟩ := three w (.cells #[.int .i8 x.f0, .int .i8 x.f1.f0, .slice A2 x.f1.f1.length c2, .int .i8 x.f2.f0, .slice A4 x.f2.f1.length c4, .int .i64 x.f3, .bool x.f4, .slice A7 x.f5.length c7] 54) (.cells #[.int .i8 0, .slice none 0 0] 43) (.cells #[.int .i8 0, .slice none 0 0] 43)
  have K0 := Aside0.mk k0
  have K1 := Aside0.mk k1
  have K2 := Aside0.mk k2
  replace HX := Aside0.mk (HX.out.below hB)
  replace HT := Aside0.mk (HT.out.below hB)
  replace HU := Aside0.mk (HU.out.below hB)
  have HW := Aside0.mk hB
  clear hB k0 k1 k2
  have hL : leafB x.f0 = true := by rw [hk.out]; rfl
  have hTo : decide (x.f0 = 1) = false := by rw [hk.out]; rfl
  have hLa : (decide (x.f0 = 1) || decide (x.f0 = 3)) = true := by rw [hk.out]; rfl
  have gk0 : (x.f0 == 0) = false := by rw [hk.out]; rfl
  have gk1 : (x.f0 == 1) = false := by rw [hk.out]; rfl
  have gk2 : (x.f0 == 2) = false := by rw [hk.out]; rfl
  have gk : (x.f0 == 3) = true := by rw [hk.out]; rfl
  have ct : (checkI x.f1 != 0) = false := bne_eq_false_iff_eq.mpr hct.out
  have hla1 : decide (x.f3 < 1) = false := decide_eq_false hl1.out
  have hla2 : decide ((2147483648 : Int) < x.f3) = true := decide_eq_true hl2o.out
  go_enter Tryd.func50, Tryd.ntmps50
  go_wp2_with fail
  generalize ((w.alloc (.cells #[.int .i8 x.f0, .int .i8 x.f1.f0, .slice A2 x.f1.f1.length c2, .int .i8 x.f2.f0, .slice A4 x.f2.f1.length c4, .int .i64 x.f3, .bool x.f4, .slice A7 x.f5.length c7] 54)).alloc (.cells #[.int .i8 0, .slice none 0 0] 43)).alloc (.cells #[.int .i8 0, .slice none 0 0] 43) = w0 at *
  have HY := Aside0.mk (Below.refl w0.heap.size w0)
  refine (typed_calls x.f0 _).mono ?_
  rintro e w1 ⟨rfl, hB⟩
  rw [hL]
  replace HY := Aside0.mk (below_then HY.out HY.out.size hB)
  clear hB
  obtain ⟨b0, b1, b2, b3, b4, b5, b6, b7⟩ := cells8 (blk_below K0.out HY.out)
  go_wp2_with fail
  clear b0 b1 b2 b3 b4 b5 b6 b7
  refine (refCheck_calls (HT.out.below HY.out)).mono ?_
  rintro e w2 ⟨rfl, hB⟩
  replace HY := Aside0.mk (below_then HY.out HY.out.size hB)
  clear hB
  obtain ⟨b0, b1, b2, b3, b4, b5, b6, b7⟩ := cells8 (blk_below K0.out HY.out)
  go_wp2_with fail
  clear b0 b1 b2 b3 b4 b5 b6 b7
  refine (toed_calls x.f0 _).mono ?_
  rintro e w3 ⟨rfl, hB⟩
  rw [hTo]
  replace HY := Aside0.mk (below_then HY.out HY.out.size hB)
  clear hB
  obtain ⟨b0, b1, b2, b3, b4, b5, b6, b7⟩ := cells8 (blk_below K0.out HY.out)
  go_wp2_with fail
  clear b0 b1 b2 b3 b4 b5 b6 b7
  refine (labelled_calls x.f0 _).mono ?_
  rintro e w4 ⟨rfl, hB⟩
  rw [hLa]
  replace HY := Aside0.mk (below_then HY.out HY.out.size hB)
  clear hB
  obtain ⟨b0, b1, b2, b3, b4, b5, b6, b7⟩ := cells8 (blk_below K0.out HY.out)
  obtain ⟨c0, c1, z0, z1⟩ := cells2 (blk_below K1.out HY.out)
  obtain ⟨d0, d1, y0, y1⟩ := cells2 (blk_below K2.out HY.out)
  go_wp2_with fail
  exact retP (blk_below K1.out HY.out) (blk_below K2.out HY.out) (by omega) ⟨_, _, z43, z43, rfl, IsT.zero _, IsT.zero _, fun h => absurd h (by decide), rfl, rfl, bFar rfl (bFar rfl (below_then HW.out HW.out.size HY.out) (by omega)) (by omega)⟩
end Go.Proofs.YtjmpejbciniceaaDoor.X
