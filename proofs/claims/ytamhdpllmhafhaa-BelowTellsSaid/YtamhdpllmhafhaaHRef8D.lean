/- The contracts of the document's Below, Pos, Neg (layer 8). -/
import Derived.Test.YtamhdpllmhafhaaHRef8A
import Derived.Test.YtamhdpllmhafhaaHRef8B
import Derived.Test.YtamhdpllmhafhaaHRef8C
namespace Go.Proofs.Ytamhdpllmhafhaa.X
open Go.RowKit Go.Proofs.YtamhdpllmhafhaaW.PrintWords Go.Proofs.YtamhdpllmhafhaaW.PrintLast Go.Proofs.YtamhdpllmhafhaaW.PrintMore
set_option linter.unusedVariables false
set_option linter.unusedSimpArgs false

theorem r3_all (n : Nat) : R3 n := by
  induction n with
  | zero => intro a b va vb w h; omega
  | succ n ih =>
    intro a b va vb w hn hca hcb hA hB
    have ha := (check_nodes hca).2.2
    have hb := (check_nodes hcb).2.2
    have IH := Aside0.mk ih
    by_cases a0 : a.f0 = 0
    · obtain rfl := z26_eq ha a0
      obtain ⟨A, c, rfl, _, _⟩ := hA
      obtain ⟨B, d, rfl, _, _⟩ := hB
      by_cases b0 : b.f0 = 0
      · obtain rfl := z26_eq hb b0
        rw [bel_zz, bel_zz, bel_zz]
        exact ⟨b69_zz _ _ _ _ _ _ _ _ w rfl rfl, b71_u _ _ _ _ _ _ _ _ w rfl, b73_z _ _ _ _ _ _ _ _ w rfl⟩
      · have eb : (b.f0 == 0) = false := by simp [b0]
        rw [bel_z 0 b0, bel_z 1 b0, bel_z 2 b0]
        exact ⟨b69_z _ _ _ _ _ _ _ _ w rfl eb, b71_z _ _ _ _ _ _ _ _ w eb rfl, b73_z _ _ _ _ _ _ _ _ w rfl⟩
    have ea : (a.f0 == 0) = false := by simp [a0]
    by_cases b0 : b.f0 = 0
    · obtain rfl := z26_eq hb b0
      have hm := mu_ground ha a0 (rfl : z26.f0 = 0)
      obtain ⟨A, c, rfl, h1, h2⟩ := hA
      obtain ⟨B, d, rfl, _, _⟩ := hB
      have T0 := Aside0.mk (IsT.mk (k := a.f0) h1 h2)
      rw [S26.eta] at T0
      rw [bel_up 0 ha a0, bel_up 1 ha a0, bel_up 2 ha a0]
      exact ⟨b69_u n a A B c _ d _ w IH (.mk (by omega)) (.mk hca) (.mk a0) T0 ea rfl, b71_u _ _ _ _ _ _ _ _ w rfl, b73_u n a A B c _ d _ w IH (.mk (by omega)) (.mk hca) (.mk a0) T0 ea rfl⟩
    have eb : (b.f0 == 0) = false := by simp [b0]
    by_cases hne : a.f0 = b.f0
    · rcases right_cases ha with ⟨k, hk, rfl⟩ | ⟨k, x, y, hk, hx, hy, rfl⟩
      · rcases right_cases hb with ⟨k', hk', rfl⟩ | ⟨k', x', y', hk', hx', hy', rfl⟩
        · obtain rfl : k = k' := hne
          obtain ⟨A, c, rfl, _, _⟩ := hA
          obtain ⟨B, d, rfl, _, _⟩ := hB
          rw [bel_leaf 0 k a0, bel_leaf 1 k a0, bel_leaf 2 k a0]
          rcases hk with rfl | rfl | rfl
          · exact absurd rfl a0
          · exact ⟨b69_1 _ _ _ _ _ _ _ _ w rfl rfl rfl rfl, b71_1 _ _ _ _ _ _ _ _ w rfl rfl rfl rfl, b73_1 _ _ _ _ _ _ _ _ w rfl rfl rfl rfl⟩
          · exact ⟨b69_2 _ _ _ _ _ _ _ _ w rfl rfl rfl rfl rfl, b71_2 _ _ _ _ _ _ _ _ w rfl rfl rfl rfl rfl, b73_2 _ _ _ _ _ _ _ _ w rfl rfl rfl rfl rfl⟩
        · obtain rfl : k = k' := hne
          exact absurd hk' (leaf_ne_node hk)
      · rcases right_cases hb with ⟨k', hk', rfl⟩ | ⟨k', x', y', hk', hx', hy', rfl⟩
        · obtain rfl : k = k' := hne
          exact absurd hk (leaf_ne_node hk')
        · obtain rfl : k = k' := hne
          obtain ⟨cx, cy, _⟩ := check_two hca
          obtain ⟨cx', cy', _⟩ := check_two hcb
          obtain ⟨m1, m2, m3⟩ := @mu_parts k k x y x' y' a0
          obtain ⟨ad, c, Bx, dx, By, dy, rfl, hEA, hTX, hTY, _⟩ := hA.open2
          obtain ⟨bd, d, Bx', dx', By', dy', rfl, hEB, hTX', hTY', _⟩ := hB.open2
          have e1 : (k == 1) = false := by rcases hk with rfl | rfl | rfl <;> rfl
          have e2 : (k == 2) = false := by rcases hk with rfl | rfl | rfl <;> rfl
          rw [bel_two 0 hk hx hy hx' hy', bel_two 1 hk hx hy hx' hy', bel_two 2 hk hx hy hx' hy', otherW_0, otherW_1, otherW_2]
          by_cases h3 : k = 3
          · have e3 : (k == 3) = true := by simp [h3]
            simp only [h3, if_true]
            rw [← h3]
            refine ⟨?_, ?_, ?_⟩
            · cases r1 : bel 0 x' x with
              | false => exact b69_fun_no n k x y x' y' ad bd c d Bx By Bx' By' dx dy dx' dy' _ w IH (.mk ⟨by omega, by omega⟩) (.mk cx') (.mk cx) (.mk cy) (.mk cy') (.mk hTX) (.mk hTY) (.mk hTX') (.mk hTY') (.mk hEA) (.mk hEB) ea e1 e2 e3 (.mk r1) (.mk rfl)
              | true => exact b69_fun_yes n k x y x' y' ad bd c d Bx By Bx' By' dx dy dx' dy' _ w IH (.mk ⟨by omega, by omega⟩) (.mk cx') (.mk cx) (.mk cy) (.mk cy') (.mk hTX) (.mk hTY) (.mk hTX') (.mk hTY') (.mk hEA) (.mk hEB) ea e1 e2 e3 (.mk r1) (.mk rfl)
            · cases r1 : bel 2 x' x with
              | false => exact b71_fun_no n k x y x' y' ad bd c d Bx By Bx' By' dx dy dx' dy' _ w IH (.mk ⟨by omega, by omega⟩) (.mk cx') (.mk cx) (.mk cy) (.mk cy') (.mk hTX) (.mk hTY) (.mk hTX') (.mk hTY') (.mk hEA) (.mk hEB) ea e1 e2 e3 (.mk r1) (.mk rfl)
              | true => exact b71_fun_yes n k x y x' y' ad bd c d Bx By Bx' By' dx dy dx' dy' _ w IH (.mk ⟨by omega, by omega⟩) (.mk cx') (.mk cx) (.mk cy) (.mk cy') (.mk hTX) (.mk hTY) (.mk hTX') (.mk hTY') (.mk hEA) (.mk hEB) ea e1 e2 e3 (.mk r1) (.mk rfl)
            · cases r1 : bel 1 x' x with
              | false => exact b73_fun_no n k x y x' y' ad bd c d Bx By Bx' By' dx dy dx' dy' _ w IH (.mk ⟨by omega, by omega⟩) (.mk cx') (.mk cx) (.mk cy) (.mk cy') (.mk hTX) (.mk hTY) (.mk hTX') (.mk hTY') (.mk hEA) (.mk hEB) ea e1 e2 e3 (.mk r1) (.mk rfl)
              | true => exact b73_fun_yes n k x y x' y' ad bd c d Bx By Bx' By' dx dy dx' dy' _ w IH (.mk ⟨by omega, by omega⟩) (.mk cx') (.mk cx) (.mk cy) (.mk cy') (.mk hTX) (.mk hTY) (.mk hTX') (.mk hTY') (.mk hEA) (.mk hEB) ea e1 e2 e3 (.mk r1) (.mk rfl)
          · have e3 : (k == 3) = false := by simp [h3]
            simp only [h3, if_false]
            refine ⟨?_, ?_, ?_⟩
            · cases r1 : bel 0 x x' with
              | false => exact b69_two_no n k x y x' y' ad bd c d Bx By Bx' By' dx dy dx' dy' _ w IH (.mk ⟨by omega, by omega⟩) (.mk cx) (.mk cx') (.mk cy) (.mk cy') (.mk hTX) (.mk hTY) (.mk hTX') (.mk hTY') (.mk hEA) (.mk hEB) ea e1 e2 e3 (.mk r1) (.mk rfl)
              | true => exact b69_two_yes n k x y x' y' ad bd c d Bx By Bx' By' dx dy dx' dy' _ w IH (.mk ⟨by omega, by omega⟩) (.mk cx) (.mk cx') (.mk cy) (.mk cy') (.mk hTX) (.mk hTY) (.mk hTX') (.mk hTY') (.mk hEA) (.mk hEB) ea e1 e2 e3 (.mk r1) (.mk rfl)
            · cases r1 : bel 1 x x' with
              | false => exact b71_two_no n k x y x' y' ad bd c d Bx By Bx' By' dx dy dx' dy' _ w IH (.mk ⟨by omega, by omega⟩) (.mk cx) (.mk cx') (.mk cy) (.mk cy') (.mk hTX) (.mk hTY) (.mk hTX') (.mk hTY') (.mk hEA) (.mk hEB) ea e1 e2 e3 (.mk r1) (.mk rfl)
              | true => exact b71_two_yes n k x y x' y' ad bd c d Bx By Bx' By' dx dy dx' dy' _ w IH (.mk ⟨by omega, by omega⟩) (.mk cx) (.mk cx') (.mk cy) (.mk cy') (.mk hTX) (.mk hTY) (.mk hTX') (.mk hTY') (.mk hEA) (.mk hEB) ea e1 e2 e3 (.mk r1) (.mk rfl)
            · cases r1 : bel 2 x x' with
              | false => exact b73_two_no n k x y x' y' ad bd c d Bx By Bx' By' dx dy dx' dy' _ w IH (.mk ⟨by omega, by omega⟩) (.mk cx) (.mk cx') (.mk cy) (.mk cy') (.mk hTX) (.mk hTY) (.mk hTX') (.mk hTY') (.mk hEA) (.mk hEB) ea e1 e2 e3 (.mk r1) (.mk rfl)
              | true => exact b73_two_yes n k x y x' y' ad bd c d Bx By Bx' By' dx dy dx' dy' _ w IH (.mk ⟨by omega, by omega⟩) (.mk cx) (.mk cx') (.mk cy) (.mk cy') (.mk hTX) (.mk hTY) (.mk hTX') (.mk hTY') (.mk hEA) (.mk hEB) ea e1 e2 e3 (.mk r1) (.mk rfl)
    · have hn : (a.f0 != b.f0) = true := bne_iff_ne.mpr hne
      obtain ⟨A, c, rfl, _, _⟩ := hA
      obtain ⟨B, d, rfl, _, _⟩ := hB
      rw [bel_ne 0 a0 b0 hne, bel_ne 1 a0 b0 hne, bel_ne 2 a0 b0 hne]
      exact ⟨b69_ne _ _ _ _ _ _ _ _ w ea eb hn, b71_ne _ _ _ _ _ _ _ _ w eb ea hn, b73_ne _ _ _ _ _ _ _ _ w eb ea hn⟩

set_option maxRecDepth 100000 in
set_option maxHeartbeats 1600000 in
theorem refBelow_calls {a b : S26} {va vb : Value} {w : World} (ha : IsT w va a) (hb : IsT w vb b) : Calls Try.prog 32 #[va, vb] w (BPost (relB 0 a b) w) := by
  have T0 := Aside0.mk ha
  have T1 := Aside0.mk hb
  obtain ⟨A, c, rfl, _, _⟩ := ha
  obtain ⟨B, d, rfl, _, _⟩ := hb
  cases hr : (decide (checkI a = 0) && decide (checkI b = 0)) with
  | false =>
    have HV : Aside0 (relB 0 a b = false) := .mk (by rw [relB, hr]; rfl)
    have RR := Aside0.mk hr
    clear hr
    rw [HV.out]
    go_enter Try.func32, Try.ntmps32
    go_wp2_with fail
    refine (r8right_calls (T0.out.below (below2 ..)) (T1.out.below (below2 ..))).mono ?_
    rw [RR.out]
    rintro e w1 ⟨rfl, hB⟩
    have HB := Aside0.mk (below_then (below2 ..) (below2 ..).size hB)
    clear hB
    go_wp2_with fail
    go_ret
    exact ⟨rfl, HB.out⟩
  | true =>
    have HV : Aside0 (relB 0 a b = bel 0 a b) := .mk (by rw [relB, hr]; rfl)
    have RR := Aside0.mk hr
    rw [Bool.and_eq_true, decide_eq_true_eq, decide_eq_true_eq] at hr
    have HC := Aside0.mk hr
    clear hr
    rw [HV.out]
    go_enter Try.func32, Try.ntmps32
    go_wp2_with fail
    refine (r8right_calls (T0.out.below (below2 ..)) (T1.out.below (below2 ..))).mono ?_
    rw [RR.out]
    rintro e w1 ⟨rfl, hB⟩
    obtain ⟨b1, b2, hB1⟩ := two_blocks hB
    have HB := Aside0.mk hB1
    have K1 := Aside0.mk b1
    have K2 := Aside0.mk b2
    replace T0 := Aside0.mk (IsT.below T0.out hB1)
    replace T1 := Aside0.mk (IsT.below T1.out hB1)
    clear hB hB1 b1 b2
    obtain ⟨e10, e11⟩ := c26_of K1.out (Below.refl _ _)
    have q1 := blk_lt K1.out
    obtain ⟨e20, e21⟩ := c26_of K2.out (Below.refl _ _)
    have q2 := blk_lt K2.out
    go_wp2_with fail
    refine (r3_all _ a b _ _ _ (Nat.lt_succ_self _) HC.out.1 HC.out.2 T0.out T1.out).1.mono ?_
    rintro e w2 ⟨rfl, hB⟩
    have HB2 := Aside0.mk (below_then HB.out HB.out.size hB)
    clear hB e10 e11 e20 e21 K1 K2
    go_wp2_with fail
    go_ret
    exact ⟨rfl, HB2.out⟩
set_option maxRecDepth 100000 in
set_option maxHeartbeats 1600000 in
theorem refPos_calls {a b : S26} {va vb : Value} {w : World} (ha : IsT w va a) (hb : IsT w vb b) : Calls Try.prog 34 #[va, vb] w (BPost (relB 1 a b) w) := by
  have T0 := Aside0.mk ha
  have T1 := Aside0.mk hb
  obtain ⟨A, c, rfl, _, _⟩ := ha
  obtain ⟨B, d, rfl, _, _⟩ := hb
  cases hr : (decide (checkI a = 0) && decide (checkI b = 0)) with
  | false =>
    have HV : Aside0 (relB 1 a b = false) := .mk (by rw [relB, hr]; rfl)
    have RR := Aside0.mk hr
    clear hr
    rw [HV.out]
    go_enter Try.func34, Try.ntmps34
    go_wp2_with fail
    refine (r8right_calls (T0.out.below (below2 ..)) (T1.out.below (below2 ..))).mono ?_
    rw [RR.out]
    rintro e w1 ⟨rfl, hB⟩
    have HB := Aside0.mk (below_then (below2 ..) (below2 ..).size hB)
    clear hB
    go_wp2_with fail
    go_ret
    exact ⟨rfl, HB.out⟩
  | true =>
    have HV : Aside0 (relB 1 a b = bel 1 a b) := .mk (by rw [relB, hr]; rfl)
    have RR := Aside0.mk hr
    rw [Bool.and_eq_true, decide_eq_true_eq, decide_eq_true_eq] at hr
    have HC := Aside0.mk hr
    clear hr
    rw [HV.out]
    go_enter Try.func34, Try.ntmps34
    go_wp2_with fail
    refine (r8right_calls (T0.out.below (below2 ..)) (T1.out.below (below2 ..))).mono ?_
    rw [RR.out]
    rintro e w1 ⟨rfl, hB⟩
    obtain ⟨b1, b2, hB1⟩ := two_blocks hB
    have HB := Aside0.mk hB1
    have K1 := Aside0.mk b1
    have K2 := Aside0.mk b2
    replace T0 := Aside0.mk (IsT.below T0.out hB1)
    replace T1 := Aside0.mk (IsT.below T1.out hB1)
    clear hB hB1 b1 b2
    obtain ⟨e10, e11⟩ := c26_of K1.out (Below.refl _ _)
    have q1 := blk_lt K1.out
    obtain ⟨e20, e21⟩ := c26_of K2.out (Below.refl _ _)
    have q2 := blk_lt K2.out
    go_wp2_with fail
    refine (r3_all _ a b _ _ _ (Nat.lt_succ_self _) HC.out.1 HC.out.2 T0.out T1.out).2.1.mono ?_
    rintro e w2 ⟨rfl, hB⟩
    have HB2 := Aside0.mk (below_then HB.out HB.out.size hB)
    clear hB e10 e11 e20 e21 K1 K2
    go_wp2_with fail
    go_ret
    exact ⟨rfl, HB2.out⟩
set_option maxRecDepth 100000 in
set_option maxHeartbeats 1600000 in
theorem refNeg_calls {a b : S26} {va vb : Value} {w : World} (ha : IsT w va a) (hb : IsT w vb b) : Calls Try.prog 36 #[va, vb] w (BPost (relB 2 a b) w) := by
  have T0 := Aside0.mk ha
  have T1 := Aside0.mk hb
  obtain ⟨A, c, rfl, _, _⟩ := ha
  obtain ⟨B, d, rfl, _, _⟩ := hb
  cases hr : (decide (checkI a = 0) && decide (checkI b = 0)) with
  | false =>
    have HV : Aside0 (relB 2 a b = false) := .mk (by rw [relB, hr]; rfl)
    have RR := Aside0.mk hr
    clear hr
    rw [HV.out]
    go_enter Try.func36, Try.ntmps36
    go_wp2_with fail
    refine (r8right_calls (T0.out.below (below2 ..)) (T1.out.below (below2 ..))).mono ?_
    rw [RR.out]
    rintro e w1 ⟨rfl, hB⟩
    have HB := Aside0.mk (below_then (below2 ..) (below2 ..).size hB)
    clear hB
    go_wp2_with fail
    go_ret
    exact ⟨rfl, HB.out⟩
  | true =>
    have HV : Aside0 (relB 2 a b = bel 2 a b) := .mk (by rw [relB, hr]; rfl)
    have RR := Aside0.mk hr
    rw [Bool.and_eq_true, decide_eq_true_eq, decide_eq_true_eq] at hr
    have HC := Aside0.mk hr
    clear hr
    rw [HV.out]
    go_enter Try.func36, Try.ntmps36
    go_wp2_with fail
    refine (r8right_calls (T0.out.below (below2 ..)) (T1.out.below (below2 ..))).mono ?_
    rw [RR.out]
    rintro e w1 ⟨rfl, hB⟩
    obtain ⟨b1, b2, hB1⟩ := two_blocks hB
    have HB := Aside0.mk hB1
    have K1 := Aside0.mk b1
    have K2 := Aside0.mk b2
    replace T0 := Aside0.mk (IsT.below T0.out hB1)
    replace T1 := Aside0.mk (IsT.below T1.out hB1)
    clear hB hB1 b1 b2
    obtain ⟨e10, e11⟩ := c26_of K1.out (Below.refl _ _)
    have q1 := blk_lt K1.out
    obtain ⟨e20, e21⟩ := c26_of K2.out (Below.refl _ _)
    have q2 := blk_lt K2.out
    go_wp2_with fail
    refine (r3_all _ a b _ _ _ (Nat.lt_succ_self _) HC.out.1 HC.out.2 T0.out T1.out).2.2.mono ?_
    rintro e w2 ⟨rfl, hB⟩
    have HB2 := Aside0.mk (below_then HB.out HB.out.size hB)
    clear hB e10 e11 e20 e21 K1 K2
    go_wp2_with fail
    go_ret
    exact ⟨rfl, HB2.out⟩
end Go.Proofs.Ytamhdpllmhafhaa.X
