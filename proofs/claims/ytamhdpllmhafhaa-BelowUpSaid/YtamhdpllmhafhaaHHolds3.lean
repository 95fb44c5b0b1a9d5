/- The contracts of package below: holds, and Below, Pos, Neg. -/
import Derived.Test.YtamhdpllmhafhaaHHolds0
import Derived.Test.YtamhdpllmhafhaaHHolds1
import Derived.Test.YtamhdpllmhafhaaHHolds2
import Derived.Test.YtamhdpllmhafhaaHTake
import Derived.Test.YtamhdpllmhafhaaHGround
import Derived.RegionTactic
import Derived.ChangeAlike
import Derived.BigRegion
namespace Go.Proofs.Ytamhdpllmhafhaa.X
open Go.RowKit Go.Proofs.YtamhdpllmhafhaaW.PrintWords Go.Proofs.YtamhdpllmhafhaaW.PrintLast Go.Proofs.YtamhdpllmhafhaaW.PrintMore
set_option linter.unusedVariables false
set_option linter.unusedSimpArgs false

attribute [local go_sem] run_store_func eq76
set_option maxRecDepth 100000 in
set_option maxHeartbeats 1600000 in
theorem h0_u (a : S26) (A : Option Addr) (c : Nat) (k1 : Int) (B : Option Addr) (n1 d : Nat) (w : World) (n : Nat) (IH : Aside0 (H3 n)) (HM : Aside0 (mu a (groundS a) < n)) (HC : Aside0 (checkI a = 0)) (HZ : Aside0 (a.f0 ≠ 0)) (T0 : Aside0 (IsT w (.agg #[.int .i8 a.f0, .slice A a.f1.length c]) a)) (z0 : (a.f0 == 0) = false) (z1 : (k1 == 0) = true) :
    Calls Try.prog 66 #[.agg #[.func (Fn.func 88) #[] #[], .bool false, .func (Fn.func 67) #[] #[]], .agg #[.int .i8 a.f0, .slice A a.f1.length c, .int .i8 k1, .slice B n1 d]] w (BPost (bel 0 a (groundS a)) w) := by
  go_enter Try.func66, Try.ntmps66
  go_wp2_with fail
  refine (up88 n a A c k1 B n1 d _ IH HM HC HZ (Aside0.mk (T0.out.below (below3 ..)))).mono ?_
  rintro e w1 ⟨rfl, hB⟩
  have HB := Aside0.mk (below_then (below3 ..) (below3 ..).size hB)
  clear hB
  go_wp2_with fail
  go_ret
  exact ⟨rfl, HB.out⟩
set_option maxRecDepth 100000 in
set_option maxHeartbeats 1600000 in
theorem h1_u (a : S26) (A : Option Addr) (c : Nat) (k1 : Int) (B : Option Addr) (n1 d : Nat) (w : World) (z0 : (a.f0 == 0) = false) (z1 : (k1 == 0) = true) :
    Calls Try.prog 66 #[.agg #[.func (Fn.func 91) #[] #[], .bool false, .func (Fn.func 72) #[] #[]], .agg #[.int .i8 a.f0, .slice A a.f1.length c, .int .i8 k1, .slice B n1 d]] w (BPost true w) := by
  go_enter Try.func66, Try.ntmps66
  go_wp2_with fail
  refine (up91 a.f0 k1 A B a.f1.length n1 c d _).mono ?_
  rintro e w1 ⟨rfl, hB⟩
  have HB := Aside0.mk (below_then (below3 ..) (below3 ..).size hB)
  clear hB
  go_wp2_with fail
  go_ret
  exact ⟨rfl, HB.out⟩
set_option maxRecDepth 100000 in
set_option maxHeartbeats 1600000 in
theorem h2_u (a : S26) (A : Option Addr) (c : Nat) (k1 : Int) (B : Option Addr) (n1 d : Nat) (w : World) (n : Nat) (IH : Aside0 (H3 n)) (HM : Aside0 (mu a (groundS a) < n)) (HC : Aside0 (checkI a = 0)) (HZ : Aside0 (a.f0 ≠ 0)) (T0 : Aside0 (IsT w (.agg #[.int .i8 a.f0, .slice A a.f1.length c]) a)) (z0 : (a.f0 == 0) = false) (z1 : (k1 == 0) = true) :
    Calls Try.prog 66 #[.agg #[.func (Fn.func 92) #[] #[], .bool true, .func (Fn.func 70) #[] #[]], .agg #[.int .i8 a.f0, .slice A a.f1.length c, .int .i8 k1, .slice B n1 d]] w (BPost (bel 2 a (groundS a)) w) := by
  go_enter Try.func66, Try.ntmps66
  go_wp2_with fail
  refine (up92 n a A c k1 B n1 d _ IH HM HC HZ (Aside0.mk (T0.out.below (below3 ..)))).mono ?_
  rintro e w1 ⟨rfl, hB⟩
  have HB := Aside0.mk (below_then (below3 ..) (below3 ..).size hB)
  clear hB
  go_wp2_with fail
  go_ret
  exact ⟨rfl, HB.out⟩
theorem h3_all (n : Nat) : H3 n := by
  induction n with
  | zero => intro a A c b B d w h; omega
  | succ n ih =>
    intro a A c b B d w hn hca hcb hA hB
    have ha := (check_nodes hca).2.2
    have hb := (check_nodes hcb).2.2
    have IH := Aside0.mk ih
    by_cases a0 : a.f0 = 0
    · obtain rfl := z26_eq ha a0
      by_cases b0 : b.f0 = 0
      · obtain rfl := z26_eq hb b0
        rw [bel_zz, bel_zz, bel_zz]
        exact ⟨h0_zz _ _ _ _ _ _ _ _ w rfl rfl, h1_zz _ _ _ _ _ _ _ _ w rfl rfl, h2_zz _ _ _ _ _ _ _ _ w rfl rfl⟩
      · have eb : (b.f0 == 0) = false := by simp [b0]
        rw [bel_z 0 b0, bel_z 1 b0, bel_z 2 b0]
        exact ⟨h0_z _ _ _ _ _ _ _ _ w rfl eb, h1_z _ _ _ _ _ _ _ _ w rfl eb, h2_z _ _ _ _ _ _ _ _ w rfl eb⟩
    have ea : (a.f0 == 0) = false := by simp [a0]
    by_cases b0 : b.f0 = 0
    · obtain rfl := z26_eq hb b0
      have hm := mu_ground ha a0 (rfl : z26.f0 = 0)
      rw [bel_up 0 ha a0, bel_up 1 ha a0, bel_up 2 ha a0]
      exact ⟨h0_u a A c _ B _ d w n IH (.mk (by omega)) (.mk hca) (.mk a0) (.mk hA) ea rfl, h1_u a A c _ B _ d w ea rfl, h2_u a A c _ B _ d w n IH (.mk (by omega)) (.mk hca) (.mk a0) (.mk hA) ea rfl⟩
    have eb : (b.f0 == 0) = false := by simp [b0]
    by_cases hne : a.f0 = b.f0
    · rcases right_cases ha with ⟨k, hk, rfl⟩ | ⟨k, x, y, hk, hx, hy, rfl⟩
      · rcases right_cases hb with ⟨k', hk', rfl⟩ | ⟨k', x', y', hk', hx', hy', rfl⟩
        · obtain rfl : k = k' := hne
          have en : (k != k) = false := by simp
          rw [bel_leaf 0 k a0, bel_leaf 1 k a0, bel_leaf 2 k a0]
          exact ⟨h0_leaf _ _ _ _ _ _ _ _ w ea eb en rfl, h1_leaf _ _ _ _ _ _ _ _ w ea eb en rfl, h2_leaf _ _ _ _ _ _ _ _ w ea eb en rfl⟩
        · obtain rfl : k = k' := hne
          exact absurd hk' (leaf_ne_node hk)
      · rcases right_cases hb with ⟨k', hk', rfl⟩ | ⟨k', x', y', hk', hx', hy', rfl⟩
        · obtain rfl : k = k' := hne
          exact absurd hk (leaf_ne_node hk')
        · obtain rfl : k = k' := hne
          obtain ⟨cx, cy, _⟩ := check_two hca
          obtain ⟨cx', cy', _⟩ := check_two hcb
          obtain ⟨m1, m2, m3⟩ := @mu_parts k k x y x' y' a0
          obtain ⟨ad, c1, Bx, dx, By, dy, ev, hEA, hTX, hTY, _⟩ := hA.open2
          obtain ⟨bd, d1, Bx', dx', By', dy', ev', hEB, hTX', hTY', _⟩ := hB.open2
          obtain ⟨rfl, rfl⟩ : A = some ad ∧ c = c1 := by simpa using ev
          obtain ⟨rfl, rfl⟩ : B = some bd ∧ d = d1 := by simpa using ev'
          rw [bel_two 0 hk hx hy hx' hy', bel_two 1 hk hx hy hx' hy', bel_two 2 hk hx hy hx' hy', otherW_0, otherW_1, otherW_2]
          by_cases h3 : k = 3
          · have e3 : (k == 3) = true := by simp [h3]
            simp only [h3, if_true]
            rw [← h3]
            refine ⟨?_, ?_, ?_⟩
            · cases r1 : bel 0 x' x with
              | false => exact h0_fun_no n k x y x' y' ad bd c d Bx By Bx' By' dx dy dx' dy' _ w IH (.mk ⟨by omega, by omega⟩) (.mk cx') (.mk cx) (.mk cy) (.mk cy') (.mk hTX) (.mk hTY) (.mk hTX') (.mk hTY') (.mk hEA) (.mk hEB) ea e3 (.mk r1) (.mk rfl)
              | true => exact h0_fun_yes n k x y x' y' ad bd c d Bx By Bx' By' dx dy dx' dy' _ w IH (.mk ⟨by omega, by omega⟩) (.mk cx') (.mk cx) (.mk cy) (.mk cy') (.mk hTX) (.mk hTY) (.mk hTX') (.mk hTY') (.mk hEA) (.mk hEB) ea e3 (.mk r1) (.mk rfl)
            · cases r1 : bel 2 x' x with
              | false => exact h1_fun_no n k x y x' y' ad bd c d Bx By Bx' By' dx dy dx' dy' _ w IH (.mk ⟨by omega, by omega⟩) (.mk cx') (.mk cx) (.mk cy) (.mk cy') (.mk hTX) (.mk hTY) (.mk hTX') (.mk hTY') (.mk hEA) (.mk hEB) ea e3 (.mk r1) (.mk rfl)
              | true => exact h1_fun_yes n k x y x' y' ad bd c d Bx By Bx' By' dx dy dx' dy' _ w IH (.mk ⟨by omega, by omega⟩) (.mk cx') (.mk cx) (.mk cy) (.mk cy') (.mk hTX) (.mk hTY) (.mk hTX') (.mk hTY') (.mk hEA) (.mk hEB) ea e3 (.mk r1) (.mk rfl)
            · cases r1 : bel 1 x' x with
              | false => exact h2_fun_no n k x y x' y' ad bd c d Bx By Bx' By' dx dy dx' dy' _ w IH (.mk ⟨by omega, by omega⟩) (.mk cx') (.mk cx) (.mk cy) (.mk cy') (.mk hTX) (.mk hTY) (.mk hTX') (.mk hTY') (.mk hEA) (.mk hEB) ea e3 (.mk r1) (.mk rfl)
              | true => exact h2_fun_yes n k x y x' y' ad bd c d Bx By Bx' By' dx dy dx' dy' _ w IH (.mk ⟨by omega, by omega⟩) (.mk cx') (.mk cx) (.mk cy) (.mk cy') (.mk hTX) (.mk hTY) (.mk hTX') (.mk hTY') (.mk hEA) (.mk hEB) ea e3 (.mk r1) (.mk rfl)
          · have e3 : (k == 3) = false := by simp [h3]
            simp only [h3, if_false]
            refine ⟨?_, ?_, ?_⟩
            · cases r1 : bel 0 x x' with
              | false => exact h0_two_no n k x y x' y' ad bd c d Bx By Bx' By' dx dy dx' dy' _ w IH (.mk ⟨by omega, by omega⟩) (.mk cx) (.mk cx') (.mk cy) (.mk cy') (.mk hTX) (.mk hTY) (.mk hTX') (.mk hTY') (.mk hEA) (.mk hEB) ea e3 (.mk r1) (.mk rfl)
              | true => exact h0_two_yes n k x y x' y' ad bd c d Bx By Bx' By' dx dy dx' dy' _ w IH (.mk ⟨by omega, by omega⟩) (.mk cx) (.mk cx') (.mk cy) (.mk cy') (.mk hTX) (.mk hTY) (.mk hTX') (.mk hTY') (.mk hEA) (.mk hEB) ea e3 (.mk r1) (.mk rfl)
            · cases r1 : bel 1 x x' with
              | false => exact h1_two_no n k x y x' y' ad bd c d Bx By Bx' By' dx dy dx' dy' _ w IH (.mk ⟨by omega, by omega⟩) (.mk cx) (.mk cx') (.mk cy) (.mk cy') (.mk hTX) (.mk hTY) (.mk hTX') (.mk hTY') (.mk hEA) (.mk hEB) ea e3 (.mk r1) (.mk rfl)
              | true => exact h1_two_yes n k x y x' y' ad bd c d Bx By Bx' By' dx dy dx' dy' _ w IH (.mk ⟨by omega, by omega⟩) (.mk cx) (.mk cx') (.mk cy) (.mk cy') (.mk hTX) (.mk hTY) (.mk hTX') (.mk hTY') (.mk hEA) (.mk hEB) ea e3 (.mk r1) (.mk rfl)
            · cases r1 : bel 2 x x' with
              | false => exact h2_two_no n k x y x' y' ad bd c d Bx By Bx' By' dx dy dx' dy' _ w IH (.mk ⟨by omega, by omega⟩) (.mk cx) (.mk cx') (.mk cy) (.mk cy') (.mk hTX) (.mk hTY) (.mk hTX') (.mk hTY') (.mk hEA) (.mk hEB) ea e3 (.mk r1) (.mk rfl)
              | true => exact h2_two_yes n k x y x' y' ad bd c d Bx By Bx' By' dx dy dx' dy' _ w IH (.mk ⟨by omega, by omega⟩) (.mk cx) (.mk cx') (.mk cy) (.mk cy') (.mk hTX) (.mk hTY) (.mk hTX') (.mk hTY') (.mk hEA) (.mk hEB) ea e3 (.mk r1) (.mk rfl)
    · have hn : (a.f0 != b.f0) = true := bne_iff_ne.mpr hne
      rw [bel_ne 0 a0 b0 hne, bel_ne 1 a0 b0 hne, bel_ne 2 a0 b0 hne]
      exact ⟨h0_ne _ _ _ _ _ _ _ _ w ea eb hn, h1_ne _ _ _ _ _ _ _ _ w ea eb hn, h2_ne _ _ _ _ _ _ _ _ w ea eb hn⟩
set_option maxRecDepth 100000 in
set_option maxHeartbeats 1600000 in
theorem asked0 (a b : S26) (A B : Option Addr) (c d : Nat) (w : World) (hA : IsT w (.agg #[.int .i8 a.f0, .slice A a.f1.length c]) a) (hB : IsT w (.agg #[.int .i8 b.f0, .slice B b.f1.length d]) b) :
    Calls Try.prog 65 #[.func (Fn.func 66) #[] #[], .agg #[.func (Fn.func 88) #[] #[], .bool false, .func (Fn.func 67) #[] #[]], .agg #[.int .i8 a.f0, .slice A a.f1.length c], .agg #[.int .i8 b.f0, .slice B b.f1.length d]] w (BPost (relB 0 a b) w) := by
  have T0 := Aside0.mk hA
  have T1 := Aside0.mk hB
  clear hA hB
  by_cases h1 : checkI a = 0
  · by_cases h2 : checkI b = 0
    · have HV : Aside0 (relB 0 a b = bel 0 a b) := .mk (by simp [relB, h1, h2])
      rw [HV.out]
      have C0 := Aside0.mk h1
      have C1 := Aside0.mk h2
      clear h1 h2
      go_enter Try.func65, Try.ntmps65
      go_wp2_with fail
      refine (Check_calls (T0.out.below (below3 ..))).mono ?_
      rw [C0.out]
      rintro e w1 ⟨rfl, hB⟩
      obtain ⟨b1, b2, b3, hB1⟩ := three_blocks hB
      have HB := Aside0.mk hB1
      have K1 := Aside0.mk b1
      have K2 := Aside0.mk b2
      have K3 := Aside0.mk b3
      replace T0 := Aside0.mk (IsT.below T0.out hB1)
      replace T1 := Aside0.mk (IsT.below T1.out hB1)
      clear hB hB1 b1 b2 b3
      have f0 : w1.cell? ⟨w.heap.size, 0, none⟩ = some (.func (Fn.func 88) #[] #[]) := (blk_cell K1.out 0).trans rfl
      have f1 : w1.cell? ⟨w.heap.size, 1, none⟩ = some (.bool false) := (blk_cell K1.out 1).trans rfl
      have f2 : w1.cell? ⟨w.heap.size, 2, none⟩ = some (.func (Fn.func 67) #[] #[]) := (blk_cell K1.out 2).trans rfl
      obtain ⟨e20, e21⟩ := c26_of K2.out (Below.refl _ _)
      obtain ⟨e30, e31⟩ := c26_of K3.out (Below.refl _ _)
      go_wp2_with fail
      refine (Check_calls T1.out).mono ?_
      rw [C1.out]
      rintro e w2 ⟨rfl, hB⟩
      replace K1 := Aside0.mk (blk_below K1.out hB)
      replace K2 := Aside0.mk (blk_below K2.out hB)
      replace K3 := Aside0.mk (blk_below K3.out hB)
      replace T0 := Aside0.mk (IsT.below T0.out hB)
      replace T1 := Aside0.mk (IsT.below T1.out hB)
      replace HB := Aside0.mk (below_then HB.out HB.out.size hB)
      clear hB f0 f1 f2 e20 e21 e30 e31
      have f0 : w2.cell? ⟨w.heap.size, 0, none⟩ = some (.func (Fn.func 88) #[] #[]) := (blk_cell K1.out 0).trans rfl
      have f1 : w2.cell? ⟨w.heap.size, 1, none⟩ = some (.bool false) := (blk_cell K1.out 1).trans rfl
      have f2 : w2.cell? ⟨w.heap.size, 2, none⟩ = some (.func (Fn.func 67) #[] #[]) := (blk_cell K1.out 2).trans rfl
      obtain ⟨e20, e21⟩ := c26_of K2.out (Below.refl _ _)
      obtain ⟨e30, e31⟩ := c26_of K3.out (Below.refl _ _)
      go_wp2_with fail
      refine (h3_all _ a A c b B d _ (Nat.lt_succ_self _) C0.out C1.out T0.out T1.out).1.mono ?_
      rintro e w3 ⟨rfl, hB⟩
      replace HB := Aside0.mk (below_then HB.out HB.out.size hB)
      clear hB f0 f1 f2 e20 e21 e30 e31
      go_wp2_with fail
      go_ret
      exact ⟨rfl, HB.out⟩
    · have HV : Aside0 (relB 0 a b = false) := .mk (by simp [relB, h2])
      rw [HV.out]
      have C0 := Aside0.mk h1
      have d2 : (checkI b == 0) = false := by simp [h2]
      clear h1 h2
      go_enter Try.func65, Try.ntmps65
      go_wp2_with fail
      refine (Check_calls (T0.out.below (below3 ..))).mono ?_
      rw [C0.out]
      rintro e w1 ⟨rfl, hB⟩
      obtain ⟨b1, b2, b3, hB1⟩ := three_blocks hB
      have HB := Aside0.mk hB1
      have K1 := Aside0.mk b1
      have K2 := Aside0.mk b2
      have K3 := Aside0.mk b3
      replace T0 := Aside0.mk (IsT.below T0.out hB1)
      replace T1 := Aside0.mk (IsT.below T1.out hB1)
      clear hB hB1 b1 b2 b3
      have f0 : w1.cell? ⟨w.heap.size, 0, none⟩ = some (.func (Fn.func 88) #[] #[]) := (blk_cell K1.out 0).trans rfl
      have f1 : w1.cell? ⟨w.heap.size, 1, none⟩ = some (.bool false) := (blk_cell K1.out 1).trans rfl
      have f2 : w1.cell? ⟨w.heap.size, 2, none⟩ = some (.func (Fn.func 67) #[] #[]) := (blk_cell K1.out 2).trans rfl
      obtain ⟨e20, e21⟩ := c26_of K2.out (Below.refl _ _)
      obtain ⟨e30, e31⟩ := c26_of K3.out (Below.refl _ _)
      go_wp2_with fail
      refine (Check_calls T1.out).mono ?_
      rintro e w2 ⟨rfl, hB⟩
      replace HB := Aside0.mk (below_then HB.out HB.out.size hB)
      clear hB f0 f1 f2 e20 e21 e30 e31
      go_wp2_with fail
      go_ret
      exact ⟨rfl, HB.out⟩
  · have HV : Aside0 (relB 0 a b = false) := .mk (by simp [relB, h1])
    rw [HV.out]
    have d1 : (checkI a == 0) = false := by simp [h1]
    clear h1
    go_enter Try.func65, Try.ntmps65
    go_wp2_with fail
    refine (Check_calls (T0.out.below (below3 ..))).mono ?_
    rintro e w1 ⟨rfl, hB⟩
    have HB := Aside0.mk (below_then (below3 ..) (below3 ..).size hB)
    clear hB
    go_wp2_with fail
    go_ret
    exact ⟨rfl, HB.out⟩
set_option maxRecDepth 100000 in
set_option maxHeartbeats 1600000 in
theorem asked1 (a b : S26) (A B : Option Addr) (c d : Nat) (w : World) (hA : IsT w (.agg #[.int .i8 a.f0, .slice A a.f1.length c]) a) (hB : IsT w (.agg #[.int .i8 b.f0, .slice B b.f1.length d]) b) :
    Calls Try.prog 65 #[.func (Fn.func 66) #[] #[], .agg #[.func (Fn.func 91) #[] #[], .bool false, .func (Fn.func 72) #[] #[]], .agg #[.int .i8 a.f0, .slice A a.f1.length c], .agg #[.int .i8 b.f0, .slice B b.f1.length d]] w (BPost (relB 1 a b) w) := by
  have T0 := Aside0.mk hA
  have T1 := Aside0.mk hB
  clear hA hB
  by_cases h1 : checkI a = 0
  · by_cases h2 : checkI b = 0
    · have HV : Aside0 (relB 1 a b = bel 1 a b) := .mk (by simp [relB, h1, h2])
      rw [HV.out]
      have C0 := Aside0.mk h1
      have C1 := Aside0.mk h2
      clear h1 h2
      go_enter Try.func65, Try.ntmps65
      go_wp2_with fail
      refine (Check_calls (T0.out.below (below3 ..))).mono ?_
      rw [C0.out]
      rintro e w1 ⟨rfl, hB⟩
      obtain ⟨b1, b2, b3, hB1⟩ := three_blocks hB
      have HB := Aside0.mk hB1
      have K1 := Aside0.mk b1
      have K2 := Aside0.mk b2
      have K3 := Aside0.mk b3
      replace T0 := Aside0.mk (IsT.below T0.out hB1)
      replace T1 := Aside0.mk (IsT.below T1.out hB1)
      clear hB hB1 b1 b2 b3
      have f0 : w1.cell? ⟨w.heap.size, 0, none⟩ = some (.func (Fn.func 91) #[] #[]) := (blk_cell K1.out 0).trans rfl
      have f1 : w1.cell? ⟨w.heap.size, 1, none⟩ = some (.bool false) := (blk_cell K1.out 1).trans rfl
      have f2 : w1.cell? ⟨w.heap.size, 2, none⟩ = some (.func (Fn.func 72) #[] #[]) := (blk_cell K1.out 2).trans rfl
      obtain ⟨e20, e21⟩ := c26_of K2.out (Below.refl _ _)
      obtain ⟨e30, e31⟩ := c26_of K3.out (Below.refl _ _)
      go_wp2_with fail
      refine (Check_calls T1.out).mono ?_
      rw [C1.out]
      rintro e w2 ⟨rfl, hB⟩
      replace K1 := Aside0.mk (blk_below K1.out hB)
      replace K2 := Aside0.mk (blk_below K2.out hB)
      replace K3 := Aside0.mk (blk_below K3.out hB)
      replace T0 := Aside0.mk (IsT.below T0.out hB)
      replace T1 := Aside0.mk (IsT.below T1.out hB)
      replace HB := Aside0.mk (below_then HB.out HB.out.size hB)
      clear hB f0 f1 f2 e20 e21 e30 e31
      have f0 : w2.cell? ⟨w.heap.size, 0, none⟩ = some (.func (Fn.func 91) #[] #[]) := (blk_cell K1.out 0).trans rfl
      have f1 : w2.cell? ⟨w.heap.size, 1, none⟩ = some (.bool false) := (blk_cell K1.out 1).trans rfl
      have f2 : w2.cell? ⟨w.heap.size, 2, none⟩ = some (.func (Fn.func 72) #[] #[]) := (blk_cell K1.out 2).trans rfl
      obtain ⟨e20, e21⟩ := c26_of K2.out (Below.refl _ _)
      obtain ⟨e30, e31⟩ := c26_of K3.out (Below.refl _ _)
      go_wp2_with fail
      refine (h3_all _ a A c b B d _ (Nat.lt_succ_self _) C0.out C1.out T0.out T1.out).2.1.mono ?_
      rintro e w3 ⟨rfl, hB⟩
      replace HB := Aside0.mk (below_then HB.out HB.out.size hB)
      clear hB f0 f1 f2 e20 e21 e30 e31
      go_wp2_with fail
      go_ret
      exact ⟨rfl, HB.out⟩
    · have HV : Aside0 (relB 1 a b = false) := .mk (by simp [relB, h2])
      rw [HV.out]
      have C0 := Aside0.mk h1
      have d2 : (checkI b == 0) = false := by simp [h2]
      clear h1 h2
      go_enter Try.func65, Try.ntmps65
      go_wp2_with fail
      refine (Check_calls (T0.out.below (below3 ..))).mono ?_
      rw [C0.out]
      rintro e w1 ⟨rfl, hB⟩
      obtain ⟨b1, b2, b3, hB1⟩ := three_blocks hB
      have HB := Aside0.mk hB1
      have K1 := Aside0.mk b1
      have K2 := Aside0.mk b2
      have K3 := Aside0.mk b3
      replace T0 := Aside0.mk (IsT.below T0.out hB1)
      replace T1 := Aside0.mk (IsT.below T1.out hB1)
      clear hB hB1 b1 b2 b3
      have f0 : w1.cell? ⟨w.heap.size, 0, none⟩ = some (.func (Fn.func 91) #[] #[]) := (blk_cell K1.out 0).trans rfl
      have f1 : w1.cell? ⟨w.heap.size, 1, none⟩ = some (.bool false) := (blk_cell K1.out 1).trans rfl
      have f2 : w1.cell? ⟨w.heap.size, 2, none⟩ = some (.func (Fn.func 72) #[] #[]) := (blk_cell K1.out 2).trans rfl
      obtain ⟨e20, e21⟩ := c26_of K2.out (Below.refl _ _)
      obtain ⟨e30, e31⟩ := c26_of K3.out (Below.refl _ _)
      go_wp2_with fail
      refine (Check_calls T1.out).mono ?_
      rintro e w2 ⟨rfl, hB⟩
      replace HB := Aside0.mk (below_then HB.out HB.out.size hB)
      clear hB f0 f1 f2 e20 e21 e30 e31
      go_wp2_with fail
      go_ret
      exact ⟨rfl, HB.out⟩
  · have HV : Aside0 (relB 1 a b = false) := .mk (by simp [relB, h1])
    rw [HV.out]
    have d1 : (checkI a == 0) = false := by simp [h1]
    clear h1
    go_enter Try.func65, Try.ntmps65
    go_wp2_with fail
    refine (Check_calls (T0.out.below (below3 ..))).mono ?_
    rintro e w1 ⟨rfl, hB⟩
    have HB := Aside0.mk (below_then (below3 ..) (below3 ..).size hB)
    clear hB
    go_wp2_with fail
    go_ret
    exact ⟨rfl, HB.out⟩
set_option maxRecDepth 100000 in
set_option maxHeartbeats 1600000 in
theorem asked2 (a b : S26) (A B : Option Addr) (c d : Nat) (w : World) (hA : IsT w (.agg #[.int .i8 a.f0, .slice A a.f1.length c]) a) (hB : IsT w (.agg #[.int .i8 b.f0, .slice B b.f1.length d]) b) :
    Calls Try.prog 65 #[.func (Fn.func 66) #[] #[], .agg #[.func (Fn.func 92) #[] #[], .bool true, .func (Fn.func 70) #[] #[]], .agg #[.int .i8 a.f0, .slice A a.f1.length c], .agg #[.int .i8 b.f0, .slice B b.f1.length d]] w (BPost (relB 2 a b) w) := by
  have T0 := Aside0.mk hA
  have T1 := Aside0.mk hB
  clear hA hB
  by_cases h1 : checkI a = 0
  · by_cases h2 : checkI b = 0
    · have HV : Aside0 (relB 2 a b = bel 2 a b) := .mk (by simp [relB, h1, h2])
      rw [HV.out]
      have C0 := Aside0.mk h1
      have C1 := Aside0.mk h2
      clear h1 h2
      go_enter Try.func65, Try.ntmps65
      go_wp2_with fail
      refine (Check_calls (T0.out.below (below3 ..))).mono ?_
      rw [C0.out]
      rintro e w1 ⟨rfl, hB⟩
      obtain ⟨b1, b2, b3, hB1⟩ := three_blocks hB
      have HB := Aside0.mk hB1
      have K1 := Aside0.mk b1
      have K2 := Aside0.mk b2
      have K3 := Aside0.mk b3
      replace T0 := Aside0.mk (IsT.below T0.out hB1)
      replace T1 := Aside0.mk (IsT.below T1.out hB1)
      clear hB hB1 b1 b2 b3
      have f0 : w1.cell? ⟨w.heap.size, 0, none⟩ = some (.func (Fn.func 92) #[] #[]) := (blk_cell K1.out 0).trans rfl
      have f1 : w1.cell? ⟨w.heap.size, 1, none⟩ = some (.bool true) := (blk_cell K1.out 1).trans rfl
      have f2 : w1.cell? ⟨w.heap.size, 2, none⟩ = some (.func (Fn.func 70) #[] #[]) := (blk_cell K1.out 2).trans rfl
      obtain ⟨e20, e21⟩ := c26_of K2.out (Below.refl _ _)
      obtain ⟨e30, e31⟩ := c26_of K3.out (Below.refl _ _)
      go_wp2_with fail
      refine (Check_calls T1.out).mono ?_
      rw [C1.out]
      rintro e w2 ⟨rfl, hB⟩
      replace K1 := Aside0.mk (blk_below K1.out hB)
      replace K2 := Aside0.mk (blk_below K2.out hB)
      replace K3 := Aside0.mk (blk_below K3.out hB)
      replace T0 := Aside0.mk (IsT.below T0.out hB)
      replace T1 := Aside0.mk (IsT.below T1.out hB)
      replace HB := Aside0.mk (below_then HB.out HB.out.size hB)
      clear hB f0 f1 f2 e20 e21 e30 e31
      have f0 : w2.cell? ⟨w.heap.size, 0, none⟩ = some (.func (Fn.func 92) #[] #[]) := (blk_cell K1.out 0).trans rfl
      have f1 : w2.cell? ⟨w.heap.size, 1, none⟩ = some (.bool true) := (blk_cell K1.out 1).trans rfl
      have f2 : w2.cell? ⟨w.heap.size, 2, none⟩ = some (.func (Fn.func 70) #[] #[]) := (blk_cell K1.out 2).trans rfl
      obtain ⟨e20, e21⟩ := c26_of K2.out (Below.refl _ _)
      obtain ⟨e30, e31⟩ := c26_of K3.out (Below.refl _ _)
      go_wp2_with fail
      refine (h3_all _ a A c b B d _ (Nat.lt_succ_self _) C0.out C1.out T0.out T1.out).2.2.mono ?_
      rintro e w3 ⟨rfl, hB⟩
      replace HB := Aside0.mk (below_then HB.out HB.out.size hB)
      clear hB f0 f1 f2 e20 e21 e30 e31
      go_wp2_with fail
      go_ret
      exact ⟨rfl, HB.out⟩
    · have HV : Aside0 (relB 2 a b = false) := .mk (by simp [relB, h2])
      rw [HV.out]
      have C0 := Aside0.mk h1
      have d2 : (checkI b == 0) = false := by simp [h2]
      clear h1 h2
      go_enter Try.func65, Try.ntmps65
      go_wp2_with fail
      refine (Check_calls (T0.out.below (below3 ..))).mono ?_
      rw [C0.out]
      rintro e w1 ⟨rfl, hB⟩
      obtain ⟨b1, b2, b3, hB1⟩ := three_blocks hB
      have HB := Aside0.mk hB1
      have K1 := Aside0.mk b1
      have K2 := Aside0.mk b2
      have K3 := Aside0.mk b3
      replace T0 := Aside0.mk (IsT.below T0.out hB1)
      replace T1 := Aside0.mk (IsT.below T1.out hB1)
      clear hB hB1 b1 b2 b3
      have f0 : w1.cell? ⟨w.heap.size, 0, none⟩ = some (.func (Fn.func 92) #[] #[]) := (blk_cell K1.out 0).trans rfl
      have f1 : w1.cell? ⟨w.heap.size, 1, none⟩ = some (.bool true) := (blk_cell K1.out 1).trans rfl
      have f2 : w1.cell? ⟨w.heap.size, 2, none⟩ = some (.func (Fn.func 70) #[] #[]) := (blk_cell K1.out 2).trans rfl
      obtain ⟨e20, e21⟩ := c26_of K2.out (Below.refl _ _)
      obtain ⟨e30, e31⟩ := c26_of K3.out (Below.refl _ _)
      go_wp2_with fail
      refine (Check_calls T1.out).mono ?_
      rintro e w2 ⟨rfl, hB⟩
      replace HB := Aside0.mk (below_then HB.out HB.out.size hB)
      clear hB f0 f1 f2 e20 e21 e30 e31
      go_wp2_with fail
      go_ret
      exact ⟨rfl, HB.out⟩
  · have HV : Aside0 (relB 2 a b = false) := .mk (by simp [relB, h1])
    rw [HV.out]
    have d1 : (checkI a == 0) = false := by simp [h1]
    clear h1
    go_enter Try.func65, Try.ntmps65
    go_wp2_with fail
    refine (Check_calls (T0.out.below (below3 ..))).mono ?_
    rintro e w1 ⟨rfl, hB⟩
    have HB := Aside0.mk (below_then (below3 ..) (below3 ..).size hB)
    clear hB
    go_wp2_with fail
    go_ret
    exact ⟨rfl, HB.out⟩
set_option maxRecDepth 100000 in
set_option maxHeartbeats 1600000 in
theorem Below_calls {a b : S26} {va vb : Value} {w : World} (ha : IsT w va a) (hb : IsT w vb b) : Calls Try.prog 31 #[va, vb] w (BPost (relB 0 a b) w) := by
  have T0 := Aside0.mk ha
  have T1 := Aside0.mk hb
  obtain ⟨A, c, rfl, _, _⟩ := ha
  obtain ⟨B, d, rfl, _, _⟩ := hb
  go_enter Try.func31, Try.ntmps31
  go_wp2_with fail
  have hW := below2 w #[.int .i8 a.f0, .slice A a.f1.length c] #[.int .i8 b.f0, .slice B b.f1.length d] 26 26
  have K1 := Aside0.mk (blk_alloc (heap_alloc_new w (.cells #[.int .i8 a.f0, .slice A a.f1.length c] 26)) (.cells #[.int .i8 b.f0, .slice B b.f1.length d] 26))
  have K2 := Aside0.mk (new2 w (.cells #[.int .i8 a.f0, .slice A a.f1.length c] 26) #[.int .i8 b.f0, .slice B b.f1.length d] 26)
  generalize (w.alloc (.cells #[.int .i8 a.f0, .slice A a.f1.length c] 26)).alloc (.cells #[.int .i8 b.f0, .slice B b.f1.length d] 26) = W at *
  replace T0 := Aside0.mk (IsT.below T0.out hW)
  replace T1 := Aside0.mk (IsT.below T1.out hW)
  have HB := Aside0.mk hW
  have OK := Aside0.mk (fun w' (h : Below W.heap.size W w') => (⟨c26_of K1.out h, c26_of K2.out h⟩ : (w'.cell? ⟨w.heap.size, 0, none⟩ = some (.int .i8 a.f0) ∧ w'.cell? ⟨w.heap.size, 1, none⟩ = some (.slice A a.f1.length c)) ∧ (w'.cell? ⟨(w.heap.size + 1), 0, none⟩ = some (.int .i8 b.f0) ∧ w'.cell? ⟨(w.heap.size + 1), 1, none⟩ = some (.slice B b.f1.length d))))
  have HBW := Aside0.mk (Below.refl W.heap.size W)
  clear K1 K2 hW
  go_region_held3 (fun w' => (w'.cell? ⟨w.heap.size, 0, none⟩ = some (.int .i8 a.f0) ∧ w'.cell? ⟨w.heap.size, 1, none⟩ = some (.slice A a.f1.length c)) ∧ (w'.cell? ⟨(w.heap.size + 1), 0, none⟩ = some (.int .i8 b.f0) ∧ w'.cell? ⟨(w.heap.size + 1), 1, none⟩ = some (.slice B b.f1.length d)))
    (first | exact OK.out _ HBW.out | exact OK.out _ HBW.out.drew | exact OK.out _ HB2.out | exact OK.out _ HB3.out)
    (first
      | (go_at_call 67; refine (plain_calls _).mono ?_; rintro e w2 ⟨rfl, hB⟩; have HB2 := Aside0.mk (below_then HBW.out.drew HBW.out.drew.size hB); clear hB)
      | (go_at_call 65; refine (asked0 a b A B c d _ (T0.out.below HB2.out) (T1.out.below HB2.out)).mono ?_; rintro e w3 ⟨rfl, hB⟩; have HB3 := Aside0.mk (below_then HB2.out HB2.out.size hB); clear hB))
  go_wp2_with fail
  go_ret
  exact ⟨rfl, below_then HB.out HB.out.size HB3.out⟩
set_option maxRecDepth 100000 in
set_option maxHeartbeats 1600000 in
theorem Pos_calls {a b : S26} {va vb : Value} {w : World} (ha : IsT w va a) (hb : IsT w vb b) : Calls Try.prog 33 #[va, vb] w (BPost (relB 1 a b) w) := by
  have T0 := Aside0.mk ha
  have T1 := Aside0.mk hb
  obtain ⟨A, c, rfl, _, _⟩ := ha
  obtain ⟨B, d, rfl, _, _⟩ := hb
  go_enter Try.func33, Try.ntmps33
  go_wp2_with fail
  have hW := below2 w #[.int .i8 a.f0, .slice A a.f1.length c] #[.int .i8 b.f0, .slice B b.f1.length d] 26 26
  have K1 := Aside0.mk (blk_alloc (heap_alloc_new w (.cells #[.int .i8 a.f0, .slice A a.f1.length c] 26)) (.cells #[.int .i8 b.f0, .slice B b.f1.length d] 26))
  have K2 := Aside0.mk (new2 w (.cells #[.int .i8 a.f0, .slice A a.f1.length c] 26) #[.int .i8 b.f0, .slice B b.f1.length d] 26)
  generalize (w.alloc (.cells #[.int .i8 a.f0, .slice A a.f1.length c] 26)).alloc (.cells #[.int .i8 b.f0, .slice B b.f1.length d] 26) = W at *
  replace T0 := Aside0.mk (IsT.below T0.out hW)
  replace T1 := Aside0.mk (IsT.below T1.out hW)
  have HB := Aside0.mk hW
  have OK := Aside0.mk (fun w' (h : Below W.heap.size W w') => (⟨c26_of K1.out h, c26_of K2.out h⟩ : (w'.cell? ⟨w.heap.size, 0, none⟩ = some (.int .i8 a.f0) ∧ w'.cell? ⟨w.heap.size, 1, none⟩ = some (.slice A a.f1.length c)) ∧ (w'.cell? ⟨(w.heap.size + 1), 0, none⟩ = some (.int .i8 b.f0) ∧ w'.cell? ⟨(w.heap.size + 1), 1, none⟩ = some (.slice B b.f1.length d))))
  have HBW := Aside0.mk (Below.refl W.heap.size W)
  clear K1 K2 hW
  go_region_held3 (fun w' => (w'.cell? ⟨w.heap.size, 0, none⟩ = some (.int .i8 a.f0) ∧ w'.cell? ⟨w.heap.size, 1, none⟩ = some (.slice A a.f1.length c)) ∧ (w'.cell? ⟨(w.heap.size + 1), 0, none⟩ = some (.int .i8 b.f0) ∧ w'.cell? ⟨(w.heap.size + 1), 1, none⟩ = some (.slice B b.f1.length d)))
    (first | exact OK.out _ HBW.out | exact OK.out _ HBW.out.drew | exact OK.out _ HB2.out | exact OK.out _ HB3.out)
    (first
      | (go_at_call 70; refine (pos_calls _).mono ?_; rintro e w2 ⟨rfl, hB⟩; have HB2 := Aside0.mk (below_then HBW.out.drew HBW.out.drew.size hB); clear hB)
      | (go_at_call 65; refine (asked1 a b A B c d _ (T0.out.below HB2.out) (T1.out.below HB2.out)).mono ?_; rintro e w3 ⟨rfl, hB⟩; have HB3 := Aside0.mk (below_then HB2.out HB2.out.size hB); clear hB))
  go_wp2_with fail
  go_ret
  exact ⟨rfl, below_then HB.out HB.out.size HB3.out⟩
set_option maxRecDepth 100000 in
set_option maxHeartbeats 1600000 in
theorem Neg_calls {a b : S26} {va vb : Value} {w : World} (ha : IsT w va a) (hb : IsT w vb b) : Calls Try.prog 35 #[va, vb] w (BPost (relB 2 a b) w) := by
  have T0 := Aside0.mk ha
  have T1 := Aside0.mk hb
  obtain ⟨A, c, rfl, _, _⟩ := ha
  obtain ⟨B, d, rfl, _, _⟩ := hb
  go_enter Try.func35, Try.ntmps35
  go_wp2_with fail
  have hW := below2 w #[.int .i8 a.f0, .slice A a.f1.length c] #[.int .i8 b.f0, .slice B b.f1.length d] 26 26
  have K1 := Aside0.mk (blk_alloc (heap_alloc_new w (.cells #[.int .i8 a.f0, .slice A a.f1.length c] 26)) (.cells #[.int .i8 b.f0, .slice B b.f1.length d] 26))
  have K2 := Aside0.mk (new2 w (.cells #[.int .i8 a.f0, .slice A a.f1.length c] 26) #[.int .i8 b.f0, .slice B b.f1.length d] 26)
  generalize (w.alloc (.cells #[.int .i8 a.f0, .slice A a.f1.length c] 26)).alloc (.cells #[.int .i8 b.f0, .slice B b.f1.length d] 26) = W at *
  replace T0 := Aside0.mk (IsT.below T0.out hW)
  replace T1 := Aside0.mk (IsT.below T1.out hW)
  have HB := Aside0.mk hW
  have OK := Aside0.mk (fun w' (h : Below W.heap.size W w') => (⟨c26_of K1.out h, c26_of K2.out h⟩ : (w'.cell? ⟨w.heap.size, 0, none⟩ = some (.int .i8 a.f0) ∧ w'.cell? ⟨w.heap.size, 1, none⟩ = some (.slice A a.f1.length c)) ∧ (w'.cell? ⟨(w.heap.size + 1), 0, none⟩ = some (.int .i8 b.f0) ∧ w'.cell? ⟨(w.heap.size + 1), 1, none⟩ = some (.slice B b.f1.length d))))
  have HBW := Aside0.mk (Below.refl W.heap.size W)
  clear K1 K2 hW
  go_region_held3 (fun w' => (w'.cell? ⟨w.heap.size, 0, none⟩ = some (.int .i8 a.f0) ∧ w'.cell? ⟨w.heap.size, 1, none⟩ = some (.slice A a.f1.length c)) ∧ (w'.cell? ⟨(w.heap.size + 1), 0, none⟩ = some (.int .i8 b.f0) ∧ w'.cell? ⟨(w.heap.size + 1), 1, none⟩ = some (.slice B b.f1.length d)))
    (first | exact OK.out _ HBW.out | exact OK.out _ HBW.out.drew | exact OK.out _ HB2.out | exact OK.out _ HB3.out)
    (first
      | (go_at_call 72; refine (neg_calls _).mono ?_; rintro e w2 ⟨rfl, hB⟩; have HB2 := Aside0.mk (below_then HBW.out.drew HBW.out.drew.size hB); clear hB)
      | (go_at_call 65; refine (asked2 a b A B c d _ (T0.out.below HB2.out) (T1.out.below HB2.out)).mono ?_; rintro e w3 ⟨rfl, hB⟩; have HB3 := Aside0.mk (below_then HB2.out HB2.out.size hB); clear hB))
  go_wp2_with fail
  go_ret
  exact ⟨rfl, below_then HB.out HB.out.size HB3.out⟩
end Go.Proofs.Ytamhdpllmhafhaa.X
