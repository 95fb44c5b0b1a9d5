/- Texts of this claim, joined: HCpE3, HCpF, HCpG. -/
import Derived.Test.YtjmpejbciniceaaDoorKCoerceCheck12
namespace Go.Proofs.YtjmpejbciniceaaDoor.X
open Go.RowKit Go.Proofs.YtjmpejbciniceaaDoorW.PrintWords Go.Proofs.YtjmpejbciniceaaDoorW.PrintLast Go.Proofs.YtjmpejbciniceaaDoorW.PrintMore
set_option linter.unusedVariables false
set_option linter.unusedSimpArgs false
set_option maxRecDepth 100000 in
set_option maxHeartbeats 3200000 in
theorem ends_0T {x : S54} {p : Addr} {w : World} (hp : Aside0 (AtC w p x)) (hk : Aside0 (x.f0 = 0)) (hlen : Aside0 (x.f5.length = 0)) (hct : Aside0 (checkI x.f1 = 0)) (hl1 : Aside0 (¬ x.f3 < 1)) (hl2o : Aside0 (¬ 2147483648 < x.f3))  : Calls Tryd.prog 46 #[.pointer (some p)] w (EndsQ (some (x.f1, x.f1)) w) := by
  obtain ⟨A2, c2, A4, c4, A7, c7, hP, hT, hU, hl7, hC⟩ := hp.out
  have hpb : p.block < w.heap.size := World.block_lt_of_cell? w _ hP.1
  have HP := Aside0.mk hP
  have HT := Aside0.mk hT
  have HU := Aside0.mk hU
  have HC := Aside0.mk hC
  clear hP hT hU hC
  obtain ⟨q1, q2, hB⟩ := two_ w (.cells #[.int .i8 0, .slice none 0 0] 43) (.cells #[.int .i8 0, .slice none 0 0] 43)
  have K1 := Aside0.mk q1
  have K2 := Aside0.mk q2
  have HW := Aside0.mk hB
  clear q1 q2 hB
  have hL : leafB x.f0 = true := by rw [hk.out]; rfl
  have gk : (x.f0 == 0) = true := by rw [hk.out]; rfl
  have ct : (checkI x.f1 != 0) = false := bne_eq_false_iff_eq.mpr hct.out
  have hla1 : decide (1 ≤ x.f3) = true := decide_eq_true (by have := hl1.out; omega)
  have hla2 : decide (x.f3 ≤ 2147483648) = true := decide_eq_true (by have := hl2o.out; omega)
  obtain ⟨k0, k1, k2, k3, k4, k5, k6, k7⟩ := HP.out.below HW.out (Nat.le_refl _)
  rw [hlen.out] at k7
  go_enter Tryd.func46, Tryd.ntmps46
  go_wp2_with fail
  clear k0 k1 k2 k3 k4 k5 k6 k7
  generalize (w.alloc (.cells #[.int .i8 0, .slice none 0 0] 43)).alloc (.cells #[.int .i8 0, .slice none 0 0] 43) = w0 at *
  refine (leaf_calls x.f0 _).mono ?_
  rintro e w1 ⟨rfl, hB⟩
  rw [hL]
  replace K1 := Aside0.mk (blk_below K1.out hB)
  replace K2 := Aside0.mk (blk_below K2.out hB)
  replace HW := Aside0.mk (below_then HW.out HW.out.size hB)
  clear hB
  obtain ⟨k0, k1, k2, k3, k4, k5, k6, k7⟩ := HP.out.below HW.out (Nat.le_refl _)
  rw [hlen.out] at k7
  go_wp2_with fail
  clear k0 k1 k2 k3 k4 k5 k6 k7
  refine (Check_calls (HT.out.below HW.out)).mono ?_
  rintro e w2 ⟨rfl, hB⟩
  replace K1 := Aside0.mk (blk_below K1.out hB)
  replace K2 := Aside0.mk (blk_below K2.out hB)
  replace HW := Aside0.mk (below_then HW.out HW.out.size hB)
  clear hB
  obtain ⟨k0, k1, k2, k3, k4, k5, k6, k7⟩ := HP.out.below HW.out (Nat.le_refl _)
  rw [hlen.out] at k7
  go_wp2_with fail
  clear k0 k1 k2 k3 k4 k5 k6 k7
  refine wp_region_held_drew (S := fun w' => w'.cell? ⟨p.block, p.off + 1, none⟩ = some (.int .i8 x.f1.f0) ∧ w'.cell? ⟨p.block, p.off + 2, none⟩ = some (.slice A2 x.f1.f1.length c2)) (by kernel_rfl) ⟨(HP.out.below HW.out (Nat.le_refl _)).2.1, (HP.out.below HW.out (Nat.le_refl _)).2.2.1⟩ (fun hHeld => ?_)
  have HZ := Aside0.mk ((Below.refl w2.heap.size w2).drew)
  replace HW := Aside0.mk (below_then HW.out HW.out.size HZ.out)
  generalize w2.drew = w9 at *
  refine tK 51 0 hHeld ?_
  refine tK 52 1 hHeld ?_
  refine tK 53 2 hHeld ?_
  refine tK 54 3 hHeld ?_
  refine tK 55 4 hHeld ?_
  refine tK 56 5 hHeld ?_
  refine tK 57 6 hHeld ?_
  refine tK 58 7 hHeld ?_
  replace K1 := Aside0.mk (blk_below K1.out HZ.out)
  replace K2 := Aside0.mk (blk_below K2.out HZ.out)
  clear HZ
  refine sK 8 K1.out ⟨far2 hHeld.1 (by omega), far2 hHeld.2 (by omega)⟩ fun w20 hHeld hp => ?_
  replace K2 := Aside0.mk (kFar hp K2.out (by omega))
  replace K1 := Aside0.mk (kOwn hp K1.out)
  replace HW := Aside0.mk (bFar hp HW.out (by omega))
  clear hp
  refine sK 9 K2.out ⟨far2 hHeld.1 (by omega), far2 hHeld.2 (by omega)⟩ fun w21 hHeld hp => ?_
  replace K1 := Aside0.mk (kFar hp K1.out (by omega))
  replace K2 := Aside0.mk (kOwn hp K2.out)
  replace HW := Aside0.mk (bFar hp HW.out (by omega))
  clear hp
  refine tK 4 10 hHeld ?_
  refine wpAnyH_done (by kernel_rfl) ?_ _
  go_wp2_with fail
  exact retK K1.out K2.out ⟨_, _, _, _, _, _, _, _, rfl, (fun _ _ h => by cases h; exact ⟨HT.out.below HW.out, HT.out.below HW.out⟩), HW.out⟩
set_option maxRecDepth 100000 in
set_option maxHeartbeats 3200000 in
theorem ends_2Ta {x : S54} {p : Addr} {w : World} (hp : Aside0 (AtC w p x)) (hk : Aside0 (x.f0 = 2)) (hlen : Aside0 (x.f5.length = 0)) (hct : Aside0 (checkI x.f1 = 0)) (hl1 : Aside0 (¬ x.f3 < 1)) (hl2o : Aside0 (¬ 2147483648 < x.f3)) (hgr : Aside0 (groundB x.f1 = true)) : Calls Tryd.prog 46 #[.pointer (some p)] w (EndsQ (some (x.f1, z43)) w) := by
  obtain ⟨A2, c2, A4, c4, A7, c7, hP, hT, hU, hl7, hC⟩ := hp.out
  have hpb : p.block < w.heap.size := World.block_lt_of_cell? w _ hP.1
  have HP := Aside0.mk hP
  have HT := Aside0.mk hT
  have HU := Aside0.mk hU
  have HC := Aside0.mk hC
  clear hP hT hU hC
  obtain ⟨q1, q2, hB⟩ := two_ w (.cells #[.int .i8 0, .slice none 0 0] 43) (.cells #[.int .i8 0, .slice none 0 0] 43)
  have K1 := Aside0.mk q1
  have K2 := Aside0.mk q2
  have HW := Aside0.mk hB
  clear q1 q2 hB
  have hL : leafB x.f0 = true := by rw [hk.out]; rfl
  have gk0 : (x.f0 == 0) = false := by rw [hk.out]; rfl
  have gk : (x.f0 == 2) = true := by rw [hk.out]; rfl
  have ct : (checkI x.f1 != 0) = false := bne_eq_false_iff_eq.mpr hct.out
  have hla1 : decide (1 ≤ x.f3) = true := decide_eq_true (by have := hl1.out; omega)
  have hla2 : decide (x.f3 ≤ 2147483648) = true := decide_eq_true (by have := hl2o.out; omega)
  obtain ⟨k0, k1, k2, k3, k4, k5, k6, k7⟩ := HP.out.below HW.out (Nat.le_refl _)
  rw [hlen.out] at k7
  go_enter Tryd.func46, Tryd.ntmps46
  go_wp2_with fail
  clear k0 k1 k2 k3 k4 k5 k6 k7
  generalize (w.alloc (.cells #[.int .i8 0, .slice none 0 0] 43)).alloc (.cells #[.int .i8 0, .slice none 0 0] 43) = w0 at *
  refine (leaf_calls x.f0 _).mono ?_
  rintro e w1 ⟨rfl, hB⟩
  rw [hL]
  replace K1 := Aside0.mk (blk_below K1.out hB)
  replace K2 := Aside0.mk (blk_below K2.out hB)
  replace HW := Aside0.mk (below_then HW.out HW.out.size hB)
  clear hB
  obtain ⟨k0, k1, k2, k3, k4, k5, k6, k7⟩ := HP.out.below HW.out (Nat.le_refl _)
  rw [hlen.out] at k7
  go_wp2_with fail
  clear k0 k1 k2 k3 k4 k5 k6 k7
  refine (Check_calls (HT.out.below HW.out)).mono ?_
  rintro e w2 ⟨rfl, hB⟩
  replace K1 := Aside0.mk (blk_below K1.out hB)
  replace K2 := Aside0.mk (blk_below K2.out hB)
  replace HW := Aside0.mk (below_then HW.out HW.out.size hB)
  clear hB
  obtain ⟨k0, k1, k2, k3, k4, k5, k6, k7⟩ := HP.out.below HW.out (Nat.le_refl _)
  rw [hlen.out] at k7
  go_wp2_with fail
  clear k0 k1 k2 k3 k4 k5 k6 k7
  refine wp_region_held_drew (S := fun w' => w'.cell? ⟨p.block, p.off + 1, none⟩ = some (.int .i8 x.f1.f0) ∧ w'.cell? ⟨p.block, p.off + 2, none⟩ = some (.slice A2 x.f1.f1.length c2)) (by kernel_rfl) ⟨(HP.out.below HW.out (Nat.le_refl _)).2.1, (HP.out.below HW.out (Nat.le_refl _)).2.2.1⟩ (fun hHeld => ?_)
  have HZ := Aside0.mk ((Below.refl w2.heap.size w2).drew)
  replace HW := Aside0.mk (below_then HW.out HW.out.size HZ.out)
  generalize w2.drew = w9 at *
  refine tK 61 0 hHeld ?_
  refine tK 62 1 hHeld ?_
  refine tK 63 2 hHeld ?_
  refine tK 64 3 hHeld ?_
  refine tK 65 4 hHeld ?_
  refine tK 66 5 hHeld ?_
  refine tK 67 6 hHeld ?_
  refine tK 68 7 hHeld ?_
  refine tK 69 8 hHeld ?_
  refine cK 70 9 (coGround_calls (HT.out.below HW.out)) ?_
  rintro e w10 ⟨rfl, hB⟩
  rw [hgr.out]
  replace HZ := Aside0.mk (below_then HZ.out HZ.out.size hB)
  replace HW := Aside0.mk (below_then HW.out HW.out.size hB)
  refine ⟨_, rfl, ⟨pwc hB hHeld.1, pwc hB hHeld.2⟩, fun hHeld => nA ?_⟩
  clear hB
  replace K1 := Aside0.mk (blk_below K1.out HZ.out)
  replace K2 := Aside0.mk (blk_below K2.out HZ.out)
  clear HZ
  refine sK 10 K1.out ⟨far2 hHeld.1 (by omega), far2 hHeld.2 (by omega)⟩ fun w20 hHeld hp => ?_
  replace K2 := Aside0.mk (kFar hp K2.out (by omega))
  replace K1 := Aside0.mk (kOwn hp K1.out)
  replace HW := Aside0.mk (bFar hp HW.out (by omega))
  clear hp
  refine sK 11 K2.out ⟨far2 hHeld.1 (by omega), far2 hHeld.2 (by omega)⟩ fun w21 hHeld hp => ?_
  replace K1 := Aside0.mk (kFar hp K1.out (by omega))
  replace K2 := Aside0.mk (kOwn hp K2.out)
  replace HW := Aside0.mk (bFar hp HW.out (by omega))
  clear hp
  refine tK 4 12 hHeld ?_
  refine wpAnyH_done (by kernel_rfl) ?_ _
  go_wp2_with fail
  exact retK K1.out K2.out ⟨_, _, _, _, _, _, _, _, rfl, (fun _ _ h => by cases h; exact ⟨HT.out.below HW.out, IsT.zero _⟩), HW.out⟩
set_option maxRecDepth 100000 in
set_option maxHeartbeats 3200000 in
theorem ends_2Tb {x : S54} {p : Addr} {w : World} (hp : Aside0 (AtC w p x)) (hk : Aside0 (x.f0 = 2)) (hlen : Aside0 (x.f5.length = 0)) (hct : Aside0 (checkI x.f1 = 0)) (hl1 : Aside0 (¬ x.f3 < 1)) (hl2o : Aside0 (¬ 2147483648 < x.f3)) (hgr : Aside0 (groundB x.f1 = false)) : Calls Tryd.prog 46 #[.pointer (some p)] w (EndsQ none w) := by
  obtain ⟨A2, c2, A4, c4, A7, c7, hP, hT, hU, hl7, hC⟩ := hp.out
  have hpb : p.block < w.heap.size := World.block_lt_of_cell? w _ hP.1
  have HP := Aside0.mk hP
  have HT := Aside0.mk hT
  have HU := Aside0.mk hU
  have HC := Aside0.mk hC
  clear hP hT hU hC
  obtain ⟨q1, q2, hB⟩ := two_ w (.cells #[.int .i8 0, .slice none 0 0] 43) (.cells #[.int .i8 0, .slice none 0 0] 43)
  have K1 := Aside0.mk q1
  have K2 := Aside0.mk q2
  have HW := Aside0.mk hB
  clear q1 q2 hB
  have hL : leafB x.f0 = true := by rw [hk.out]; rfl
  have gk0 : (x.f0 == 0) = false := by rw [hk.out]; rfl
  have gk : (x.f0 == 2) = true := by rw [hk.out]; rfl
  have ct : (checkI x.f1 != 0) = false := bne_eq_false_iff_eq.mpr hct.out
  have hla1 : decide (1 ≤ x.f3) = true := decide_eq_true (by have := hl1.out; omega)
  have hla2 : decide (x.f3 ≤ 2147483648) = true := decide_eq_true (by have := hl2o.out; omega)
  obtain ⟨k0, k1, k2, k3, k4, k5, k6, k7⟩ := HP.out.below HW.out (Nat.le_refl _)
  rw [hlen.out] at k7
  go_enter Tryd.func46, Tryd.ntmps46
  go_wp2_with fail
  clear k0 k1 k2 k3 k4 k5 k6 k7
  generalize (w.alloc (.cells #[.int .i8 0, .slice none 0 0] 43)).alloc (.cells #[.int .i8 0, .slice none 0 0] 43) = w0 at *
  refine (leaf_calls x.f0 _).mono ?_
  rintro e w1 ⟨rfl, hB⟩
  rw [hL]
  replace K1 := Aside0.mk (blk_below K1.out hB)
  replace K2 := Aside0.mk (blk_below K2.out hB)
  replace HW := Aside0.mk (below_then HW.out HW.out.size hB)
  clear hB
  obtain ⟨k0, k1, k2, k3, k4, k5, k6, k7⟩ := HP.out.below HW.out (Nat.le_refl _)
  rw [hlen.out] at k7
  go_wp2_with fail
  clear k0 k1 k2 k3 k4 k5 k6 k7
  refine (Check_calls (HT.out.below HW.out)).mono ?_
  rintro e w2 ⟨rfl, hB⟩
  replace K1 := Aside0.mk (blk_below K1.out hB)
  replace K2 := Aside0.mk (blk_below K2.out hB)
  replace HW := Aside0.mk (below_then HW.out HW.out.size hB)
  clear hB
  obtain ⟨k0, k1, k2, k3, k4, k5, k6, k7⟩ := HP.out.below HW.out (Nat.le_refl _)
  rw [hlen.out] at k7
  go_wp2_with fail
  clear k0 k1 k2 k3 k4 k5 k6 k7
  refine wp_region_held_drew (S := fun w' => w'.cell? ⟨p.block, p.off + 1, none⟩ = some (.int .i8 x.f1.f0) ∧ w'.cell? ⟨p.block, p.off + 2, none⟩ = some (.slice A2 x.f1.f1.length c2)) (by kernel_rfl) ⟨(HP.out.below HW.out (Nat.le_refl _)).2.1, (HP.out.below HW.out (Nat.le_refl _)).2.2.1⟩ (fun hHeld => ?_)
  have HZ := Aside0.mk ((Below.refl w2.heap.size w2).drew)
  replace HW := Aside0.mk (below_then HW.out HW.out.size HZ.out)
  generalize w2.drew = w9 at *
  refine tK 61 0 hHeld ?_
  refine tK 62 1 hHeld ?_
  refine tK 63 2 hHeld ?_
  refine tK 64 3 hHeld ?_
  refine tK 65 4 hHeld ?_
  refine tK 66 5 hHeld ?_
  refine tK 67 6 hHeld ?_
  refine tK 68 7 hHeld ?_
  refine tK 69 8 hHeld ?_
  refine cK 70 9 (coGround_calls (HT.out.below HW.out)) ?_
  rintro e w10 ⟨rfl, hB⟩
  rw [hgr.out]
  replace HZ := Aside0.mk (below_then HZ.out HZ.out.size hB)
  replace HW := Aside0.mk (below_then HW.out HW.out.size hB)
  refine ⟨_, rfl, ⟨pwc hB hHeld.1, pwc hB hHeld.2⟩, fun hHeld => nA ?_⟩
  clear hB
  replace K1 := Aside0.mk (blk_below K1.out HZ.out)
  replace K2 := Aside0.mk (blk_below K2.out HZ.out)
  clear HZ
  refine sK 10 K1.out ⟨far2 hHeld.1 (by omega), far2 hHeld.2 (by omega)⟩ fun w20 hHeld hp => ?_
  replace K2 := Aside0.mk (kFar hp K2.out (by omega))
  replace K1 := Aside0.mk (kOwn hp K1.out)
  replace HW := Aside0.mk (bFar hp HW.out (by omega))
  clear hp
  refine sK 11 K2.out ⟨far2 hHeld.1 (by omega), far2 hHeld.2 (by omega)⟩ fun w21 hHeld hp => ?_
  replace K1 := Aside0.mk (kFar hp K1.out (by omega))
  replace K2 := Aside0.mk (kOwn hp K2.out)
  replace HW := Aside0.mk (bFar hp HW.out (by omega))
  clear hp
  refine tK 4 12 hHeld ?_
  refine wpAnyH_done (by kernel_rfl) ?_ _
  go_wp2_with fail
  exact retK K1.out K2.out ⟨_, _, _, _, _, _, _, _, rfl, (fun _ _ h => by cases h), HW.out⟩
set_option maxRecDepth 100000 in
set_option maxHeartbeats 3200000 in
theorem ends_3Ta {x : S54} {p : Addr} {w : World} (hp : Aside0 (AtC w p x)) (hk : Aside0 (x.f0 = 3)) (hlen : Aside0 (x.f5.length = 0)) (hct : Aside0 (checkI x.f1 = 0)) (hl1 : Aside0 (¬ x.f3 < 1)) (hl2o : Aside0 (¬ 2147483648 < x.f3)) (hgr : Aside0 (groundB x.f1 = true)) : Calls Tryd.prog 46 #[.pointer (some p)] w (EndsQ (some (z43, x.f1)) w) := by
  obtain ⟨A2, c2, A4, c4, A7, c7, hP, hT, hU, hl7, hC⟩ := hp.out
  have hpb : p.block < w.heap.size := World.block_lt_of_cell? w _ hP.1
  have HP := Aside0.mk hP
  have HT := Aside0.mk hT
  have HU := Aside0.mk hU
  have HC := Aside0.mk hC
  clear hP hT hU hC
  obtain ⟨q1, q2, hB⟩ := two_ w (.cells #[.int .i8 0, .slice none 0 0] 43) (.cells #[.int .i8 0, .slice none 0 0] 43)
  have K1 := Aside0.mk q1
  have K2 := Aside0.mk q2
  have HW := Aside0.mk hB
  clear q1 q2 hB
  have hL : leafB x.f0 = true := by rw [hk.out]; rfl
  have gk0 : (x.f0 == 0) = false := by rw [hk.out]; rfl
  have gk2 : (x.f0 == 2) = false := by rw [hk.out]; rfl
  have gk : (x.f0 == 3) = true := by rw [hk.out]; rfl
  have ct : (checkI x.f1 != 0) = false := bne_eq_false_iff_eq.mpr hct.out
  have hla1 : decide (1 ≤ x.f3) = true := decide_eq_true (by have := hl1.out; omega)
  have hla2 : decide (x.f3 ≤ 2147483648) = true := decide_eq_true (by have := hl2o.out; omega)
  obtain ⟨k0, k1, k2, k3, k4, k5, k6, k7⟩ := HP.out.below HW.out (Nat.le_refl _)
  rw [hlen.out] at k7
  go_enter Tryd.func46, Tryd.ntmps46
  go_wp2_with fail
  clear k0 k1 k2 k3 k4 k5 k6 k7
  generalize (w.alloc (.cells #[.int .i8 0, .slice none 0 0] 43)).alloc (.cells #[.int .i8 0, .slice none 0 0] 43) = w0 at *
  refine (leaf_calls x.f0 _).mono ?_
  rintro e w1 ⟨rfl, hB⟩
  rw [hL]
  replace K1 := Aside0.mk (blk_below K1.out hB)
  replace K2 := Aside0.mk (blk_below K2.out hB)
  replace HW := Aside0.mk (below_then HW.out HW.out.size hB)
  clear hB
  obtain ⟨k0, k1, k2, k3, k4, k5, k6, k7⟩ := HP.out.below HW.out (Nat.le_refl _)
  rw [hlen.out] at k7
  go_wp2_with fail
  clear k0 k1 k2 k3 k4 k5 k6 k7
  refine (Check_calls (HT.out.below HW.out)).mono ?_
  rintro e w2 ⟨rfl, hB⟩
  replace K1 := Aside0.mk (blk_below K1.out hB)
  replace K2 := Aside0.mk (blk_below K2.out hB)
  replace HW := Aside0.mk (below_then HW.out HW.out.size hB)
  clear hB
  obtain ⟨k0, k1, k2, k3, k4, k5, k6, k7⟩ := HP.out.below HW.out (Nat.le_refl _)
  rw [hlen.out] at k7
  go_wp2_with fail
  clear k0 k1 k2 k3 k4 k5 k6 k7
  refine wp_region_held_drew (S := fun w' => w'.cell? ⟨p.block, p.off + 1, none⟩ = some (.int .i8 x.f1.f0) ∧ w'.cell? ⟨p.block, p.off + 2, none⟩ = some (.slice A2 x.f1.f1.length c2)) (by kernel_rfl) ⟨(HP.out.below HW.out (Nat.le_refl _)).2.1, (HP.out.below HW.out (Nat.le_refl _)).2.2.1⟩ (fun hHeld => ?_)
  have HZ := Aside0.mk ((Below.refl w2.heap.size w2).drew)
  replace HW := Aside0.mk (below_then HW.out HW.out.size HZ.out)
  generalize w2.drew = w9 at *
  refine tK 73 0 hHeld ?_
  refine tK 74 1 hHeld ?_
  refine tK 75 2 hHeld ?_
  refine tK 76 3 hHeld ?_
  refine tK 77 4 hHeld ?_
  refine tK 78 5 hHeld ?_
  refine tK 79 6 hHeld ?_
  refine tK 80 7 hHeld ?_
  refine tK 81 8 hHeld ?_
  refine cK 82 9 (coGround_calls (HT.out.below HW.out)) ?_
  rintro e w10 ⟨rfl, hB⟩
  rw [hgr.out]
  replace HZ := Aside0.mk (below_then HZ.out HZ.out.size hB)
  replace HW := Aside0.mk (below_then HW.out HW.out.size hB)
  refine ⟨_, rfl, ⟨pwc hB hHeld.1, pwc hB hHeld.2⟩, fun hHeld => nA ?_⟩
  clear hB
  refine tK 83 10 hHeld ?_
  refine tK 84 11 hHeld ?_
  refine tK 85 12 hHeld ?_
  replace K1 := Aside0.mk (blk_below K1.out HZ.out)
  replace K2 := Aside0.mk (blk_below K2.out HZ.out)
  clear HZ
  refine sK 13 K1.out ⟨far2 hHeld.1 (by omega), far2 hHeld.2 (by omega)⟩ fun w20 hHeld hp => ?_
  replace K2 := Aside0.mk (kFar hp K2.out (by omega))
  replace K1 := Aside0.mk (kOwn hp K1.out)
  replace HW := Aside0.mk (bFar hp HW.out (by omega))
  clear hp
  refine sK 14 K2.out ⟨far2 hHeld.1 (by omega), far2 hHeld.2 (by omega)⟩ fun w21 hHeld hp => ?_
  replace K1 := Aside0.mk (kFar hp K1.out (by omega))
  replace K2 := Aside0.mk (kOwn hp K2.out)
  replace HW := Aside0.mk (bFar hp HW.out (by omega))
  clear hp
  refine tK 4 15 hHeld ?_
  refine wpAnyH_done (by kernel_rfl) ?_ _
  go_wp2_with fail
  exact retK K1.out K2.out ⟨_, _, _, _, _, _, _, _, rfl, (fun _ _ h => by cases h; exact ⟨IsT.zero _, HT.out.below HW.out⟩), HW.out⟩
set_option maxRecDepth 100000 in
set_option maxHeartbeats 3200000 in
theorem ends_3Tb {x : S54} {p : Addr} {w : World} (hp : Aside0 (AtC w p x)) (hk : Aside0 (x.f0 = 3)) (hlen : Aside0 (x.f5.length = 0)) (hct : Aside0 (checkI x.f1 = 0)) (hl1 : Aside0 (¬ x.f3 < 1)) (hl2o : Aside0 (¬ 2147483648 < x.f3)) (hgr : Aside0 (groundB x.f1 = false)) : Calls Tryd.prog 46 #[.pointer (some p)] w (EndsQ none w) := by
  obtain ⟨A2, c2, A4, c4, A7, c7, hP, hT, hU, hl7, hC⟩ := hp.out
  have hpb : p.block < w.heap.size := World.block_lt_of_cell? w _ hP.1
  have HP := Aside0.mk hP
  have HT := Aside0.mk hT
  have HU := Aside0.mk hU
  have HC := Aside0.mk hC
  clear hP hT hU hC
  obtain ⟨q1, q2, hB⟩ := two_ w (.cells #[.int .i8 0, .slice none 0 0] 43) (.cells #[.int .i8 0, .slice none 0 0] 43)
  have K1 := Aside0.mk q1
  have K2 := Aside0.mk q2
  have HW := Aside0.mk hB
  clear q1 q2 hB
  have hL : leafB x.f0 = true := by rw [hk.out]; rfl
  have gk0 : (x.f0 == 0) = false := by rw [hk.out]; rfl
  have gk2 : (x.f0 == 2) = false := by rw [hk.out]; rfl
  have gk : (x.f0 == 3) = true := by rw [hk.out]; rfl
  have ct : (checkI x.f1 != 0) = false := bne_eq_false_iff_eq.mpr hct.out
  have hla1 : decide (1 ≤ x.f3) = true := decide_eq_true (by have := hl1.out; omega)
  have hla2 : decide (x.f3 ≤ 2147483648) = true := decide_eq_true (by have := hl2o.out; omega)
  obtain ⟨k0, k1, k2, k3, k4, k5, k6, k7⟩ := HP.out.below HW.out (Nat.le_refl _)
  rw [hlen.out] at k7
  go_enter Tryd.func46, Tryd.ntmps46
  go_wp2_with fail
  clear k0 k1 k2 k3 k4 k5 k6 k7
  generalize (w.alloc (.cells #[.int .i8 0, .slice none 0 0] 43)).alloc (.cells #[.int .i8 0, .slice none 0 0] 43) = w0 at *
  refine (leaf_calls x.f0 _).mono ?_
  rintro e w1 ⟨rfl, hB⟩
  rw [hL]
  replace K1 := Aside0.mk (blk_below K1.out hB)
  replace K2 := Aside0.mk (blk_below K2.out hB)
  replace HW := Aside0.mk (below_then HW.out HW.out.size hB)
  clear hB
  obtain ⟨k0, k1, k2, k3, k4, k5, k6, k7⟩ := HP.out.below HW.out (Nat.le_refl _)
  rw [hlen.out] at k7
  go_wp2_with fail
  clear k0 k1 k2 k3 k4 k5 k6 k7
  refine (Check_calls (HT.out.below HW.out)).mono ?_
  rintro e w2 ⟨rfl, hB⟩
  replace K1 := Aside0.mk (blk_below K1.out hB)
  replace K2 := Aside0.mk (blk_below K2.out hB)
  replace HW := Aside0.mk (below_then HW.out HW.out.size hB)
  clear hB
  obtain ⟨k0, k1, k2, k3, k4, k5, k6, k7⟩ := HP.out.below HW.out (Nat.le_refl _)
  rw [hlen.out] at k7
  go_wp2_with fail
  clear k0 k1 k2 k3 k4 k5 k6 k7
  refine wp_region_held_drew (S := fun w' => w'.cell? ⟨p.block, p.off + 1, none⟩ = some (.int .i8 x.f1.f0) ∧ w'.cell? ⟨p.block, p.off + 2, none⟩ = some (.slice A2 x.f1.f1.length c2)) (by kernel_rfl) ⟨(HP.out.below HW.out (Nat.le_refl _)).2.1, (HP.out.below HW.out (Nat.le_refl _)).2.2.1⟩ (fun hHeld => ?_)
  have HZ := Aside0.mk ((Below.refl w2.heap.size w2).drew)
  replace HW := Aside0.mk (below_then HW.out HW.out.size HZ.out)
  generalize w2.drew = w9 at *
  refine tK 73 0 hHeld ?_
  refine tK 74 1 hHeld ?_
  refine tK 75 2 hHeld ?_
  refine tK 76 3 hHeld ?_
  refine tK 77 4 hHeld ?_
  refine tK 78 5 hHeld ?_
  refine tK 79 6 hHeld ?_
  refine tK 80 7 hHeld ?_
  refine tK 81 8 hHeld ?_
  refine cK 82 9 (coGround_calls (HT.out.below HW.out)) ?_
  rintro e w10 ⟨rfl, hB⟩
  rw [hgr.out]
  replace HZ := Aside0.mk (below_then HZ.out HZ.out.size hB)
  replace HW := Aside0.mk (below_then HW.out HW.out.size hB)
  refine ⟨_, rfl, ⟨pwc hB hHeld.1, pwc hB hHeld.2⟩, fun hHeld => nA ?_⟩
  clear hB
  refine tK 83 10 hHeld ?_
  refine pK 84 11 hHeld ?_
  refine tK 85 12 hHeld ?_
  replace K1 := Aside0.mk (blk_below K1.out HZ.out)
  replace K2 := Aside0.mk (blk_below K2.out HZ.out)
  clear HZ
  refine sK 13 K1.out ⟨far2 hHeld.1 (by omega), far2 hHeld.2 (by omega)⟩ fun w20 hHeld hp => ?_
  replace K2 := Aside0.mk (kFar hp K2.out (by omega))
  replace K1 := Aside0.mk (kOwn hp K1.out)
  replace HW := Aside0.mk (bFar hp HW.out (by omega))
  clear hp
  refine sK 14 K2.out ⟨far2 hHeld.1 (by omega), far2 hHeld.2 (by omega)⟩ fun w21 hHeld hp => ?_
  replace K1 := Aside0.mk (kFar hp K1.out (by omega))
  replace K2 := Aside0.mk (kOwn hp K2.out)
  replace HW := Aside0.mk (bFar hp HW.out (by omega))
  clear hp
  refine tK 4 15 hHeld ?_
  refine wpAnyH_done (by kernel_rfl) ?_ _
  go_wp2_with fail
  exact retK K1.out K2.out ⟨_, _, _, _, _, _, _, _, rfl, (fun _ _ h => by cases h), HW.out⟩
set_option maxRecDepth 100000 in
set_option maxHeartbeats 3200000 in
theorem ends_1Tz {x : S54} {p : Addr} {w : World} (hp : Aside0 (AtC w p x)) (hk : Aside0 (x.f0 = 1)) (hlen : Aside0 (x.f5.length = 0)) (hct : Aside0 (checkI x.f1 = 0)) (hl1 : Aside0 (¬ x.f3 < 1)) (hl2o : Aside0 (¬ 2147483648 < x.f3)) (hun0 : Aside0 ((x.f1.f0 != 0) = false))  : Calls Tryd.prog 46 #[.pointer (some p)] w (EndsQ none w) := by
  obtain ⟨A2, c2, A4, c4, A7, c7, hP, hT, hU, hl7, hC⟩ := hp.out
  have hpb : p.block < w.heap.size := World.block_lt_of_cell? w _ hP.1
  have HP := Aside0.mk hP
  have HT := Aside0.mk hT
  have HU := Aside0.mk hU
  have HC := Aside0.mk hC
  clear hP hT hU hC
  obtain ⟨q1, q2, hB⟩ := two_ w (.cells #[.int .i8 0, .slice none 0 0] 43) (.cells #[.int .i8 0, .slice none 0 0] 43)
  have K1 := Aside0.mk q1
  have K2 := Aside0.mk q2
  have HW := Aside0.mk hB
  clear q1 q2 hB
  have hL : leafB x.f0 = true := by rw [hk.out]; rfl
  have gk0 : (x.f0 == 0) = false := by rw [hk.out]; rfl
  have gk2 : (x.f0 == 2) = false := by rw [hk.out]; rfl
  have gk3 : (x.f0 == 3) = false := by rw [hk.out]; rfl
  have ct : (checkI x.f1 != 0) = false := bne_eq_false_iff_eq.mpr hct.out
  have hla1 : decide (1 ≤ x.f3) = true := decide_eq_true (by have := hl1.out; omega)
  have hla2 : decide (x.f3 ≤ 2147483648) = true := decide_eq_true (by have := hl2o.out; omega)
  have hun := hun0.out
  obtain ⟨k0, k1, k2, k3, k4, k5, k6, k7⟩ := HP.out.below HW.out (Nat.le_refl _)
  rw [hlen.out] at k7
  go_enter Tryd.func46, Tryd.ntmps46
  go_wp2_with fail
  clear k0 k1 k2 k3 k4 k5 k6 k7
  generalize (w.alloc (.cells #[.int .i8 0, .slice none 0 0] 43)).alloc (.cells #[.int .i8 0, .slice none 0 0] 43) = w0 at *
  refine (leaf_calls x.f0 _).mono ?_
  rintro e w1 ⟨rfl, hB⟩
  rw [hL]
  replace K1 := Aside0.mk (blk_below K1.out hB)
  replace K2 := Aside0.mk (blk_below K2.out hB)
  replace HW := Aside0.mk (below_then HW.out HW.out.size hB)
  clear hB
  obtain ⟨k0, k1, k2, k3, k4, k5, k6, k7⟩ := HP.out.below HW.out (Nat.le_refl _)
  rw [hlen.out] at k7
  go_wp2_with fail
  clear k0 k1 k2 k3 k4 k5 k6 k7
  refine (Check_calls (HT.out.below HW.out)).mono ?_
  rintro e w2 ⟨rfl, hB⟩
  replace K1 := Aside0.mk (blk_below K1.out hB)
  replace K2 := Aside0.mk (blk_below K2.out hB)
  replace HW := Aside0.mk (below_then HW.out HW.out.size hB)
  clear hB
  obtain ⟨k0, k1, k2, k3, k4, k5, k6, k7⟩ := HP.out.below HW.out (Nat.le_refl _)
  rw [hlen.out] at k7
  go_wp2_with fail
  clear k0 k1 k2 k3 k4 k5 k6 k7
  refine wp_region_held_drew (S := fun w' => w'.cell? ⟨p.block, p.off + 1, none⟩ = some (.int .i8 x.f1.f0) ∧ w'.cell? ⟨p.block, p.off + 2, none⟩ = some (.slice A2 x.f1.f1.length c2) ∧ w'.cell? ⟨p.block, p.off + 3, none⟩ = some (.int .i8 x.f2.f0) ∧ w'.cell? ⟨p.block, p.off + 4, none⟩ = some (.slice A4 x.f2.f1.length c4)) (by kernel_rfl) ⟨(HP.out.below HW.out (Nat.le_refl _)).2.1, (HP.out.below HW.out (Nat.le_refl _)).2.2.1, (HP.out.below HW.out (Nat.le_refl _)).2.2.2.1, (HP.out.below HW.out (Nat.le_refl _)).2.2.2.2.1⟩ (fun hHeld => ?_)
  have HZ := Aside0.mk ((Below.refl w2.heap.size w2).drew)
  replace HW := Aside0.mk (below_then HW.out HW.out.size HZ.out)
  generalize w2.drew = w9 at *
  refine tK 86 0 hHeld ?_
  refine tK 87 1 hHeld ?_
  refine tK 88 2 hHeld ?_
  refine tK 89 3 hHeld ?_
  refine tK 90 4 hHeld ?_
  refine tK 91 5 hHeld ?_
  refine tK 92 6 hHeld ?_
  refine tK 93 7 hHeld ?_
  refine tK 94 8 hHeld ?_
  refine tK 95 9 hHeld ?_
  refine tK 96 10 hHeld ?_
  refine tK 97 11 hHeld ?_
  refine tK 98 12 hHeld ?_
  refine tK 99 13 hHeld ?_
  refine tK 100 14 hHeld ?_
  refine tK 101 15 hHeld ?_
  try rw [hun]
  refine tK 102 16 hHeld ?_
  refine tK 103 17 hHeld ?_
  refine pK 104 18 hHeld ?_
  refine pK 105 19 hHeld ?_
  refine pK 106 20 hHeld ?_
  refine pK 107 21 hHeld ?_
  refine pK 108 22 hHeld ?_
  refine pK 109 23 hHeld ?_
  refine tK 110 24 hHeld ?_
  replace K1 := Aside0.mk (blk_below K1.out HZ.out)
  replace K2 := Aside0.mk (blk_below K2.out HZ.out)
  clear HZ
  refine sK 25 K1.out ⟨far2 hHeld.1 (by omega), far2 hHeld.2.1 (by omega), far2 hHeld.2.2.1 (by omega), far2 hHeld.2.2.2 (by omega)⟩ fun w20 hHeld hp => ?_
  replace K2 := Aside0.mk (kFar hp K2.out (by omega))
  replace K1 := Aside0.mk (kOwn hp K1.out)
  replace HW := Aside0.mk (bFar hp HW.out (by omega))
  clear hp
  refine sK 26 K2.out ⟨far2 hHeld.1 (by omega), far2 hHeld.2.1 (by omega), far2 hHeld.2.2.1 (by omega), far2 hHeld.2.2.2 (by omega)⟩ fun w21 hHeld hp => ?_
  replace K1 := Aside0.mk (kFar hp K1.out (by omega))
  replace K2 := Aside0.mk (kOwn hp K2.out)
  replace HW := Aside0.mk (bFar hp HW.out (by omega))
  clear hp
  refine tK 4 27 hHeld ?_
  refine wpAnyH_done (by kernel_rfl) ?_ _
  go_wp2_with fail
  exact retK K1.out K2.out ⟨_, _, _, _, _, _, _, _, rfl, (fun _ _ h => by cases h), HW.out⟩
set_option maxRecDepth 100000 in
set_option maxHeartbeats 3200000 in
theorem ends_1Tu {x : S54} {p : Addr} {w : World} (hp : Aside0 (AtC w p x)) (hk : Aside0 (x.f0 = 1)) (hlen : Aside0 (x.f5.length = 0)) (hct : Aside0 (checkI x.f1 = 0)) (hl1 : Aside0 (¬ x.f3 < 1)) (hl2o : Aside0 (¬ 2147483648 < x.f3)) (hun0 : Aside0 ((x.f1.f0 != 0) = true)) (hcu : Aside0 (checkI x.f2 ≠ 0)) : Calls Tryd.prog 46 #[.pointer (some p)] w (EndsQ none w) := by
  obtain ⟨A2, c2, A4, c4, A7, c7, hP, hT, hU, hl7, hC⟩ := hp.out
  have hpb : p.block < w.heap.size := World.block_lt_of_cell? w _ hP.1
  have HP := Aside0.mk hP
  have HT := Aside0.mk hT
  have HU := Aside0.mk hU
  have HC := Aside0.mk hC
  clear hP hT hU hC
  obtain ⟨q1, q2, hB⟩ := two_ w (.cells #[.int .i8 0, .slice none 0 0] 43) (.cells #[.int .i8 0, .slice none 0 0] 43)
  have K1 := Aside0.mk q1
  have K2 := Aside0.mk q2
  have HW := Aside0.mk hB
  clear q1 q2 hB
  have hL : leafB x.f0 = true := by rw [hk.out]; rfl
  have gk0 : (x.f0 == 0) = false := by rw [hk.out]; rfl
  have gk2 : (x.f0 == 2) = false := by rw [hk.out]; rfl
  have gk3 : (x.f0 == 3) = false := by rw [hk.out]; rfl
  have ct : (checkI x.f1 != 0) = false := bne_eq_false_iff_eq.mpr hct.out
  have hla1 : decide (1 ≤ x.f3) = true := decide_eq_true (by have := hl1.out; omega)
  have hla2 : decide (x.f3 ≤ 2147483648) = true := decide_eq_true (by have := hl2o.out; omega)
  have hun := hun0.out
  have cu : (checkI x.f2 == 0) = false := beq_eq_false_iff_ne.mpr hcu.out
  obtain ⟨k0, k1, k2, k3, k4, k5, k6, k7⟩ := HP.out.below HW.out (Nat.le_refl _)
  rw [hlen.out] at k7
  go_enter Tryd.func46, Tryd.ntmps46
  go_wp2_with fail
  clear k0 k1 k2 k3 k4 k5 k6 k7
  generalize (w.alloc (.cells #[.int .i8 0, .slice none 0 0] 43)).alloc (.cells #[.int .i8 0, .slice none 0 0] 43) = w0 at *
  refine (leaf_calls x.f0 _).mono ?_
  rintro e w1 ⟨rfl, hB⟩
  rw [hL]
  replace K1 := Aside0.mk (blk_below K1.out hB)
  replace K2 := Aside0.mk (blk_below K2.out hB)
  replace HW := Aside0.mk (below_then HW.out HW.out.size hB)
  clear hB
  obtain ⟨k0, k1, k2, k3, k4, k5, k6, k7⟩ := HP.out.below HW.out (Nat.le_refl _)
  rw [hlen.out] at k7
  go_wp2_with fail
  clear k0 k1 k2 k3 k4 k5 k6 k7
  refine (Check_calls (HT.out.below HW.out)).mono ?_
  rintro e w2 ⟨rfl, hB⟩
  replace K1 := Aside0.mk (blk_below K1.out hB)
  replace K2 := Aside0.mk (blk_below K2.out hB)
  replace HW := Aside0.mk (below_then HW.out HW.out.size hB)
  clear hB
  obtain ⟨k0, k1, k2, k3, k4, k5, k6, k7⟩ := HP.out.below HW.out (Nat.le_refl _)
  rw [hlen.out] at k7
  go_wp2_with fail
  clear k0 k1 k2 k3 k4 k5 k6 k7
  refine wp_region_held_drew (S := fun w' => w'.cell? ⟨p.block, p.off + 1, none⟩ = some (.int .i8 x.f1.f0) ∧ w'.cell? ⟨p.block, p.off + 2, none⟩ = some (.slice A2 x.f1.f1.length c2) ∧ w'.cell? ⟨p.block, p.off + 3, none⟩ = some (.int .i8 x.f2.f0) ∧ w'.cell? ⟨p.block, p.off + 4, none⟩ = some (.slice A4 x.f2.f1.length c4)) (by kernel_rfl) ⟨(HP.out.below HW.out (Nat.le_refl _)).2.1, (HP.out.below HW.out (Nat.le_refl _)).2.2.1, (HP.out.below HW.out (Nat.le_refl _)).2.2.2.1, (HP.out.below HW.out (Nat.le_refl _)).2.2.2.2.1⟩ (fun hHeld => ?_)
  have HZ := Aside0.mk ((Below.refl w2.heap.size w2).drew)
  replace HW := Aside0.mk (below_then HW.out HW.out.size HZ.out)
  generalize w2.drew = w9 at *
  refine tK 86 0 hHeld ?_
  refine tK 87 1 hHeld ?_
  refine tK 88 2 hHeld ?_
  refine tK 89 3 hHeld ?_
  refine tK 90 4 hHeld ?_
  refine tK 91 5 hHeld ?_
  refine tK 92 6 hHeld ?_
  refine tK 93 7 hHeld ?_
  refine tK 94 8 hHeld ?_
  refine tK 95 9 hHeld ?_
  refine tK 96 10 hHeld ?_
  refine tK 97 11 hHeld ?_
  refine tK 98 12 hHeld ?_
  refine tK 99 13 hHeld ?_
  refine tK 100 14 hHeld ?_
  refine tK 101 15 hHeld ?_
  try rw [hun]
  refine tK 102 16 hHeld ?_
  refine tK 103 17 hHeld ?_
  refine tK 104 18 hHeld ?_
  refine tK 105 19 hHeld ?_
  refine tK 106 20 hHeld ?_
  refine tK 107 21 hHeld ?_
  refine cK 108 22 (Check_calls (HU.out.below HW.out)) ?_
  rintro e w10 ⟨rfl, hB⟩
  replace HZ := Aside0.mk (below_then HZ.out HZ.out.size hB)
  replace HW := Aside0.mk (below_then HW.out HW.out.size hB)
  refine ⟨_, rfl, ⟨pwc hB hHeld.1, pwc hB hHeld.2.1, pwc hB hHeld.2.2.1, pwc hB hHeld.2.2.2⟩, fun hHeld => nA ?_⟩
  clear hB
  refine tK 109 23 hHeld ?_
  try rw [cu]
  refine tK 110 24 hHeld ?_
  replace K1 := Aside0.mk (blk_below K1.out HZ.out)
  replace K2 := Aside0.mk (blk_below K2.out HZ.out)
  clear HZ
  refine sK 25 K1.out ⟨far2 hHeld.1 (by omega), far2 hHeld.2.1 (by omega), far2 hHeld.2.2.1 (by omega), far2 hHeld.2.2.2 (by omega)⟩ fun w20 hHeld hp => ?_
  replace K2 := Aside0.mk (kFar hp K2.out (by omega))
  replace K1 := Aside0.mk (kOwn hp K1.out)
  replace HW := Aside0.mk (bFar hp HW.out (by omega))
  clear hp
  refine sK 26 K2.out ⟨far2 hHeld.1 (by omega), far2 hHeld.2.1 (by omega), far2 hHeld.2.2.1 (by omega), far2 hHeld.2.2.2 (by omega)⟩ fun w21 hHeld hp => ?_
  replace K1 := Aside0.mk (kFar hp K1.out (by omega))
  replace K2 := Aside0.mk (kOwn hp K2.out)
  replace HW := Aside0.mk (bFar hp HW.out (by omega))
  clear hp
  refine tK 4 27 hHeld ?_
  refine wpAnyH_done (by kernel_rfl) ?_ _
  go_wp2_with fail
  exact retK K1.out K2.out ⟨_, _, _, _, _, _, _, _, rfl, (fun _ _ h => by cases h), HW.out⟩
set_option maxRecDepth 100000 in
set_option maxHeartbeats 3200000 in
theorem ends_1Tk {x : S54} {p : Addr} {w : World} (hp : Aside0 (AtC w p x)) (hk : Aside0 (x.f0 = 1)) (hlen : Aside0 (x.f5.length = 0)) (hct : Aside0 (checkI x.f1 = 0)) (hl1 : Aside0 (¬ x.f3 < 1)) (hl2o : Aside0 (¬ 2147483648 < x.f3)) (hun0 : Aside0 ((x.f1.f0 != 0) = true)) (hcu : Aside0 (checkI x.f2 = 0)) : Calls Tryd.prog 46 #[.pointer (some p)] w (EndsQ (some (x.f1, x.f2)) w) := by
  obtain ⟨A2, c2, A4, c4, A7, c7, hP, hT, hU, hl7, hC⟩ := hp.out
  have hpb : p.block < w.heap.size := World.block_lt_of_cell? w _ hP.1
  have HP := Aside0.mk hP
  have HT := Aside0.mk hT
  have HU := Aside0.mk hU
  have HC := Aside0.mk hC
  clear hP hT hU hC
  obtain ⟨q1, q2, hB⟩ := two_ w (.cells #[.int .i8 0, .slice none 0 0] 43) (.cells #[.int .i8 0, .slice none 0 0] 43)
  have K1 := Aside0.mk q1
  have K2 := Aside0.mk q2
  have HW := Aside0.mk hB
  clear q1 q2 hB
  have hL : leafB x.f0 = true := by rw [hk.out]; rfl
  have gk0 : (x.f0 == 0) = false := by rw [hk.out]; rfl
  have gk2 : (x.f0 == 2) = false := by rw [hk.out]; rfl
  have gk3 : (x.f0 == 3) = false := by rw [hk.out]; rfl
  have ct : (checkI x.f1 != 0) = false := bne_eq_false_iff_eq.mpr hct.out
  have hla1 : decide (1 ≤ x.f3) = true := decide_eq_true (by have := hl1.out; omega)
  have hla2 : decide (x.f3 ≤ 2147483648) = true := decide_eq_true (by have := hl2o.out; omega)
  have hun := hun0.out
  have cu : (checkI x.f2 == 0) = true := beq_iff_eq.mpr hcu.out
  obtain ⟨k0, k1, k2, k3, k4, k5, k6, k7⟩ := HP.out.below HW.out (Nat.le_refl _)
  rw [hlen.out] at k7
  go_enter Tryd.func46, Tryd.ntmps46
  go_wp2_with fail
  clear k0 k1 k2 k3 k4 k5 k6 k7
  generalize (w.alloc (.cells #[.int .i8 0, .slice none 0 0] 43)).alloc (.cells #[.int .i8 0, .slice none 0 0] 43) = w0 at *
  refine (leaf_calls x.f0 _).mono ?_
  rintro e w1 ⟨rfl, hB⟩
  rw [hL]
  replace K1 := Aside0.mk (blk_below K1.out hB)
  replace K2 := Aside0.mk (blk_below K2.out hB)
  replace HW := Aside0.mk (below_then HW.out HW.out.size hB)
  clear hB
  obtain ⟨k0, k1, k2, k3, k4, k5, k6, k7⟩ := HP.out.below HW.out (Nat.le_refl _)
  rw [hlen.out] at k7
  go_wp2_with fail
  clear k0 k1 k2 k3 k4 k5 k6 k7
  refine (Check_calls (HT.out.below HW.out)).mono ?_
  rintro e w2 ⟨rfl, hB⟩
  replace K1 := Aside0.mk (blk_below K1.out hB)
  replace K2 := Aside0.mk (blk_below K2.out hB)
  replace HW := Aside0.mk (below_then HW.out HW.out.size hB)
  clear hB
  obtain ⟨k0, k1, k2, k3, k4, k5, k6, k7⟩ := HP.out.below HW.out (Nat.le_refl _)
  rw [hlen.out] at k7
  go_wp2_with fail
  clear k0 k1 k2 k3 k4 k5 k6 k7
  refine wp_region_held_drew (S := fun w' => w'.cell? ⟨p.block, p.off + 1, none⟩ = some (.int .i8 x.f1.f0) ∧ w'.cell? ⟨p.block, p.off + 2, none⟩ = some (.slice A2 x.f1.f1.length c2) ∧ w'.cell? ⟨p.block, p.off + 3, none⟩ = some (.int .i8 x.f2.f0) ∧ w'.cell? ⟨p.block, p.off + 4, none⟩ = some (.slice A4 x.f2.f1.length c4)) (by kernel_rfl) ⟨(HP.out.below HW.out (Nat.le_refl _)).2.1, (HP.out.below HW.out (Nat.le_refl _)).2.2.1, (HP.out.below HW.out (Nat.le_refl _)).2.2.2.1, (HP.out.below HW.out (Nat.le_refl _)).2.2.2.2.1⟩ (fun hHeld => ?_)
  have HZ := Aside0.mk ((Below.refl w2.heap.size w2).drew)
  replace HW := Aside0.mk (below_then HW.out HW.out.size HZ.out)
  generalize w2.drew = w9 at *
  refine tK 86 0 hHeld ?_
  refine tK 87 1 hHeld ?_
  refine tK 88 2 hHeld ?_
  refine tK 89 3 hHeld ?_
  refine tK 90 4 hHeld ?_
  refine tK 91 5 hHeld ?_
  refine tK 92 6 hHeld ?_
  refine tK 93 7 hHeld ?_
  refine tK 94 8 hHeld ?_
  refine tK 95 9 hHeld ?_
  refine tK 96 10 hHeld ?_
  refine tK 97 11 hHeld ?_
  refine tK 98 12 hHeld ?_
  refine tK 99 13 hHeld ?_
  refine tK 100 14 hHeld ?_
  refine tK 101 15 hHeld ?_
  try rw [hun]
  refine tK 102 16 hHeld ?_
  refine tK 103 17 hHeld ?_
  refine tK 104 18 hHeld ?_
  refine tK 105 19 hHeld ?_
  refine tK 106 20 hHeld ?_
  refine tK 107 21 hHeld ?_
  refine cK 108 22 (Check_calls (HU.out.below HW.out)) ?_
  rintro e w10 ⟨rfl, hB⟩
  replace HZ := Aside0.mk (below_then HZ.out HZ.out.size hB)
  replace HW := Aside0.mk (below_then HW.out HW.out.size hB)
  refine ⟨_, rfl, ⟨pwc hB hHeld.1, pwc hB hHeld.2.1, pwc hB hHeld.2.2.1, pwc hB hHeld.2.2.2⟩, fun hHeld => nA ?_⟩
  clear hB
  refine tK 109 23 hHeld ?_
  try rw [cu]
  refine tK 110 24 hHeld ?_
  replace K1 := Aside0.mk (blk_below K1.out HZ.out)
  replace K2 := Aside0.mk (blk_below K2.out HZ.out)
  clear HZ
  refine sK 25 K1.out ⟨far2 hHeld.1 (by omega), far2 hHeld.2.1 (by omega), far2 hHeld.2.2.1 (by omega), far2 hHeld.2.2.2 (by omega)⟩ fun w20 hHeld hp => ?_
  replace K2 := Aside0.mk (kFar hp K2.out (by omega))
  replace K1 := Aside0.mk (kOwn hp K1.out)
  replace HW := Aside0.mk (bFar hp HW.out (by omega))
  clear hp
  refine sK 26 K2.out ⟨far2 hHeld.1 (by omega), far2 hHeld.2.1 (by omega), far2 hHeld.2.2.1 (by omega), far2 hHeld.2.2.2 (by omega)⟩ fun w21 hHeld hp => ?_
  replace K1 := Aside0.mk (kFar hp K1.out (by omega))
  replace K2 := Aside0.mk (kOwn hp K2.out)
  replace HW := Aside0.mk (bFar hp HW.out (by omega))
  clear hp
  refine tK 4 27 hHeld ?_
  refine wpAnyH_done (by kernel_rfl) ?_ _
  go_wp2_with fail
  exact retK K1.out K2.out ⟨_, _, _, _, _, _, _, _, rfl, (fun _ _ h => by cases h; exact ⟨HT.out.below HW.out, HU.out.below HW.out⟩), HW.out⟩
end Go.Proofs.YtjmpejbciniceaaDoor.X
namespace Go.Proofs.YtjmpejbciniceaaDoor.X
open Go.RowKit Go.Proofs.YtjmpejbciniceaaDoorW.PrintWords Go.Proofs.YtjmpejbciniceaaDoorW.PrintLast Go.Proofs.YtjmpejbciniceaaDoorW.PrintMore
set_option linter.unusedVariables false
set_option linter.unusedSimpArgs false
set_option maxRecDepth 100000 in
set_option maxHeartbeats 3200000 in
theorem parts_no {x : S54} {p : Addr} {w : World} (hp : Aside0 (AtC w p x)) (hl : Aside0 (x.f5.length ≠ 2)) : Calls Tryd.prog 95 #[.pointer (some p)] w (EndsQ none w) := by
  obtain ⟨A2, c2, A4, c4, A7, c7, hP, hT, hU, hl7, hC⟩ := hp.out
  have hpb : p.block < w.heap.size := World.block_lt_of_cell? w _ hP.1
  have HP := Aside0.mk hP
  have HT := Aside0.mk hT
  have HU := Aside0.mk hU
  have HC := Aside0.mk hC
  clear hP hT hU hC
  obtain ⟨q1, q2, hB⟩ := two_ w (.cells #[.int .i8 0, .slice none 0 0] 43) (.cells #[.int .i8 0, .slice none 0 0] 43)
  have K1 := Aside0.mk q1
  have K2 := Aside0.mk q2
  have HW := Aside0.mk hB
  clear q1 q2 hB
  have hlk : ((x.f5.length : Int) != 2) = true := bne_iff_ne.mpr (by have := hl.out; omega)
  obtain ⟨k0, k1, k2, k3, k4, k5, k6, k7⟩ := HP.out.below HW.out (Nat.le_refl _)
  go_enter Tryd.func95, Tryd.ntmps95
  go_wp2_with fail
  clear k0 k1 k2 k3 k4 k5 k6 k7
  generalize (w.alloc (.cells #[.int .i8 0, .slice none 0 0] 43)).alloc (.cells #[.int .i8 0, .slice none 0 0] 43) = w0 at *
  refine wp_region_held_drew (S := fun w' => w'.cell? ⟨w.heap.size, 0, none⟩ = some (.int .i8 0) ∧ w'.cell? ⟨w.heap.size, 1, none⟩ = some (.slice none 0 0) ∧ w'.cell? ⟨w.heap.size + 1, 0, none⟩ = some (.int .i8 0) ∧ w'.cell? ⟨w.heap.size + 1, 1, none⟩ = some (.slice none 0 0)) (by kernel_rfl) ⟨bcl K1.out, bcl K1.out, bcl K2.out, bcl K2.out⟩ (fun hHeld => ?_)
  have HZ := Aside0.mk ((Below.refl w0.heap.size w0).drew)
  replace HW := Aside0.mk (below_then HW.out HW.out.size HZ.out)
  generalize w0.drew = w9a at *
  refine tK 17 0 hHeld ?_
  refine tK 18 1 hHeld ?_
  replace K1 := Aside0.mk (blk_below K1.out HZ.out)
  replace K2 := Aside0.mk (blk_below K2.out HZ.out)
  clear HZ
  refine sK 2 K1.out ⟨bcl (kOwn rfl K1.out), bcl (kOwn rfl K1.out), far2 hHeld.2.2.1 (by omega), far2 hHeld.2.2.2 (by omega)⟩ fun w9b hHeld hp => ?_
  replace K2 := Aside0.mk (kFar hp K2.out (by omega))
  replace K1 := Aside0.mk (kOwn hp K1.out)
  replace HW := Aside0.mk (bFar hp HW.out (by omega))
  clear hp
  refine sK 3 K2.out ⟨far2 hHeld.1 (by omega), far2 hHeld.2.1 (by omega), bcl (kOwn rfl K2.out), bcl (kOwn rfl K2.out)⟩ fun w9c hHeld hp => ?_
  replace K1 := Aside0.mk (kFar hp K1.out (by omega))
  replace K2 := Aside0.mk (kOwn hp K2.out)
  replace HW := Aside0.mk (bFar hp HW.out (by omega))
  clear hp
  refine tK 4 4 hHeld ?_
  refine wpAnyH_done (by kernel_rfl) ?_ _
  go_wp2_with fail
  exact retK K1.out K2.out ⟨_, _, _, _, _, _, _, _, rfl, (fun _ _ h => by cases h), HW.out⟩
set_option maxRecDepth 100000 in
set_option maxHeartbeats 6400000 in
theorem coparts_two {x : S54} {p : Addr} {w : World} (hp : Aside0 (AtC w p x)) {p1 p2 : S54} (HP1 : Aside0 (∀ (q : Addr) (w : World), AtC w q p1 → Calls Tryd.prog 46 #[.pointer (some q)] w (EndsQ (endsC p1) w))) (HP2 : Aside0 (∀ (q : Addr) (w : World), AtC w q p2 → Calls Tryd.prog 46 #[.pointer (some q)] w (EndsQ (endsC p2) w))) (hl : Aside0 (x.f5 = [p1, p2])) : Calls Tryd.prog 95 #[.pointer (some p)] w (EndsQ (partsC x.f0 p1 p2) w) := by
  obtain ⟨A2, c2, A4, c4, A7, c7, hP, hT, hU, hl7, hC⟩ := hp.out
  have hpb : p.block < w.heap.size := World.block_lt_of_cell? w _ hP.1
  have HP := Aside0.mk hP
  have HT := Aside0.mk hT
  have HU := Aside0.mk hU
  have HC := Aside0.mk hC
  clear hP hT hU hC
  obtain ⟨q1, q2, hB⟩ := two_ w (.cells #[.int .i8 0, .slice none 0 0] 43) (.cells #[.int .i8 0, .slice none 0 0] 43)
  have K1 := Aside0.mk q1
  have K2 := Aside0.mk q2
  have HW := Aside0.mk hB
  clear q1 q2 hB
  have hlen : Aside0 (x.f5.length = 2) := .mk (by rw [hl.out]; rfl)
  obtain ⟨ad, rfl, hq1⟩ := AtC_kid HC.out 0 (by omega) (by have := hlen.out; omega) (x := p1) (by rw [hl.out]; rfl)
  obtain ⟨ad', e', hq2⟩ := AtC_kid HC.out 1 (by omega) (by have := hlen.out; omega) (x := p2) (by rw [hl.out]; rfl)
  cases e'
  have HQ1 := Aside0.mk hq1
  have HQ2 := Aside0.mk hq2
  clear hq1 hq2 HT HU HC
  obtain ⟨k0, k1, k2, k3, k4, k5, k6, k7⟩ := HP.out.below HW.out (Nat.le_refl _)
  rw [hlen.out] at k7
  go_enter Tryd.func95, Tryd.ntmps95
  go_wp2_with fail
  clear k0 k1 k2 k3 k4 k5 k6 k7
  generalize (w.alloc (.cells #[.int .i8 0, .slice none 0 0] 43)).alloc (.cells #[.int .i8 0, .slice none 0 0] 43) = w0 at *
  refine (HP1.out _ _ (by simpa [Addr.add] using HQ1.out.below HW.out)).mono ?_
  rintro e w3 ⟨ka, Pa, na, ma, kb, Pb, nb, mb, rfl, him, hB⟩
  replace K1 := Aside0.mk (blk_below K1.out hB)
  replace K2 := Aside0.mk (blk_below K2.out hB)
  replace HW := Aside0.mk (below_then HW.out HW.out.size hB)
  clear hB
  have hn3 := blk_lt K2.out
  have HIM := Aside0.mk him
  clear him
  obtain ⟨q1, q2, hB⟩ := two_ w3 (.cells #[.int .i8 ka, .slice Pa na ma] 43) (.cells #[.int .i8 kb, .slice Pb nb mb] 43)
  have KA := Aside0.mk q1
  have KB := Aside0.mk q2
  clear q1 q2
  replace HIM := Aside0.mk (fun ta tb h => (⟨(HIM.out ta tb h).1.below hB, (HIM.out ta tb h).2.below hB⟩ : _ ∧ _))
  replace K1 := Aside0.mk (blk_below K1.out hB)
  replace K2 := Aside0.mk (blk_below K2.out hB)
  replace HW := Aside0.mk (below_then HW.out HW.out.size hB)
  clear hB
  cases hsp : (endsC p1).isSome with
  | false =>
    obtain ⟨k0, k1, k2, k3, k4, k5, k6, k7⟩ := HP.out.below HW.out (Nat.le_refl _)
    rw [hlen.out] at k7
    go_wp2_with fail
    clear k0 k1 k2 k3 k4 k5 k6 k7
    generalize (w3.alloc (.cells #[.int .i8 ka, .slice Pa na ma] 43)).alloc (.cells #[.int .i8 kb, .slice Pb nb mb] 43) = wb at *
    generalize w3.heap.size = n3 at *
    refine (HP2.out _ _ (by simpa [Addr.add] using HQ2.out.below HW.out)).mono ?_
    rintro e w4 ⟨kc, Pc, nc, mc, kd, Pd, nd, md, rfl, him, hB⟩
    replace HIM := Aside0.mk (fun ta tb h => (⟨(HIM.out ta tb h).1.below hB, (HIM.out ta tb h).2.below hB⟩ : _ ∧ _))
    replace K1 := Aside0.mk (blk_below K1.out hB)
    replace K2 := Aside0.mk (blk_below K2.out hB)
    replace KA := Aside0.mk (blk_below KA.out hB)
    replace KB := Aside0.mk (blk_below KB.out hB)
    replace HW := Aside0.mk (below_then HW.out HW.out.size hB)
    clear hB
    have hn4 := blk_lt KB.out
    have HIM2 := Aside0.mk him
    clear him
    obtain ⟨q1, q2, hB⟩ := two_ w4 (.cells #[.int .i8 kc, .slice Pc nc mc] 43) (.cells #[.int .i8 kd, .slice Pd nd md] 43)
    have KC := Aside0.mk q1
    have KD := Aside0.mk q2
    clear q1 q2
    replace HIM := Aside0.mk (fun ta tb h => (⟨(HIM.out ta tb h).1.below hB, (HIM.out ta tb h).2.below hB⟩ : _ ∧ _))
    replace HIM2 := Aside0.mk (fun ta tb h => (⟨(HIM2.out ta tb h).1.below hB, (HIM2.out ta tb h).2.below hB⟩ : _ ∧ _))
    replace K1 := Aside0.mk (blk_below K1.out hB)
    replace K2 := Aside0.mk (blk_below K2.out hB)
    replace KA := Aside0.mk (blk_below KA.out hB)
    replace KB := Aside0.mk (blk_below KB.out hB)
    replace HW := Aside0.mk (below_then HW.out HW.out.size hB)
    clear hB
    have hr : partsC x.f0 p1 p2 = none := by
      have h1 : endsC p1 = none := by simpa using hsp
      unfold partsC
      rw [h1]
    go_wp2_with fail
    generalize (w4.alloc (.cells #[.int .i8 kc, .slice Pc nc mc] 43)).alloc (.cells #[.int .i8 kd, .slice Pd nd md] 43) = w5 at *
    generalize w4.heap.size = n4 at *
    refine wp_region_held_drew (S := fun w' => w'.cell? ⟨w.heap.size, 0, none⟩ = some (.int .i8 0) ∧ w'.cell? ⟨w.heap.size, 1, none⟩ = some (.slice none 0 0) ∧ w'.cell? ⟨w.heap.size + 1, 0, none⟩ = some (.int .i8 0) ∧ w'.cell? ⟨w.heap.size + 1, 1, none⟩ = some (.slice none 0 0)) (by kernel_rfl) ⟨bcl K1.out, bcl K1.out, bcl K2.out, bcl K2.out⟩ (fun hHeld => ?_)
    have HZ := Aside0.mk ((Below.refl w5.heap.size w5).drew)
    replace HW := Aside0.mk (below_then HW.out HW.out.size HZ.out)
    generalize w5.drew = w9a at *
    refine tK 45 0 hHeld ?_
    refine tK 46 1 hHeld ?_
    replace K1 := Aside0.mk (blk_below K1.out HZ.out)
    replace K2 := Aside0.mk (blk_below K2.out HZ.out)
    clear HZ
    refine sK 2 K1.out ⟨bcl (kOwn rfl K1.out), bcl (kOwn rfl K1.out), far2 hHeld.2.2.1 (by omega), far2 hHeld.2.2.2 (by omega)⟩ fun w9b hHeld hp => ?_
    replace K2 := Aside0.mk (kFar hp K2.out (by omega))
    replace K1 := Aside0.mk (kOwn hp K1.out)
    replace HW := Aside0.mk (bFar hp HW.out (by omega))
    clear hp
    refine sK 3 K2.out ⟨far2 hHeld.1 (by omega), far2 hHeld.2.1 (by omega), bcl (kOwn rfl K2.out), bcl (kOwn rfl K2.out)⟩ fun w9c hHeld hp => ?_
    replace K1 := Aside0.mk (kFar hp K1.out (by omega))
    replace K2 := Aside0.mk (kOwn hp K2.out)
    replace HW := Aside0.mk (bFar hp HW.out (by omega))
    clear hp
    refine tK 4 4 hHeld ?_
    refine wpAnyH_done (by kernel_rfl) ?_ _
    go_wp2_with fail
    exact retK K1.out K2.out (by (try rw [hr]); exact ⟨_, _, _, _, _, _, _, _, rfl, (fun _ _ h => by cases h), HW.out⟩)
  | true =>
    obtain ⟨k0, k1, k2, k3, k4, k5, k6, k7⟩ := HP.out.below HW.out (Nat.le_refl _)
    rw [hlen.out] at k7
    go_wp2_with fail
    clear k0 k1 k2 k3 k4 k5 k6 k7
    generalize (w3.alloc (.cells #[.int .i8 ka, .slice Pa na ma] 43)).alloc (.cells #[.int .i8 kb, .slice Pb nb mb] 43) = wb at *
    generalize w3.heap.size = n3 at *
    refine (HP2.out _ _ (by simpa [Addr.add] using HQ2.out.below HW.out)).mono ?_
    rintro e w4 ⟨kc, Pc, nc, mc, kd, Pd, nd, md, rfl, him, hB⟩
    replace HIM := Aside0.mk (fun ta tb h => (⟨(HIM.out ta tb h).1.below hB, (HIM.out ta tb h).2.below hB⟩ : _ ∧ _))
    replace K1 := Aside0.mk (blk_below K1.out hB)
    replace K2 := Aside0.mk (blk_below K2.out hB)
    replace KA := Aside0.mk (blk_below KA.out hB)
    replace KB := Aside0.mk (blk_below KB.out hB)
    replace HW := Aside0.mk (below_then HW.out HW.out.size hB)
    clear hB
    have hn4 := blk_lt KB.out
    have HIM2 := Aside0.mk him
    clear him
    obtain ⟨q1, q2, hB⟩ := two_ w4 (.cells #[.int .i8 kc, .slice Pc nc mc] 43) (.cells #[.int .i8 kd, .slice Pd nd md] 43)
    have KC := Aside0.mk q1
    have KD := Aside0.mk q2
    clear q1 q2
    replace HIM := Aside0.mk (fun ta tb h => (⟨(HIM.out ta tb h).1.below hB, (HIM.out ta tb h).2.below hB⟩ : _ ∧ _))
    replace HIM2 := Aside0.mk (fun ta tb h => (⟨(HIM2.out ta tb h).1.below hB, (HIM2.out ta tb h).2.below hB⟩ : _ ∧ _))
    replace K1 := Aside0.mk (blk_below K1.out hB)
    replace K2 := Aside0.mk (blk_below K2.out hB)
    replace KA := Aside0.mk (blk_below KA.out hB)
    replace KB := Aside0.mk (blk_below KB.out hB)
    replace HW := Aside0.mk (below_then HW.out HW.out.size hB)
    clear hB
    cases hsq : (endsC p2).isSome with
    | false =>
      have hr : partsC x.f0 p1 p2 = none := by
        have h1 : endsC p2 = none := by simpa using hsq
        unfold partsC
        rw [h1]
        cases endsC p1 <;> rfl
      go_wp2_with fail
      generalize (w4.alloc (.cells #[.int .i8 kc, .slice Pc nc mc] 43)).alloc (.cells #[.int .i8 kd, .slice Pd nd md] 43) = w5 at *
      generalize w4.heap.size = n4 at *
      refine wp_region_held_drew (S := fun w' => w'.cell? ⟨w.heap.size, 0, none⟩ = some (.int .i8 0) ∧ w'.cell? ⟨w.heap.size, 1, none⟩ = some (.slice none 0 0) ∧ w'.cell? ⟨w.heap.size + 1, 0, none⟩ = some (.int .i8 0) ∧ w'.cell? ⟨w.heap.size + 1, 1, none⟩ = some (.slice none 0 0)) (by kernel_rfl) ⟨bcl K1.out, bcl K1.out, bcl K2.out, bcl K2.out⟩ (fun hHeld => ?_)
      have HZ := Aside0.mk ((Below.refl w5.heap.size w5).drew)
      replace HW := Aside0.mk (below_then HW.out HW.out.size HZ.out)
      generalize w5.drew = w9a at *
      refine tK 45 0 hHeld ?_
      refine tK 46 1 hHeld ?_
      replace K1 := Aside0.mk (blk_below K1.out HZ.out)
      replace K2 := Aside0.mk (blk_below K2.out HZ.out)
      clear HZ
      refine sK 2 K1.out ⟨bcl (kOwn rfl K1.out), bcl (kOwn rfl K1.out), far2 hHeld.2.2.1 (by omega), far2 hHeld.2.2.2 (by omega)⟩ fun w9b hHeld hp => ?_
      replace K2 := Aside0.mk (kFar hp K2.out (by omega))
      replace K1 := Aside0.mk (kOwn hp K1.out)
      replace HW := Aside0.mk (bFar hp HW.out (by omega))
      clear hp
      refine sK 3 K2.out ⟨far2 hHeld.1 (by omega), far2 hHeld.2.1 (by omega), bcl (kOwn rfl K2.out), bcl (kOwn rfl K2.out)⟩ fun w9c hHeld hp => ?_
      replace K1 := Aside0.mk (kFar hp K1.out (by omega))
      replace K2 := Aside0.mk (kOwn hp K2.out)
      replace HW := Aside0.mk (bFar hp HW.out (by omega))
      clear hp
      refine tK 4 4 hHeld ?_
      refine wpAnyH_done (by kernel_rfl) ?_ _
      go_wp2_with fail
      exact retK K1.out K2.out (by (try rw [hr]); exact ⟨_, _, _, _, _, _, _, _, rfl, (fun _ _ h => by cases h), HW.out⟩)
    | true =>
      obtain ⟨⟨ta, tb⟩, e1⟩ := Option.isSome_iff_exists.mp hsp
      obtain ⟨⟨tc, td⟩, e2⟩ := Option.isSome_iff_exists.mp hsq
      obtain ⟨hta, htb⟩ := HIM.out ta tb e1
      obtain ⟨htc, htd⟩ := HIM2.out tc td e2
      have HTA := Aside0.mk hta
      have HTB := Aside0.mk htb
      have HTC := Aside0.mk htc
      have HTD := Aside0.mk htd
      obtain ⟨Ra, Rb⟩ := ends_right _ _ _ _ (Nat.lt_succ_self _) e1
      obtain ⟨Rc, Rd⟩ := ends_right _ _ _ _ (Nat.lt_succ_self _) e2
      have HR0 : Aside0 (partsC x.f0 p1 p2 = joinC x.f0 ta tb tc td) := .mk (by rw [partsC, e1, e2])
      clear hta htb htc htd e1 e2 HIM HIM2
      by_cases h4 : x.f0 = 4
      · have hr : partsC x.f0 p1 p2 = some (⟨3, [tb, tc]⟩, ⟨3, [ta, td]⟩) := by rw [HR0.out]; simp [joinC, h4]
        have gk : (x.f0 == 4) = true := beq_iff_eq.mpr h4
        clear h4
        obtain ⟨k0, k1, k2, k3, k4, k5, k6, k7⟩ := HP.out.below HW.out (Nat.le_refl _)
        rw [hlen.out] at k7
        go_wp2_with fail
        clear k0 k1 k2 k3 k4 k5 k6 k7
        generalize (w4.alloc (.cells #[.int .i8 kc, .slice Pc nc mc] 43)).alloc (.cells #[.int .i8 kd, .slice Pd nd md] 43) = w5 at *
        generalize w4.heap.size = n4 at *
        refine wp_region_held_drew (S := fun w' => w'.cell? ⟨n3, 0, none⟩ = some (.int .i8 ka) ∧ w'.cell? ⟨n3, 1, none⟩ = some (.slice Pa na ma) ∧ w'.cell? ⟨n3 + 1, 0, none⟩ = some (.int .i8 kb) ∧ w'.cell? ⟨n3 + 1, 1, none⟩ = some (.slice Pb nb mb) ∧ w'.cell? ⟨n4, 0, none⟩ = some (.int .i8 kc) ∧ w'.cell? ⟨n4, 1, none⟩ = some (.slice Pc nc mc) ∧ w'.cell? ⟨n4 + 1, 0, none⟩ = some (.int .i8 kd) ∧ w'.cell? ⟨n4 + 1, 1, none⟩ = some (.slice Pd nd md)) (by kernel_rfl) ⟨bcl KA.out, bcl KA.out, bcl KB.out, bcl KB.out, bcl KC.out, bcl KC.out, bcl KD.out, bcl KD.out⟩ (fun hHeld => ?_)
        have HZ := Aside0.mk ((Below.refl w5.heap.size w5).drew)
        replace HW := Aside0.mk (below_then HW.out HW.out.size HZ.out)
        generalize w5.drew = w6 at *
        refine tK 53 0 hHeld ?_
        refine tK 54 1 hHeld ?_
        refine tK 55 2 hHeld ?_
        refine tK 57 4 hHeld ?_
        refine tK 58 5 hHeld ?_
        refine tK 59 6 hHeld ?_
        refine cK 56 3 (two_calls (k := 3) (HTB.out.below HZ.out) (HTC.out.below HZ.out)) ?_
        rintro e w7 ⟨v1, rfl, hv1, hB⟩
        replace HZ := Aside0.mk (below_then HZ.out HZ.out.size hB)
        replace HW := Aside0.mk (below_then HW.out HW.out.size hB)
        have HR1 := Aside0.mk hv1
        clear hv1
        refine ⟨_, rfl, ⟨pwc hB hHeld.1, pwc hB hHeld.2.1, pwc hB hHeld.2.2.1, pwc hB hHeld.2.2.2.1, pwc hB hHeld.2.2.2.2.1, pwc hB hHeld.2.2.2.2.2.1, pwc hB hHeld.2.2.2.2.2.2.1, pwc hB hHeld.2.2.2.2.2.2.2⟩, fun hHeld => nA ?_⟩
        clear hB
        refine cK 60 7 (two_calls (k := 3) (HTA.out.below HZ.out) (HTD.out.below HZ.out)) ?_
        rintro e w8 ⟨v2, rfl, hv2, hB⟩
        replace HZ := Aside0.mk (below_then HZ.out HZ.out.size hB)
        replace HW := Aside0.mk (below_then HW.out HW.out.size hB)
        replace HR1 := Aside0.mk (HR1.out.below hB)
        have HR2 := Aside0.mk hv2
        clear hv2
        refine ⟨_, rfl, ⟨pwc hB hHeld.1, pwc hB hHeld.2.1, pwc hB hHeld.2.2.1, pwc hB hHeld.2.2.2.1, pwc hB hHeld.2.2.2.2.1, pwc hB hHeld.2.2.2.2.2.1, pwc hB hHeld.2.2.2.2.2.2.1, pwc hB hHeld.2.2.2.2.2.2.2⟩, fun hHeld => nA ?_⟩
        clear hB
        have hr1 := pair_right (k := 3) rfl Rb Rc
        have hr2 := pair_right (k := 3) rfl Ra Rd
        have HR1' := HR1.out
        have HR2' := HR2.out
        obtain ⟨M1, m1, rfl, -⟩ := HR1'
        obtain ⟨M2, m2, rfl, -⟩ := HR2'
        replace K1 := Aside0.mk (blk_below K1.out HZ.out)
        replace K2 := Aside0.mk (blk_below K2.out HZ.out)
        clear HZ
        refine sK 8 K1.out ⟨far2 hHeld.1 (by omega), far2 hHeld.2.1 (by omega), far2 hHeld.2.2.1 (by omega), far2 hHeld.2.2.2.1 (by omega), far2 hHeld.2.2.2.2.1 (by omega), far2 hHeld.2.2.2.2.2.1 (by omega), far2 hHeld.2.2.2.2.2.2.1 (by omega), far2 hHeld.2.2.2.2.2.2.2 (by omega)⟩ fun w9 hHeld hp => ?_
        replace HR1 := Aside0.mk (tFar hp K1.out hr1 HR1.out)
        replace HR2 := Aside0.mk (tFar hp K1.out hr2 HR2.out)
        replace K2 := Aside0.mk (kFar hp K2.out (by omega))
        replace K1 := Aside0.mk (kOwn hp K1.out)
        replace HW := Aside0.mk (bFar hp HW.out (by omega))
        clear hp
        refine sK 9 K2.out ⟨far2 hHeld.1 (by omega), far2 hHeld.2.1 (by omega), far2 hHeld.2.2.1 (by omega), far2 hHeld.2.2.2.1 (by omega), far2 hHeld.2.2.2.2.1 (by omega), far2 hHeld.2.2.2.2.2.1 (by omega), far2 hHeld.2.2.2.2.2.2.1 (by omega), far2 hHeld.2.2.2.2.2.2.2 (by omega)⟩ fun w10 hHeld hp => ?_
        replace HR1 := Aside0.mk (tFar hp K2.out hr1 HR1.out)
        replace HR2 := Aside0.mk (tFar hp K2.out hr2 HR2.out)
        replace K1 := Aside0.mk (kFar hp K1.out (by omega))
        replace K2 := Aside0.mk (kOwn hp K2.out)
        replace HW := Aside0.mk (bFar hp HW.out (by omega))
        clear hp
        refine tK 4 10 hHeld ?_
        refine wpAnyH_done (by kernel_rfl) ?_ _
        go_wp2_with fail
        exact retK K1.out K2.out (by (try rw [hr]); exact ⟨_, _, _, _, _, _, _, _, rfl, (fun _ _ h => by cases h; exact ⟨HR1.out, HR2.out⟩), HW.out⟩)
      by_cases h5 : x.f0 = 5
      · have hr : partsC x.f0 p1 p2 = some (⟨4, [ta, tc]⟩, ⟨4, [tb, td]⟩) := by rw [HR0.out]; simp [joinC, h5]
        have gk4 : (x.f0 == 4) = false := beq_eq_false_iff_ne.mpr h4
        have gk : (x.f0 == 5) = true := beq_iff_eq.mpr h5
        clear h4 h5
        obtain ⟨k0, k1, k2, k3, k4, k5, k6, k7⟩ := HP.out.below HW.out (Nat.le_refl _)
        rw [hlen.out] at k7
        go_wp2_with fail
        clear k0 k1 k2 k3 k4 k5 k6 k7
        generalize (w4.alloc (.cells #[.int .i8 kc, .slice Pc nc mc] 43)).alloc (.cells #[.int .i8 kd, .slice Pd nd md] 43) = w5 at *
        generalize w4.heap.size = n4 at *
        refine wp_region_held_drew (S := fun w' => w'.cell? ⟨n3, 0, none⟩ = some (.int .i8 ka) ∧ w'.cell? ⟨n3, 1, none⟩ = some (.slice Pa na ma) ∧ w'.cell? ⟨n3 + 1, 0, none⟩ = some (.int .i8 kb) ∧ w'.cell? ⟨n3 + 1, 1, none⟩ = some (.slice Pb nb mb) ∧ w'.cell? ⟨n4, 0, none⟩ = some (.int .i8 kc) ∧ w'.cell? ⟨n4, 1, none⟩ = some (.slice Pc nc mc) ∧ w'.cell? ⟨n4 + 1, 0, none⟩ = some (.int .i8 kd) ∧ w'.cell? ⟨n4 + 1, 1, none⟩ = some (.slice Pd nd md)) (by kernel_rfl) ⟨bcl KA.out, bcl KA.out, bcl KB.out, bcl KB.out, bcl KC.out, bcl KC.out, bcl KD.out, bcl KD.out⟩ (fun hHeld => ?_)
        have HZ := Aside0.mk ((Below.refl w5.heap.size w5).drew)
        replace HW := Aside0.mk (below_then HW.out HW.out.size HZ.out)
        generalize w5.drew = w6 at *
        refine tK 63 0 hHeld ?_
        refine tK 64 1 hHeld ?_
        refine tK 65 2 hHeld ?_
        refine tK 67 4 hHeld ?_
        refine tK 68 5 hHeld ?_
        refine tK 69 6 hHeld ?_
        refine cK 66 3 (two_calls (k := 4) (HTA.out.below HZ.out) (HTC.out.below HZ.out)) ?_
        rintro e w7 ⟨v1, rfl, hv1, hB⟩
        replace HZ := Aside0.mk (below_then HZ.out HZ.out.size hB)
        replace HW := Aside0.mk (below_then HW.out HW.out.size hB)
        have HR1 := Aside0.mk hv1
        clear hv1
        refine ⟨_, rfl, ⟨pwc hB hHeld.1, pwc hB hHeld.2.1, pwc hB hHeld.2.2.1, pwc hB hHeld.2.2.2.1, pwc hB hHeld.2.2.2.2.1, pwc hB hHeld.2.2.2.2.2.1, pwc hB hHeld.2.2.2.2.2.2.1, pwc hB hHeld.2.2.2.2.2.2.2⟩, fun hHeld => nA ?_⟩
        clear hB
        refine cK 70 7 (two_calls (k := 4) (HTB.out.below HZ.out) (HTD.out.below HZ.out)) ?_
        rintro e w8 ⟨v2, rfl, hv2, hB⟩
        replace HZ := Aside0.mk (below_then HZ.out HZ.out.size hB)
        replace HW := Aside0.mk (below_then HW.out HW.out.size hB)
        replace HR1 := Aside0.mk (HR1.out.below hB)
        have HR2 := Aside0.mk hv2
        clear hv2
        refine ⟨_, rfl, ⟨pwc hB hHeld.1, pwc hB hHeld.2.1, pwc hB hHeld.2.2.1, pwc hB hHeld.2.2.2.1, pwc hB hHeld.2.2.2.2.1, pwc hB hHeld.2.2.2.2.2.1, pwc hB hHeld.2.2.2.2.2.2.1, pwc hB hHeld.2.2.2.2.2.2.2⟩, fun hHeld => nA ?_⟩
        clear hB
        have hr1 := pair_right (k := 4) rfl Ra Rc
        have hr2 := pair_right (k := 4) rfl Rb Rd
        have HR1' := HR1.out
        have HR2' := HR2.out
        obtain ⟨M1, m1, rfl, -⟩ := HR1'
        obtain ⟨M2, m2, rfl, -⟩ := HR2'
        replace K1 := Aside0.mk (blk_below K1.out HZ.out)
        replace K2 := Aside0.mk (blk_below K2.out HZ.out)
        clear HZ
        refine sK 8 K1.out ⟨far2 hHeld.1 (by omega), far2 hHeld.2.1 (by omega), far2 hHeld.2.2.1 (by omega), far2 hHeld.2.2.2.1 (by omega), far2 hHeld.2.2.2.2.1 (by omega), far2 hHeld.2.2.2.2.2.1 (by omega), far2 hHeld.2.2.2.2.2.2.1 (by omega), far2 hHeld.2.2.2.2.2.2.2 (by omega)⟩ fun w9 hHeld hp => ?_
        replace HR1 := Aside0.mk (tFar hp K1.out hr1 HR1.out)
        replace HR2 := Aside0.mk (tFar hp K1.out hr2 HR2.out)
        replace K2 := Aside0.mk (kFar hp K2.out (by omega))
        replace K1 := Aside0.mk (kOwn hp K1.out)
        replace HW := Aside0.mk (bFar hp HW.out (by omega))
        clear hp
        refine sK 9 K2.out ⟨far2 hHeld.1 (by omega), far2 hHeld.2.1 (by omega), far2 hHeld.2.2.1 (by omega), far2 hHeld.2.2.2.1 (by omega), far2 hHeld.2.2.2.2.1 (by omega), far2 hHeld.2.2.2.2.2.1 (by omega), far2 hHeld.2.2.2.2.2.2.1 (by omega), far2 hHeld.2.2.2.2.2.2.2 (by omega)⟩ fun w10 hHeld hp => ?_
        replace HR1 := Aside0.mk (tFar hp K2.out hr1 HR1.out)
        replace HR2 := Aside0.mk (tFar hp K2.out hr2 HR2.out)
        replace K1 := Aside0.mk (kFar hp K1.out (by omega))
        replace K2 := Aside0.mk (kOwn hp K2.out)
        replace HW := Aside0.mk (bFar hp HW.out (by omega))
        clear hp
        refine tK 4 10 hHeld ?_
        refine wpAnyH_done (by kernel_rfl) ?_ _
        go_wp2_with fail
        exact retK K1.out K2.out (by (try rw [hr]); exact ⟨_, _, _, _, _, _, _, _, rfl, (fun _ _ h => by cases h; exact ⟨HR1.out, HR2.out⟩), HW.out⟩)
      by_cases h6 : x.f0 = 6
      · have hr : partsC x.f0 p1 p2 = some (⟨5, [ta, tc]⟩, ⟨5, [tb, td]⟩) := by rw [HR0.out]; simp [joinC, h6]
        have gk4 : (x.f0 == 4) = false := beq_eq_false_iff_ne.mpr h4
        have gk5 : (x.f0 == 5) = false := beq_eq_false_iff_ne.mpr h5
        have gk : (x.f0 == 6) = true := beq_iff_eq.mpr h6
        clear h4 h5 h6
        obtain ⟨k0, k1, k2, k3, k4, k5, k6, k7⟩ := HP.out.below HW.out (Nat.le_refl _)
        rw [hlen.out] at k7
        go_wp2_with fail
        clear k0 k1 k2 k3 k4 k5 k6 k7
        generalize (w4.alloc (.cells #[.int .i8 kc, .slice Pc nc mc] 43)).alloc (.cells #[.int .i8 kd, .slice Pd nd md] 43) = w5 at *
        generalize w4.heap.size = n4 at *
        refine wp_region_held_drew (S := fun w' => w'.cell? ⟨n3, 0, none⟩ = some (.int .i8 ka) ∧ w'.cell? ⟨n3, 1, none⟩ = some (.slice Pa na ma) ∧ w'.cell? ⟨n3 + 1, 0, none⟩ = some (.int .i8 kb) ∧ w'.cell? ⟨n3 + 1, 1, none⟩ = some (.slice Pb nb mb) ∧ w'.cell? ⟨n4, 0, none⟩ = some (.int .i8 kc) ∧ w'.cell? ⟨n4, 1, none⟩ = some (.slice Pc nc mc) ∧ w'.cell? ⟨n4 + 1, 0, none⟩ = some (.int .i8 kd) ∧ w'.cell? ⟨n4 + 1, 1, none⟩ = some (.slice Pd nd md)) (by kernel_rfl) ⟨bcl KA.out, bcl KA.out, bcl KB.out, bcl KB.out, bcl KC.out, bcl KC.out, bcl KD.out, bcl KD.out⟩ (fun hHeld => ?_)
        have HZ := Aside0.mk ((Below.refl w5.heap.size w5).drew)
        replace HW := Aside0.mk (below_then HW.out HW.out.size HZ.out)
        generalize w5.drew = w6 at *
        refine tK 73 0 hHeld ?_
        refine tK 74 1 hHeld ?_
        refine tK 75 2 hHeld ?_
        refine tK 77 4 hHeld ?_
        refine tK 78 5 hHeld ?_
        refine tK 79 6 hHeld ?_
        refine cK 76 3 (two_calls (k := 5) (HTA.out.below HZ.out) (HTC.out.below HZ.out)) ?_
        rintro e w7 ⟨v1, rfl, hv1, hB⟩
        replace HZ := Aside0.mk (below_then HZ.out HZ.out.size hB)
        replace HW := Aside0.mk (below_then HW.out HW.out.size hB)
        have HR1 := Aside0.mk hv1
        clear hv1
        refine ⟨_, rfl, ⟨pwc hB hHeld.1, pwc hB hHeld.2.1, pwc hB hHeld.2.2.1, pwc hB hHeld.2.2.2.1, pwc hB hHeld.2.2.2.2.1, pwc hB hHeld.2.2.2.2.2.1, pwc hB hHeld.2.2.2.2.2.2.1, pwc hB hHeld.2.2.2.2.2.2.2⟩, fun hHeld => nA ?_⟩
        clear hB
        refine cK 80 7 (two_calls (k := 5) (HTB.out.below HZ.out) (HTD.out.below HZ.out)) ?_
        rintro e w8 ⟨v2, rfl, hv2, hB⟩
        replace HZ := Aside0.mk (below_then HZ.out HZ.out.size hB)
        replace HW := Aside0.mk (below_then HW.out HW.out.size hB)
        replace HR1 := Aside0.mk (HR1.out.below hB)
        have HR2 := Aside0.mk hv2
        clear hv2
        refine ⟨_, rfl, ⟨pwc hB hHeld.1, pwc hB hHeld.2.1, pwc hB hHeld.2.2.1, pwc hB hHeld.2.2.2.1, pwc hB hHeld.2.2.2.2.1, pwc hB hHeld.2.2.2.2.2.1, pwc hB hHeld.2.2.2.2.2.2.1, pwc hB hHeld.2.2.2.2.2.2.2⟩, fun hHeld => nA ?_⟩
        clear hB
        have hr1 := pair_right (k := 5) rfl Ra Rc
        have hr2 := pair_right (k := 5) rfl Rb Rd
        have HR1' := HR1.out
        have HR2' := HR2.out
        obtain ⟨M1, m1, rfl, -⟩ := HR1'
        obtain ⟨M2, m2, rfl, -⟩ := HR2'
        replace K1 := Aside0.mk (blk_below K1.out HZ.out)
        replace K2 := Aside0.mk (blk_below K2.out HZ.out)
        clear HZ
        refine sK 8 K1.out ⟨far2 hHeld.1 (by omega), far2 hHeld.2.1 (by omega), far2 hHeld.2.2.1 (by omega), far2 hHeld.2.2.2.1 (by omega), far2 hHeld.2.2.2.2.1 (by omega), far2 hHeld.2.2.2.2.2.1 (by omega), far2 hHeld.2.2.2.2.2.2.1 (by omega), far2 hHeld.2.2.2.2.2.2.2 (by omega)⟩ fun w9 hHeld hp => ?_
        replace HR1 := Aside0.mk (tFar hp K1.out hr1 HR1.out)
        replace HR2 := Aside0.mk (tFar hp K1.out hr2 HR2.out)
        replace K2 := Aside0.mk (kFar hp K2.out (by omega))
        replace K1 := Aside0.mk (kOwn hp K1.out)
        replace HW := Aside0.mk (bFar hp HW.out (by omega))
        clear hp
        refine sK 9 K2.out ⟨far2 hHeld.1 (by omega), far2 hHeld.2.1 (by omega), far2 hHeld.2.2.1 (by omega), far2 hHeld.2.2.2.1 (by omega), far2 hHeld.2.2.2.2.1 (by omega), far2 hHeld.2.2.2.2.2.1 (by omega), far2 hHeld.2.2.2.2.2.2.1 (by omega), far2 hHeld.2.2.2.2.2.2.2 (by omega)⟩ fun w10 hHeld hp => ?_
        replace HR1 := Aside0.mk (tFar hp K2.out hr1 HR1.out)
        replace HR2 := Aside0.mk (tFar hp K2.out hr2 HR2.out)
        replace K1 := Aside0.mk (kFar hp K1.out (by omega))
        replace K2 := Aside0.mk (kOwn hp K2.out)
        replace HW := Aside0.mk (bFar hp HW.out (by omega))
        clear hp
        refine tK 4 10 hHeld ?_
        refine wpAnyH_done (by kernel_rfl) ?_ _
        go_wp2_with fail
        exact retK K1.out K2.out (by (try rw [hr]); exact ⟨_, _, _, _, _, _, _, _, rfl, (fun _ _ h => by cases h; exact ⟨HR1.out, HR2.out⟩), HW.out⟩)
      by_cases h7 : x.f0 = 7
      · have HR7 : Aside0 (partsC x.f0 p1 p2 = if sameB tb tc = true then some (ta, td) else none) := .mk (by rw [HR0.out, h7]; simp [joinC])
        have gk4 : (x.f0 == 4) = false := beq_eq_false_iff_ne.mpr h4
        have gk5 : (x.f0 == 5) = false := beq_eq_false_iff_ne.mpr h5
        have gk6 : (x.f0 == 6) = false := beq_eq_false_iff_ne.mpr h6
        have gk : (x.f0 == 7) = true := beq_iff_eq.mpr h7
        clear h4 h5 h6 h7
        obtain ⟨k0, k1, k2, k3, k4, k5, k6, k7⟩ := HP.out.below HW.out (Nat.le_refl _)
        rw [hlen.out] at k7
        go_wp2_with fail
        clear k0 k1 k2 k3 k4 k5 k6 k7
        generalize (w4.alloc (.cells #[.int .i8 kc, .slice Pc nc mc] 43)).alloc (.cells #[.int .i8 kd, .slice Pd nd md] 43) = w5 at *
        generalize w4.heap.size = n4 at *
        cases hs : sameB tb tc with
        | false =>
          have hr : partsC x.f0 p1 p2 = none := by rw [HR7.out, hs]; rfl
          refine wp_region_held_drew (S := fun w' => w'.cell? ⟨n3, 0, none⟩ = some (.int .i8 ka) ∧ w'.cell? ⟨n3, 1, none⟩ = some (.slice Pa na ma) ∧ w'.cell? ⟨n3 + 1, 0, none⟩ = some (.int .i8 kb) ∧ w'.cell? ⟨n3 + 1, 1, none⟩ = some (.slice Pb nb mb) ∧ w'.cell? ⟨n4, 0, none⟩ = some (.int .i8 kc) ∧ w'.cell? ⟨n4, 1, none⟩ = some (.slice Pc nc mc) ∧ w'.cell? ⟨n4 + 1, 0, none⟩ = some (.int .i8 kd) ∧ w'.cell? ⟨n4 + 1, 1, none⟩ = some (.slice Pd nd md)) (by kernel_rfl) ⟨bcl KA.out, bcl KA.out, bcl KB.out, bcl KB.out, bcl KC.out, bcl KC.out, bcl KD.out, bcl KD.out⟩ (fun hHeld => ?_)
          have HZ := Aside0.mk ((Below.refl w5.heap.size w5).drew)
          replace HW := Aside0.mk (below_then HW.out HW.out.size HZ.out)
          generalize w5.drew = w6 at *
          refine tK 83 0 hHeld ?_
          refine tK 84 1 hHeld ?_
          refine tK 85 2 hHeld ?_
          refine tK 86 3 hHeld ?_
          refine cK 87 4 (Same_calls (HTB.out.below HZ.out) (HTC.out.below HZ.out)) ?_
          rintro e w7 ⟨rfl, hB⟩
          rw [hs]
          replace HZ := Aside0.mk (below_then HZ.out HZ.out.size hB)
          replace HW := Aside0.mk (below_then HW.out HW.out.size hB)
          refine ⟨_, rfl, ⟨pwc hB hHeld.1, pwc hB hHeld.2.1, pwc hB hHeld.2.2.1, pwc hB hHeld.2.2.2.1, pwc hB hHeld.2.2.2.2.1, pwc hB hHeld.2.2.2.2.2.1, pwc hB hHeld.2.2.2.2.2.2.1, pwc hB hHeld.2.2.2.2.2.2.2⟩, fun hHeld => nA ?_⟩
          clear hB
          replace K1 := Aside0.mk (blk_below K1.out HZ.out)
          replace K2 := Aside0.mk (blk_below K2.out HZ.out)
          replace HTA := Aside0.mk (HTA.out.below HZ.out)
          replace HTD := Aside0.mk (HTD.out.below HZ.out)
          clear HZ
          refine sK 5 K1.out ⟨far2 hHeld.1 (by omega), far2 hHeld.2.1 (by omega), far2 hHeld.2.2.1 (by omega), far2 hHeld.2.2.2.1 (by omega), far2 hHeld.2.2.2.2.1 (by omega), far2 hHeld.2.2.2.2.2.1 (by omega), far2 hHeld.2.2.2.2.2.2.1 (by omega), far2 hHeld.2.2.2.2.2.2.2 (by omega)⟩ fun w9 hHeld hp => ?_
          replace HTA := Aside0.mk (tFar hp K1.out Ra HTA.out)
          replace HTD := Aside0.mk (tFar hp K1.out Rd HTD.out)
          replace K2 := Aside0.mk (kFar hp K2.out (by omega))
          replace K1 := Aside0.mk (kOwn hp K1.out)
          replace HW := Aside0.mk (bFar hp HW.out (by omega))
          clear hp
          refine sK 6 K2.out ⟨far2 hHeld.1 (by omega), far2 hHeld.2.1 (by omega), far2 hHeld.2.2.1 (by omega), far2 hHeld.2.2.2.1 (by omega), far2 hHeld.2.2.2.2.1 (by omega), far2 hHeld.2.2.2.2.2.1 (by omega), far2 hHeld.2.2.2.2.2.2.1 (by omega), far2 hHeld.2.2.2.2.2.2.2 (by omega)⟩ fun w10 hHeld hp => ?_
          replace HTA := Aside0.mk (tFar hp K2.out Ra HTA.out)
          replace HTD := Aside0.mk (tFar hp K2.out Rd HTD.out)
          replace K1 := Aside0.mk (kFar hp K1.out (by omega))
          replace K2 := Aside0.mk (kOwn hp K2.out)
          replace HW := Aside0.mk (bFar hp HW.out (by omega))
          clear hp
          refine tK 4 7 hHeld ?_
          refine wpAnyH_done (by kernel_rfl) ?_ _
          go_wp2_with fail
          exact retK K1.out K2.out (by (try rw [hr]); exact ⟨_, _, _, _, _, _, _, _, rfl, (fun _ _ h => by cases h), HW.out⟩)
        | true =>
          have hr : partsC x.f0 p1 p2 = some (ta, td) := by rw [HR7.out, hs]; rfl
          refine wp_region_held_drew (S := fun w' => w'.cell? ⟨n3, 0, none⟩ = some (.int .i8 ka) ∧ w'.cell? ⟨n3, 1, none⟩ = some (.slice Pa na ma) ∧ w'.cell? ⟨n3 + 1, 0, none⟩ = some (.int .i8 kb) ∧ w'.cell? ⟨n3 + 1, 1, none⟩ = some (.slice Pb nb mb) ∧ w'.cell? ⟨n4, 0, none⟩ = some (.int .i8 kc) ∧ w'.cell? ⟨n4, 1, none⟩ = some (.slice Pc nc mc) ∧ w'.cell? ⟨n4 + 1, 0, none⟩ = some (.int .i8 kd) ∧ w'.cell? ⟨n4 + 1, 1, none⟩ = some (.slice Pd nd md)) (by kernel_rfl) ⟨bcl KA.out, bcl KA.out, bcl KB.out, bcl KB.out, bcl KC.out, bcl KC.out, bcl KD.out, bcl KD.out⟩ (fun hHeld => ?_)
          have HZ := Aside0.mk ((Below.refl w5.heap.size w5).drew)
          replace HW := Aside0.mk (below_then HW.out HW.out.size HZ.out)
          generalize w5.drew = w6 at *
          refine tK 83 0 hHeld ?_
          refine tK 84 1 hHeld ?_
          refine tK 85 2 hHeld ?_
          refine tK 86 3 hHeld ?_
          refine cK 87 4 (Same_calls (HTB.out.below HZ.out) (HTC.out.below HZ.out)) ?_
          rintro e w7 ⟨rfl, hB⟩
          rw [hs]
          replace HZ := Aside0.mk (below_then HZ.out HZ.out.size hB)
          replace HW := Aside0.mk (below_then HW.out HW.out.size hB)
          refine ⟨_, rfl, ⟨pwc hB hHeld.1, pwc hB hHeld.2.1, pwc hB hHeld.2.2.1, pwc hB hHeld.2.2.2.1, pwc hB hHeld.2.2.2.2.1, pwc hB hHeld.2.2.2.2.2.1, pwc hB hHeld.2.2.2.2.2.2.1, pwc hB hHeld.2.2.2.2.2.2.2⟩, fun hHeld => nA ?_⟩
          clear hB
          replace K1 := Aside0.mk (blk_below K1.out HZ.out)
          replace K2 := Aside0.mk (blk_below K2.out HZ.out)
          replace HTA := Aside0.mk (HTA.out.below HZ.out)
          replace HTD := Aside0.mk (HTD.out.below HZ.out)
          clear HZ
          refine sK 5 K1.out ⟨far2 hHeld.1 (by omega), far2 hHeld.2.1 (by omega), far2 hHeld.2.2.1 (by omega), far2 hHeld.2.2.2.1 (by omega), far2 hHeld.2.2.2.2.1 (by omega), far2 hHeld.2.2.2.2.2.1 (by omega), far2 hHeld.2.2.2.2.2.2.1 (by omega), far2 hHeld.2.2.2.2.2.2.2 (by omega)⟩ fun w9 hHeld hp => ?_
          replace HTA := Aside0.mk (tFar hp K1.out Ra HTA.out)
          replace HTD := Aside0.mk (tFar hp K1.out Rd HTD.out)
          replace K2 := Aside0.mk (kFar hp K2.out (by omega))
          replace K1 := Aside0.mk (kOwn hp K1.out)
          replace HW := Aside0.mk (bFar hp HW.out (by omega))
          clear hp
          refine sK 6 K2.out ⟨far2 hHeld.1 (by omega), far2 hHeld.2.1 (by omega), far2 hHeld.2.2.1 (by omega), far2 hHeld.2.2.2.1 (by omega), far2 hHeld.2.2.2.2.1 (by omega), far2 hHeld.2.2.2.2.2.1 (by omega), far2 hHeld.2.2.2.2.2.2.1 (by omega), far2 hHeld.2.2.2.2.2.2.2 (by omega)⟩ fun w10 hHeld hp => ?_
          replace HTA := Aside0.mk (tFar hp K2.out Ra HTA.out)
          replace HTD := Aside0.mk (tFar hp K2.out Rd HTD.out)
          replace K1 := Aside0.mk (kFar hp K1.out (by omega))
          replace K2 := Aside0.mk (kOwn hp K2.out)
          replace HW := Aside0.mk (bFar hp HW.out (by omega))
          clear hp
          refine tK 4 7 hHeld ?_
          refine wpAnyH_done (by kernel_rfl) ?_ _
          go_wp2_with fail
          exact retK K1.out K2.out (by (try rw [hr]); exact ⟨_, _, _, _, _, _, _, _, rfl, (fun _ _ h => by cases h; exact ⟨HTA.out, HTD.out⟩), HW.out⟩)
      have hr : partsC x.f0 p1 p2 = none := by rw [HR0.out]; simp [joinC, h4, h5, h6, h7]
      have gk4 : (x.f0 == 4) = false := beq_eq_false_iff_ne.mpr h4
      have gk5 : (x.f0 == 5) = false := beq_eq_false_iff_ne.mpr h5
      have gk6 : (x.f0 == 6) = false := beq_eq_false_iff_ne.mpr h6
      have gk7 : (x.f0 == 7) = false := beq_eq_false_iff_ne.mpr h7
      clear h4 h5 h6 h7
      obtain ⟨k0, k1, k2, k3, k4, k5, k6, k7⟩ := HP.out.below HW.out (Nat.le_refl _)
      rw [hlen.out] at k7
      go_wp2_with fail
      clear k0 k1 k2 k3 k4 k5 k6 k7
      generalize (w4.alloc (.cells #[.int .i8 kc, .slice Pc nc mc] 43)).alloc (.cells #[.int .i8 kd, .slice Pd nd md] 43) = w5 at *
      generalize w4.heap.size = n4 at *
      refine wp_region_held_drew (S := fun w' => w'.cell? ⟨w.heap.size, 0, none⟩ = some (.int .i8 0) ∧ w'.cell? ⟨w.heap.size, 1, none⟩ = some (.slice none 0 0) ∧ w'.cell? ⟨w.heap.size + 1, 0, none⟩ = some (.int .i8 0) ∧ w'.cell? ⟨w.heap.size + 1, 1, none⟩ = some (.slice none 0 0)) (by kernel_rfl) ⟨bcl K1.out, bcl K1.out, bcl K2.out, bcl K2.out⟩ (fun hHeld => ?_)
      have HZ := Aside0.mk ((Below.refl w5.heap.size w5).drew)
      replace HW := Aside0.mk (below_then HW.out HW.out.size HZ.out)
      generalize w5.drew = w9a at *
      refine tK 88 0 hHeld ?_
      refine tK 89 1 hHeld ?_
      replace K1 := Aside0.mk (blk_below K1.out HZ.out)
      replace K2 := Aside0.mk (blk_below K2.out HZ.out)
      clear HZ
      refine sK 2 K1.out ⟨bcl (kOwn rfl K1.out), bcl (kOwn rfl K1.out), far2 hHeld.2.2.1 (by omega), far2 hHeld.2.2.2 (by omega)⟩ fun w9b hHeld hp => ?_
      replace K2 := Aside0.mk (kFar hp K2.out (by omega))
      replace K1 := Aside0.mk (kOwn hp K1.out)
      replace HW := Aside0.mk (bFar hp HW.out (by omega))
      clear hp
      refine sK 3 K2.out ⟨far2 hHeld.1 (by omega), far2 hHeld.2.1 (by omega), bcl (kOwn rfl K2.out), bcl (kOwn rfl K2.out)⟩ fun w9c hHeld hp => ?_
      replace K1 := Aside0.mk (kFar hp K1.out (by omega))
      replace K2 := Aside0.mk (kOwn hp K2.out)
      replace HW := Aside0.mk (bFar hp HW.out (by omega))
      clear hp
      refine tK 4 4 hHeld ?_
      refine wpAnyH_done (by kernel_rfl) ?_ _
      go_wp2_with fail
      exact retK K1.out K2.out (by (try rw [hr]); exact ⟨_, _, _, _, _, _, _, _, rfl, (fun _ _ h => by cases h), HW.out⟩)
end Go.Proofs.YtjmpejbciniceaaDoor.X
namespace Go.Proofs.YtjmpejbciniceaaDoor.X
open Go.RowKit Go.Proofs.YtjmpejbciniceaaDoorW.PrintWords Go.Proofs.YtjmpejbciniceaaDoorW.PrintLast Go.Proofs.YtjmpejbciniceaaDoorW.PrintMore
set_option linter.unusedVariables false
set_option linter.unusedSimpArgs false
set_option maxRecDepth 100000 in
set_option maxHeartbeats 3200000 in
theorem ends_p {x : S54} {p : Addr} {w : World} (hp : Aside0 (AtC w p x)) {r : Option (S43 × S43)} (HPR : Aside0 (∀ (q : Addr) (w : World), AtC w q x → Calls Tryd.prog 95 #[.pointer (some q)] w (EndsQ r w))) (hR : Aside0 (∀ ta tb, r = some (ta, tb) → rightB ta = true ∧ rightB tb = true)) (hLo : Aside0 (leafB x.f0 = false)) : Calls Tryd.prog 46 #[.pointer (some p)] w (EndsQ r w) := by
  obtain ⟨A2, c2, A4, c4, A7, c7, hP, hT, hU, hl7, hC⟩ := hp.out
  have hpb : p.block < w.heap.size := World.block_lt_of_cell? w _ hP.1
  have HP := Aside0.mk hP
  have HT := Aside0.mk hT
  have HU := Aside0.mk hU
  have HC := Aside0.mk hC
  clear hP hT hU hC
  obtain ⟨q1, q2, hB⟩ := two_ w (.cells #[.int .i8 0, .slice none 0 0] 43) (.cells #[.int .i8 0, .slice none 0 0] 43)
  have K1 := Aside0.mk q1
  have K2 := Aside0.mk q2
  have HW := Aside0.mk hB
  clear q1 q2 hB
  have hL := hLo.out
  obtain ⟨k0, k1, k2, k3, k4, k5, k6, k7⟩ := HP.out.below HW.out (Nat.le_refl _)
  go_enter Tryd.func46, Tryd.ntmps46
  go_wp2_with fail
  clear k0 k1 k2 k3 k4 k5 k6 k7
  generalize (w.alloc (.cells #[.int .i8 0, .slice none 0 0] 43)).alloc (.cells #[.int .i8 0, .slice none 0 0] 43) = w0 at *
  refine (leaf_calls x.f0 _).mono ?_
  rintro e w1 ⟨rfl, hB⟩
  rw [hL]
  replace K1 := Aside0.mk (blk_below K1.out hB)
  replace K2 := Aside0.mk (blk_below K2.out hB)
  replace HW := Aside0.mk (below_then HW.out HW.out.size hB)
  clear hB
  obtain ⟨k0, k1, k2, k3, k4, k5, k6, k7⟩ := HP.out.below HW.out (Nat.le_refl _)
  go_wp2_with fail
  clear k0 k1 k2 k3 k4 k5 k6 k7
  refine (HPR.out _ _ (hp.out.below HW.out)).mono ?_
  rintro e wn ⟨ka, Pa, na, ma, kb, Pb, nb, mb, rfl, him, hB⟩
  replace K1 := Aside0.mk (blk_below K1.out hB)
  replace K2 := Aside0.mk (blk_below K2.out hB)
  replace HW := Aside0.mk (below_then HW.out HW.out.size hB)
  clear hB
  have HIM := Aside0.mk him
  clear him
  have c0 := (blk_cell K1.out 0).trans rfl
  have c1 := (blk_cell K1.out 1).trans rfl
  have z0 := blk_frozen K1.out 0
  have z1 := blk_frozen K1.out 1
  simp at c0 c1
  have d0 := (blk_cell K2.out 0).trans rfl
  have d1 := (blk_cell K2.out 1).trans rfl
  have y0 := blk_frozen K2.out 0
  have y1 := blk_frozen K2.out 1
  simp at d0 d1
  go_wp2_with fail
  exact bodyPost_ret (results_list (rs := [.cell 2 43, .cell 3 43, .tmp 4]) rfl (by simp) (.cell (w.heap.size) 43 _ (0, 0) _ rfl (put_two_far (put_two K1.out _ _) (by omega) _ _) Tryd.underlying43 rfl (by kernel_rfl) (.cell (w.heap.size + 1) 43 _ (0, 0) _ rfl (put_two (put_two_far K2.out (by omega) _ _) _ _) Tryd.underlying43 rfl (by kernel_rfl) (.tmp .nil)))) rfl ⟨_, _, _, _, _, _, _, _, rfl, (fun ta tb h => ⟨isT_far (put_two_far K2.out (by omega) _ _) (kept2 _ _ _ _) (hR.out ta tb h).1 (isT_far K1.out (kept2 _ _ _ _) (hR.out ta tb h).1 (HIM.out ta tb h).1), isT_far (put_two_far K2.out (by omega) _ _) (kept2 _ _ _ _) (hR.out ta tb h).2 (isT_far K1.out (kept2 _ _ _ _) (hR.out ta tb h).2 (HIM.out ta tb h).2)⟩), (((HW.out.setCell (Nat.le_refl _) _).setCell (Nat.le_refl _) _).setCell (Nat.le_add_right _ 1) _).setCell (Nat.le_add_right _ 1) _⟩
theorem endsQ_of {x : S54} {r : Option (S43 × S43)} {f : FuncId} {v : Value} {w : World} (hr : endsC x = r) (h : Calls Tryd.prog f #[v] w (EndsQ r w)) : Calls Tryd.prog f #[v] w (EndsQ (endsC x) w) := by
  subst hr
  exact h
theorem coparts_calls {p1 p2 : S54} (HP : ∀ (q : Addr) (w : World), AtC w q p1 → Calls Tryd.prog 46 #[.pointer (some q)] w (EndsQ (endsC p1) w)) (HQ : ∀ (q : Addr) (w : World), AtC w q p2 → Calls Tryd.prog 46 #[.pointer (some q)] w (EndsQ (endsC p2) w)) {x : S54} {p : Addr} {w : World} (hx : AtC w p x) (hl : x.f5 = [p1, p2]) : Calls Tryd.prog 95 #[.pointer (some p)] w (EndsQ (partsC x.f0 p1 p2) w) := coparts_two ⟨hx⟩ ⟨HP⟩ ⟨HQ⟩ ⟨hl⟩
theorem coends_at (n : Nat) : ∀ (x : S54) (p : Addr) (w : World), cnodes x < n → AtC w p x → Calls Tryd.prog 46 #[.pointer (some p)] w (EndsQ (endsC x) w) := by
  induction n with
  | zero => intro x p w h; omega
  | succ n ih =>
  intro x p w hn hx
  cases hL : leafB x.f0 with
  | false =>
    refine ends_p ⟨hx⟩ ⟨fun q w h => ?_⟩ ⟨fun ta tb h => ends_right _ _ _ _ (Nat.lt_succ_self _) h⟩ ⟨hL⟩
    by_cases hl : x.f5.length = 2
    · obtain ⟨p1, p2, e⟩ : ∃ p1 p2, x.f5 = [p1, p2] := by
        match h : x.f5 with
        | [] => rw [h] at hl; simp at hl
        | [_] => rw [h] at hl; simp at hl
        | [p, q] => exact ⟨p, q, rfl⟩
        | _ :: _ :: _ :: _ => rw [h] at hl; simp at hl
      have hc : cnodes p1 < n ∧ cnodes p2 < n := by
        rw [cnodes_eq, e] at hn
        simp only [cnodesL] at hn
        omega
      exact endsQ_of (ends_parts hL e) (coparts_calls (fun q w h => ih p1 q w hc.1 h) (fun q w h => ih p2 q w hc.2 h) h e)
    · exact endsQ_of (ends_none hL hl) (parts_no ⟨h⟩ ⟨hl⟩)
  | true =>
    have he := ends_leaf hL
    by_cases hl : x.f5.length = 0
    · rw [if_pos hl] at he
      by_cases hct : checkI x.f1 = 0
      · by_cases l1 : x.f3 < 1
        · have hb := labB_false (.inl l1)
          rcases leaf_kinds hL with hk | hk | hk | hk
          · exact endsQ_of (by rw [he, hk]; simp [leafC, hct]) (ends_0F ⟨hx⟩ ⟨hk⟩ ⟨hl⟩ ⟨hct⟩ ⟨l1⟩)
          · exact endsQ_of (by rw [he, hk]; simp [leafC, hct, hb]) (ends_1Fx ⟨hx⟩ ⟨hk⟩ ⟨hl⟩ ⟨hct⟩ ⟨l1⟩)
          · cases hg : groundB x.f1 with
            | true => exact endsQ_of (by rw [he, hk]; simp [leafC, hct, hg]) (ends_2Fa ⟨hx⟩ ⟨hk⟩ ⟨hl⟩ ⟨hct⟩ ⟨l1⟩ ⟨hg⟩)
            | false => exact endsQ_of (by rw [he, hk]; simp [leafC, hct, hg]) (ends_2Fb ⟨hx⟩ ⟨hk⟩ ⟨hl⟩ ⟨hct⟩ ⟨l1⟩ ⟨hg⟩)
          · cases hg : groundB x.f1 with
            | true => exact endsQ_of (by rw [he, hk]; simp [leafC, hct, hg, hb]) (ends_3Fa ⟨hx⟩ ⟨hk⟩ ⟨hl⟩ ⟨hct⟩ ⟨l1⟩ ⟨hg⟩)
            | false => exact endsQ_of (by rw [he, hk]; simp [leafC, hct, hg, hb]) (ends_3Fb ⟨hx⟩ ⟨hk⟩ ⟨hl⟩ ⟨hct⟩ ⟨l1⟩ ⟨hg⟩)
        · by_cases l2 : 2147483648 < x.f3
          · have hb := labB_false (.inr l2)
            rcases leaf_kinds hL with hk | hk | hk | hk
            · exact endsQ_of (by rw [he, hk]; simp [leafC, hct]) (ends_0M ⟨hx⟩ ⟨hk⟩ ⟨hl⟩ ⟨hct⟩ ⟨l1⟩ ⟨l2⟩)
            · exact endsQ_of (by rw [he, hk]; simp [leafC, hct, hb]) (ends_1Mx ⟨hx⟩ ⟨hk⟩ ⟨hl⟩ ⟨hct⟩ ⟨l1⟩ ⟨l2⟩)
            · cases hg : groundB x.f1 with
              | true => exact endsQ_of (by rw [he, hk]; simp [leafC, hct, hg]) (ends_2Ma ⟨hx⟩ ⟨hk⟩ ⟨hl⟩ ⟨hct⟩ ⟨l1⟩ ⟨l2⟩ ⟨hg⟩)
              | false => exact endsQ_of (by rw [he, hk]; simp [leafC, hct, hg]) (ends_2Mb ⟨hx⟩ ⟨hk⟩ ⟨hl⟩ ⟨hct⟩ ⟨l1⟩ ⟨l2⟩ ⟨hg⟩)
            · cases hg : groundB x.f1 with
              | true => exact endsQ_of (by rw [he, hk]; simp [leafC, hct, hg, hb]) (ends_3Ma ⟨hx⟩ ⟨hk⟩ ⟨hl⟩ ⟨hct⟩ ⟨l1⟩ ⟨l2⟩ ⟨hg⟩)
              | false => exact endsQ_of (by rw [he, hk]; simp [leafC, hct, hg, hb]) (ends_3Mb ⟨hx⟩ ⟨hk⟩ ⟨hl⟩ ⟨hct⟩ ⟨l1⟩ ⟨l2⟩ ⟨hg⟩)
          · have hb := labB_true l1 l2
            rcases leaf_kinds hL with hk | hk | hk | hk
            · exact endsQ_of (by rw [he, hk]; simp [leafC, hct]) (ends_0T ⟨hx⟩ ⟨hk⟩ ⟨hl⟩ ⟨hct⟩ ⟨l1⟩ ⟨l2⟩)
            · cases hu : (x.f1.f0 != 0) with
              | false => exact endsQ_of (by rw [he, hk]; have := bne_eq_false_iff_eq.mp hu; simp [leafC, hct, hb, this]) (ends_1Tz ⟨hx⟩ ⟨hk⟩ ⟨hl⟩ ⟨hct⟩ ⟨l1⟩ ⟨l2⟩ ⟨hu⟩)
              | true =>
                have hu' := bne_iff_ne.mp hu
                by_cases hcu : checkI x.f2 = 0
                · exact endsQ_of (by rw [he, hk]; simp [leafC, hct, hb, hu', hcu]) (ends_1Tk ⟨hx⟩ ⟨hk⟩ ⟨hl⟩ ⟨hct⟩ ⟨l1⟩ ⟨l2⟩ ⟨hu⟩ ⟨hcu⟩)
                · exact endsQ_of (by rw [he, hk]; simp [leafC, hct, hb, hu', hcu]) (ends_1Tu ⟨hx⟩ ⟨hk⟩ ⟨hl⟩ ⟨hct⟩ ⟨l1⟩ ⟨l2⟩ ⟨hu⟩ ⟨hcu⟩)
            · cases hg : groundB x.f1 with
              | true => exact endsQ_of (by rw [he, hk]; simp [leafC, hct, hg]) (ends_2Ta ⟨hx⟩ ⟨hk⟩ ⟨hl⟩ ⟨hct⟩ ⟨l1⟩ ⟨l2⟩ ⟨hg⟩)
              | false => exact endsQ_of (by rw [he, hk]; simp [leafC, hct, hg]) (ends_2Tb ⟨hx⟩ ⟨hk⟩ ⟨hl⟩ ⟨hct⟩ ⟨l1⟩ ⟨l2⟩ ⟨hg⟩)
            · cases hg : groundB x.f1 with
              | true => exact endsQ_of (by rw [he, hk]; simp [leafC, hct, hg, hb]) (ends_3Ta ⟨hx⟩ ⟨hk⟩ ⟨hl⟩ ⟨hct⟩ ⟨l1⟩ ⟨l2⟩ ⟨hg⟩)
              | false => exact endsQ_of (by rw [he, hk]; simp [leafC, hct, hg, hb]) (ends_3Tb ⟨hx⟩ ⟨hk⟩ ⟨hl⟩ ⟨hct⟩ ⟨l1⟩ ⟨l2⟩ ⟨hg⟩)
      · exact endsQ_of (by rw [he]; simp [leafC, hct]) (ends_t1 ⟨hx⟩ ⟨hL⟩ ⟨hl⟩ ⟨hct⟩)
    · exact endsQ_of (by rw [he, if_neg hl]) (ends_kids1 ⟨hx⟩ ⟨hL⟩ ⟨hl⟩)
theorem coends_calls {x : S54} {p : Addr} {w : World} (hx : AtC w p x) : Calls Tryd.prog 46 #[.pointer (some p)] w (EndsQ (endsC x) w) := coends_at _ x p w (Nat.lt_succ_self _) hx
end Go.Proofs.YtjmpejbciniceaaDoor.X
