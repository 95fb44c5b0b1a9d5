/- Texts of this claim, joined: HCpS, HCpS2, HCpM, HCArg. -/
import Derived.Test.YtjmpejbciniceaaKCoerceSame9
import Derived.Test.YtjmpejbciniceaaKCoerceSame17
namespace Go.Proofs.Ytjmpejbciniceaa.X
open Go.RowKit Go.Proofs.YtjmpejbciniceaaW.PrintWords Go.Proofs.YtjmpejbciniceaaW.PrintLast Go.Proofs.YtjmpejbciniceaaW.PrintMore
set_option linter.unusedVariables false
set_option linter.unusedSimpArgs false
set_option maxRecDepth 100000 in
set_option maxHeartbeats 1600000 in
theorem cosame_k {a b : S47} {p q : Addr} {w : World} (ha : Aside0 (AtC w p a)) (hb : Aside0 (AtC w q b)) (hkk0 : Aside0 (a.f0 ≠ b.f0)) : Calls Try.prog 29 #[.pointer (some p), .pointer (some q)] w (SaysB false w) := by
  obtain ⟨A2, c2, A4, c4, A7, c7, hP, hT, hU, -, hC⟩ := ha.out
  have HP := Aside0.mk hP
  have HTa := Aside0.mk hT
  have HUa := Aside0.mk hU
  have HCa := Aside0.mk hC
  have hL : a.f5.length ≤ 9223372036854775807 := hC.2.1
  clear hP hT hU hC
  obtain ⟨A2', c2', A4', c4', A7', c7', hP, hT, hU, -, hC⟩ := hb.out
  have HQ := Aside0.mk hP
  have HTb := Aside0.mk hT
  have HUb := Aside0.mk hU
  have HCb := Aside0.mk hC
  clear hP hT hU hC
  have HW := Aside0.mk (Below.refl w.heap.size w)
  have hkk : (a.f0 != b.f0) = true := bne_iff_ne.mpr hkk0.out
  go_enter Try.func29, Try.ntmps29
  go_wp2_with fail
  refine wp_region_held_drew (S := fun w' => w'.cell? p = some (.int .i8 a.f0) ∧ w'.cell? ⟨p.block, p.off + 1, none⟩ = some (.int .i8 a.f1.f0) ∧ w'.cell? ⟨p.block, p.off + 2, none⟩ = some (.slice A2 a.f1.f1.length c2) ∧ w'.cell? q = some (.int .i8 b.f0) ∧ w'.cell? ⟨q.block, q.off + 1, none⟩ = some (.int .i8 b.f1.f0) ∧ w'.cell? ⟨q.block, q.off + 2, none⟩ = some (.slice A2' b.f1.f1.length c2')) (by kernel_rfl) ⟨(HP.out.below HW.out (Nat.le_refl _)).1, (HP.out.below HW.out (Nat.le_refl _)).2.1, (HP.out.below HW.out (Nat.le_refl _)).2.2.1, (HQ.out.below HW.out (Nat.le_refl _)).1, (HQ.out.below HW.out (Nat.le_refl _)).2.1, (HQ.out.below HW.out (Nat.le_refl _)).2.2.1⟩ (fun hHeld => ?_)
  have hB := (Below.refl w.heap.size w).drew
  replace HW := Aside0.mk (below_then HW.out HW.out.size hB)
  clear hB
  generalize w.drew = w1 at *
  refine tK 6 0 hHeld ?_
  refine tK 7 1 hHeld ?_
  refine tK 8 2 hHeld ?_
  refine tK 9 3 hHeld ?_
  refine tK 10 4 hHeld ?_
  refine tK 11 5 hHeld ?_
  refine tK 12 6 hHeld ?_
  refine tK 13 7 hHeld ?_
  refine tK 14 8 hHeld ?_
  try rw [hkk]
  refine tK 15 9 hHeld ?_
  refine pK 16 10 hHeld ?_
  refine pK 17 11 hHeld ?_
  refine pK 18 12 hHeld ?_
  refine pK 19 13 hHeld ?_
  refine pK 20 14 hHeld ?_
  refine pK 21 15 hHeld ?_
  refine pK 22 16 hHeld ?_
  refine pK 23 17 hHeld ?_
  refine pK 24 18 hHeld ?_
  refine pK 25 19 hHeld ?_
  refine pK 26 20 hHeld ?_
  refine pK 27 21 hHeld ?_
  refine pK 28 22 hHeld ?_
  refine pK 29 23 hHeld ?_
  refine pK 30 24 hHeld ?_
  refine pK 31 25 hHeld ?_
  refine pK 32 26 hHeld ?_
  refine tK 33 27 hHeld ?_
  refine wpAnyH_done (by kernel_rfl) ?_ _
  go_wp2_with fail
  go_ret
  exact ⟨rfl, HW.out⟩
set_option maxRecDepth 100000 in
set_option maxHeartbeats 1600000 in
theorem cosame_d {a b : S47} {p q : Addr} {w : World} (ha : Aside0 (AtC w p a)) (hb : Aside0 (AtC w q b)) (hkk0 : Aside0 (a.f0 = b.f0)) (hlf0 : Aside0 (leafB a.f0 = true)) (hst0 : Aside0 (sameB a.f1 b.f1 = false)) : Calls Try.prog 29 #[.pointer (some p), .pointer (some q)] w (SaysB false w) := by
  obtain ⟨A2, c2, A4, c4, A7, c7, hP, hT, hU, -, hC⟩ := ha.out
  have HP := Aside0.mk hP
  have HTa := Aside0.mk hT
  have HUa := Aside0.mk hU
  have HCa := Aside0.mk hC
  have hL : a.f5.length ≤ 9223372036854775807 := hC.2.1
  clear hP hT hU hC
  obtain ⟨A2', c2', A4', c4', A7', c7', hP, hT, hU, -, hC⟩ := hb.out
  have HQ := Aside0.mk hP
  have HTb := Aside0.mk hT
  have HUb := Aside0.mk hU
  have HCb := Aside0.mk hC
  clear hP hT hU hC
  have HW := Aside0.mk (Below.refl w.heap.size w)
  have hkk : (a.f0 != b.f0) = false := bne_eq_false_iff_eq.mpr hkk0.out
  have hlf := hlf0.out
  have hst := hst0.out
  go_enter Try.func29, Try.ntmps29
  go_wp2_with fail
  refine wp_region_held_drew (S := fun w' => w'.cell? p = some (.int .i8 a.f0) ∧ w'.cell? ⟨p.block, p.off + 1, none⟩ = some (.int .i8 a.f1.f0) ∧ w'.cell? ⟨p.block, p.off + 2, none⟩ = some (.slice A2 a.f1.f1.length c2) ∧ w'.cell? q = some (.int .i8 b.f0) ∧ w'.cell? ⟨q.block, q.off + 1, none⟩ = some (.int .i8 b.f1.f0) ∧ w'.cell? ⟨q.block, q.off + 2, none⟩ = some (.slice A2' b.f1.f1.length c2')) (by kernel_rfl) ⟨(HP.out.below HW.out (Nat.le_refl _)).1, (HP.out.below HW.out (Nat.le_refl _)).2.1, (HP.out.below HW.out (Nat.le_refl _)).2.2.1, (HQ.out.below HW.out (Nat.le_refl _)).1, (HQ.out.below HW.out (Nat.le_refl _)).2.1, (HQ.out.below HW.out (Nat.le_refl _)).2.2.1⟩ (fun hHeld => ?_)
  have hB := (Below.refl w.heap.size w).drew
  replace HW := Aside0.mk (below_then HW.out HW.out.size hB)
  clear hB
  generalize w.drew = w1 at *
  refine tK 6 0 hHeld ?_
  refine tK 7 1 hHeld ?_
  refine tK 8 2 hHeld ?_
  refine tK 9 3 hHeld ?_
  refine tK 10 4 hHeld ?_
  refine tK 11 5 hHeld ?_
  refine tK 12 6 hHeld ?_
  refine tK 13 7 hHeld ?_
  refine tK 14 8 hHeld ?_
  try rw [hkk]
  refine tK 15 9 hHeld ?_
  refine tK 16 10 hHeld ?_
  refine tK 17 11 hHeld ?_
  refine tK 18 12 hHeld ?_
  refine tK 19 13 hHeld ?_
  refine cK 20 14 (leaf_calls a.f0 _) ?_
  rintro e w2 ⟨rfl, hB⟩
  rw [hlf]
  replace HW := Aside0.mk (below_then HW.out HW.out.size hB)
  refine ⟨_, rfl, ⟨pwc hB hHeld.1, pwc hB hHeld.2.1, pwc hB hHeld.2.2.1, pwc hB hHeld.2.2.2.1, pwc hB hHeld.2.2.2.2.1, pwc hB hHeld.2.2.2.2.2⟩, fun hHeld => nA ?_⟩
  clear hB
  refine tK 21 15 hHeld ?_
  refine tK 22 16 hHeld ?_
  refine tK 23 17 hHeld ?_
  refine tK 24 18 hHeld ?_
  refine tK 25 19 hHeld ?_
  refine tK 26 20 hHeld ?_
  refine tK 27 21 hHeld ?_
  refine tK 28 22 hHeld ?_
  refine tK 29 23 hHeld ?_
  refine cK 30 24 (Same_calls (HTa.out.below HW.out) (HTb.out.below HW.out)) ?_
  rintro e w3 ⟨rfl, hB⟩
  rw [hst]
  replace HW := Aside0.mk (below_then HW.out HW.out.size hB)
  refine ⟨_, rfl, ⟨pwc hB hHeld.1, pwc hB hHeld.2.1, pwc hB hHeld.2.2.1, pwc hB hHeld.2.2.2.1, pwc hB hHeld.2.2.2.2.1, pwc hB hHeld.2.2.2.2.2⟩, fun hHeld => nA ?_⟩
  clear hB
  refine tK 31 25 hHeld ?_
  refine tK 32 26 hHeld ?_
  refine tK 33 27 hHeld ?_
  refine wpAnyH_done (by kernel_rfl) ?_ _
  go_wp2_with fail
  go_ret
  exact ⟨rfl, HW.out⟩
set_option maxRecDepth 100000 in
set_option maxHeartbeats 1600000 in
theorem cosame_s {a b : S47} {p q : Addr} {w : World} (ha : Aside0 (AtC w p a)) (hb : Aside0 (AtC w q b)) (hkk0 : Aside0 (a.f0 = b.f0)) (hlf0 : Aside0 (leafB a.f0 = true)) (hst0 : Aside0 (sameB a.f1 b.f1 = true)) (hn1 : Aside0 (a.f0 ≠ 1)) (hn3 : Aside0 (a.f0 ≠ 3)) (hz : Aside0 (a.f5.length = 0)) : Calls Try.prog 29 #[.pointer (some p), .pointer (some q)] w (SaysB true w) := by
  obtain ⟨A2, c2, A4, c4, A7, c7, hP, hT, hU, -, hC⟩ := ha.out
  have HP := Aside0.mk hP
  have HTa := Aside0.mk hT
  have HUa := Aside0.mk hU
  have HCa := Aside0.mk hC
  have hL : a.f5.length ≤ 9223372036854775807 := hC.2.1
  clear hP hT hU hC
  obtain ⟨A2', c2', A4', c4', A7', c7', hP, hT, hU, -, hC⟩ := hb.out
  have HQ := Aside0.mk hP
  have HTb := Aside0.mk hT
  have HUb := Aside0.mk hU
  have HCb := Aside0.mk hC
  clear hP hT hU hC
  have HW := Aside0.mk (Below.refl w.heap.size w)
  have hkk : (a.f0 != b.f0) = false := bne_eq_false_iff_eq.mpr hkk0.out
  have hlf := hlf0.out
  have hst := hst0.out
  have gk1 : (a.f0 == 1) = false := beq_eq_false_iff_ne.mpr hn1.out
  have gk3 : (a.f0 == 3) = false := beq_eq_false_iff_ne.mpr hn3.out
  go_enter Try.func29, Try.ntmps29
  go_wp2_with fail
  refine wp_region_held_drew (S := fun w' => w'.cell? p = some (.int .i8 a.f0) ∧ w'.cell? ⟨p.block, p.off + 1, none⟩ = some (.int .i8 a.f1.f0) ∧ w'.cell? ⟨p.block, p.off + 2, none⟩ = some (.slice A2 a.f1.f1.length c2) ∧ w'.cell? q = some (.int .i8 b.f0) ∧ w'.cell? ⟨q.block, q.off + 1, none⟩ = some (.int .i8 b.f1.f0) ∧ w'.cell? ⟨q.block, q.off + 2, none⟩ = some (.slice A2' b.f1.f1.length c2')) (by kernel_rfl) ⟨(HP.out.below HW.out (Nat.le_refl _)).1, (HP.out.below HW.out (Nat.le_refl _)).2.1, (HP.out.below HW.out (Nat.le_refl _)).2.2.1, (HQ.out.below HW.out (Nat.le_refl _)).1, (HQ.out.below HW.out (Nat.le_refl _)).2.1, (HQ.out.below HW.out (Nat.le_refl _)).2.2.1⟩ (fun hHeld => ?_)
  have hB := (Below.refl w.heap.size w).drew
  replace HW := Aside0.mk (below_then HW.out HW.out.size hB)
  clear hB
  generalize w.drew = w1 at *
  refine tK 6 0 hHeld ?_
  refine tK 7 1 hHeld ?_
  refine tK 8 2 hHeld ?_
  refine tK 9 3 hHeld ?_
  refine tK 10 4 hHeld ?_
  refine tK 11 5 hHeld ?_
  refine tK 12 6 hHeld ?_
  refine tK 13 7 hHeld ?_
  refine tK 14 8 hHeld ?_
  try rw [hkk]
  refine tK 15 9 hHeld ?_
  refine tK 16 10 hHeld ?_
  refine tK 17 11 hHeld ?_
  refine tK 18 12 hHeld ?_
  refine tK 19 13 hHeld ?_
  refine cK 20 14 (leaf_calls a.f0 _) ?_
  rintro e w2 ⟨rfl, hB⟩
  rw [hlf]
  replace HW := Aside0.mk (below_then HW.out HW.out.size hB)
  refine ⟨_, rfl, ⟨pwc hB hHeld.1, pwc hB hHeld.2.1, pwc hB hHeld.2.2.1, pwc hB hHeld.2.2.2.1, pwc hB hHeld.2.2.2.2.1, pwc hB hHeld.2.2.2.2.2⟩, fun hHeld => nA ?_⟩
  clear hB
  refine tK 21 15 hHeld ?_
  refine tK 22 16 hHeld ?_
  refine tK 23 17 hHeld ?_
  refine tK 24 18 hHeld ?_
  refine tK 25 19 hHeld ?_
  refine tK 26 20 hHeld ?_
  refine tK 27 21 hHeld ?_
  refine tK 28 22 hHeld ?_
  refine tK 29 23 hHeld ?_
  refine cK 30 24 (Same_calls (HTa.out.below HW.out) (HTb.out.below HW.out)) ?_
  rintro e w3 ⟨rfl, hB⟩
  rw [hst]
  replace HW := Aside0.mk (below_then HW.out HW.out.size hB)
  refine ⟨_, rfl, ⟨pwc hB hHeld.1, pwc hB hHeld.2.1, pwc hB hHeld.2.2.1, pwc hB hHeld.2.2.2.1, pwc hB hHeld.2.2.2.2.1, pwc hB hHeld.2.2.2.2.2⟩, fun hHeld => nA ?_⟩
  clear hB
  refine tK 31 25 hHeld ?_
  refine tK 32 26 hHeld ?_
  refine tK 33 27 hHeld ?_
  refine wpAnyH_done (by kernel_rfl) ?_ _
  obtain ⟨k0, k1, k2, k3, k4, k5, k6, k7⟩ := HP.out.below HW.out (Nat.le_refl _)
  obtain ⟨j0, j1, j2, j3, j4, j5, j6, j7⟩ := HQ.out.below HW.out (Nat.le_refl _)
  rw [hz.out] at k7
  go_wp2_with fail
  clear k0 k1 k2 k3 k4 k5 k6 k7 j0 j1 j2 j3 j4 j5 j6 j7
  go_loopw [77] (fun i wr => i = .int .i64 0 ∧ Below w.heap.size w wr) (fun _ _ => 0)
  case atStart => exact ⟨rfl, HW.out⟩
  case round =>
    obtain ⟨rfl, hW⟩ := hrel
    have HW2 := Aside0.mk hW
    clear hW
    go_wp2_with fail
    go_ret
    exact ⟨rfl, HW2.out⟩
set_option maxRecDepth 100000 in
set_option maxHeartbeats 1600000 in
theorem cosame_n {a b : S47} {p q : Addr} {w : World} (ha : Aside0 (AtC w p a)) (hb : Aside0 (AtC w q b)) (hkk0 : Aside0 (a.f0 = b.f0)) (hlf0 : Aside0 (leafB a.f0 = false)) (hn1 : Aside0 (a.f0 ≠ 1)) (hn3 : Aside0 (a.f0 ≠ 3)) (hlen : Aside0 (a.f5.length = b.f5.length)) (hks : Aside0 (∀ j : Nat, j < a.f5.length → (endsC (rd_T47 a.f5 j)).isSome = true ∧ (endsC (rd_T47 b.f5 j)).isSome = true)) (IH : Aside0 (∀ (y z : S47) (p q : Addr) (w : World), cnodes y < cnodes a → (endsC y).isSome = true → (endsC z).isSome = true → AtC w p y → AtC w q z → Calls Try.prog 29 #[.pointer (some p), .pointer (some q)] w (SaysB (likeC y z) w))) : Calls Try.prog 29 #[.pointer (some p), .pointer (some q)] w (SaysB (likeCL a.f5 b.f5) w) := by
  obtain ⟨A2, c2, A4, c4, A7, c7, hP, hT, hU, -, hC⟩ := ha.out
  have HP := Aside0.mk hP
  have HTa := Aside0.mk hT
  have HUa := Aside0.mk hU
  have HCa := Aside0.mk hC
  have hL : a.f5.length ≤ 9223372036854775807 := hC.2.1
  clear hP hT hU hC
  obtain ⟨A2', c2', A4', c4', A7', c7', hP, hT, hU, -, hC⟩ := hb.out
  have HQ := Aside0.mk hP
  have HTb := Aside0.mk hT
  have HUb := Aside0.mk hU
  have HCb := Aside0.mk hC
  clear hP hT hU hC
  have HW := Aside0.mk (Below.refl w.heap.size w)
  have hkk : (a.f0 != b.f0) = false := bne_eq_false_iff_eq.mpr hkk0.out
  have hlf := hlf0.out
  have gk1 : (a.f0 == 1) = false := beq_eq_false_iff_ne.mpr hn1.out
  have gk3 : (a.f0 == 3) = false := beq_eq_false_iff_ne.mpr hn3.out
  go_enter Try.func29, Try.ntmps29
  go_wp2_with fail
  refine wp_region_held_drew (S := fun w' => w'.cell? p = some (.int .i8 a.f0) ∧ w'.cell? ⟨p.block, p.off + 1, none⟩ = some (.int .i8 a.f1.f0) ∧ w'.cell? ⟨p.block, p.off + 2, none⟩ = some (.slice A2 a.f1.f1.length c2) ∧ w'.cell? q = some (.int .i8 b.f0) ∧ w'.cell? ⟨q.block, q.off + 1, none⟩ = some (.int .i8 b.f1.f0) ∧ w'.cell? ⟨q.block, q.off + 2, none⟩ = some (.slice A2' b.f1.f1.length c2')) (by kernel_rfl) ⟨(HP.out.below HW.out (Nat.le_refl _)).1, (HP.out.below HW.out (Nat.le_refl _)).2.1, (HP.out.below HW.out (Nat.le_refl _)).2.2.1, (HQ.out.below HW.out (Nat.le_refl _)).1, (HQ.out.below HW.out (Nat.le_refl _)).2.1, (HQ.out.below HW.out (Nat.le_refl _)).2.2.1⟩ (fun hHeld => ?_)
  have hB := (Below.refl w.heap.size w).drew
  replace HW := Aside0.mk (below_then HW.out HW.out.size hB)
  clear hB
  generalize w.drew = w1 at *
  refine tK 6 0 hHeld ?_
  refine tK 7 1 hHeld ?_
  refine tK 8 2 hHeld ?_
  refine tK 9 3 hHeld ?_
  refine tK 10 4 hHeld ?_
  refine tK 11 5 hHeld ?_
  refine tK 12 6 hHeld ?_
  refine tK 13 7 hHeld ?_
  refine tK 14 8 hHeld ?_
  try rw [hkk]
  refine tK 15 9 hHeld ?_
  refine tK 16 10 hHeld ?_
  refine tK 17 11 hHeld ?_
  refine tK 18 12 hHeld ?_
  refine tK 19 13 hHeld ?_
  refine cK 20 14 (leaf_calls a.f0 _) ?_
  rintro e w2 ⟨rfl, hB⟩
  rw [hlf]
  replace HW := Aside0.mk (below_then HW.out HW.out.size hB)
  refine ⟨_, rfl, ⟨pwc hB hHeld.1, pwc hB hHeld.2.1, pwc hB hHeld.2.2.1, pwc hB hHeld.2.2.2.1, pwc hB hHeld.2.2.2.2.1, pwc hB hHeld.2.2.2.2.2⟩, fun hHeld => nA ?_⟩
  clear hB
  refine tK 21 15 hHeld ?_
  refine pK 22 16 hHeld ?_
  refine pK 23 17 hHeld ?_
  refine pK 24 18 hHeld ?_
  refine pK 25 19 hHeld ?_
  refine pK 26 20 hHeld ?_
  refine pK 27 21 hHeld ?_
  refine pK 28 22 hHeld ?_
  refine pK 29 23 hHeld ?_
  refine pK 30 24 hHeld ?_
  refine pK 31 25 hHeld ?_
  refine tK 32 26 hHeld ?_
  refine tK 33 27 hHeld ?_
  refine wpAnyH_done (by kernel_rfl) ?_ _
  obtain ⟨k0, k1, k2, k3, k4, k5, k6, k7⟩ := HP.out.below HW.out (Nat.le_refl _)
  obtain ⟨j0, j1, j2, j3, j4, j5, j6, j7⟩ := HQ.out.below HW.out (Nat.le_refl _)
  go_wp2_with fail
  clear k0 k1 k2 k3 k4 k5 k6 k7 j0 j1 j2 j3 j4 j5 j6 j7
  go_loopw [77] (fun i wr => ∃ j : Nat, i = .int .i64 j ∧ j ≤ a.f5.length ∧ likeCL (a.f5.drop j) (b.f5.drop j) = likeCL a.f5 b.f5 ∧ Below w.heap.size w wr) (fun i _ => a.f5.length - (intOf i).toNat)
  case atStart => exact ⟨0, rfl, Nat.zero_le _, by simp, HW.out⟩
  case round =>
    clear HW
    obtain ⟨j, rfl, hj, hinv, hW⟩ := hrel
    have HW := Aside0.mk hW
    have HI := Aside0.mk hinv
    clear hW hinv
    by_cases hlt : j < a.f5.length
    · have hlt2 : j < b.f5.length := by have := hlen.out; omega
      obtain ⟨ad, rfl, hK⟩ := AtC_kid HCa.out (j : Int) (by omega) (by omega) rfl
      obtain ⟨ae, rfl, hK2⟩ := AtC_kid HCb.out (j : Int) (by omega) (by omega) rfl
      have HK := Aside0.mk hK
      have HK2 := Aside0.mk hK2
      have HDr := Aside0.mk (likeCL_drop a.f5 b.f5 j hlt hlt2)
      have HN : Aside0 (cnodes (rd_T47 a.f5 (j : Int)) < cnodes a) := .mk (by have e1 := cnodesL_drop a.f5 j hlt; have e2 := cnodesL_drop_le a.f5 j; have e3 := cnodes_eq a; omega)
      have HS := Aside0.mk (hks.out j hlt)
      clear hK hK2
      generalize rd_T47 a.f5 (j : Int) = y at *
      generalize rd_T47 b.f5 (j : Int) = z at *
      go_wp2_with fail
      refine wp_region_held_drew (S := fun w' => w'.cell? ⟨p.block, p.off + 7, none⟩ = some (.slice (some ad) a.f5.length c7) ∧ w'.cell? ⟨q.block, q.off + 7, none⟩ = some (.slice (some ae) b.f5.length c7')) (by kernel_rfl) ⟨(HP.out.below HW.out (Nat.le_refl _)).2.2.2.2.2.2.2, (HQ.out.below HW.out (Nat.le_refl _)).2.2.2.2.2.2.2⟩ (fun hHeld => ?_)
      have hB := (Below.refl wr.heap.size wr).drew
      replace HW := Aside0.mk (below_then HW.out HW.out.size hB)
      clear hB
      generalize wr.drew = w3 at *
      refine tK 80 0 hHeld ?_
      refine tK 81 1 hHeld ?_
      refine tK 82 2 hHeld ?_
      refine tK 83 3 hHeld ?_
      refine tK 84 4 hHeld ?_
      refine tK 85 5 hHeld ?_
      refine tK 86 6 hHeld ?_
      refine tK 87 7 hHeld ?_
      refine tK 88 8 hHeld ?_
      refine tK 89 9 hHeld ?_
      refine tK 90 10 hHeld ?_
      refine tK 91 11 hHeld ?_
      cases hyz : likeC y z with
      | false =>
        refine cK 92 12 (IH.out y z _ _ _ HN.out HS.out.1 HS.out.2 (HK.out.below HW.out) (HK2.out.below HW.out)) ?_
        rintro e w4 ⟨rfl, hB⟩
        rw [hyz]
        replace HW := Aside0.mk (below_then HW.out HW.out.size hB)
        refine ⟨_, rfl, ⟨pwc hB hHeld.1, pwc hB hHeld.2⟩, fun hHeld => nA ?_⟩
        clear hB
        refine tK 93 13 hHeld ?_
        refine wpAnyH_done (by kernel_rfl) ?_ _
        have hr : likeCL a.f5 b.f5 = false := by rw [← HI.out, HDr.out, hyz]; rfl
        go_wp2_with fail
        go_ret
        exact ⟨by first | rfl | (rw [hr]; rfl), HW.out⟩
      | true =>
        refine cK 92 12 (IH.out y z _ _ _ HN.out HS.out.1 HS.out.2 (HK.out.below HW.out) (HK2.out.below HW.out)) ?_
        rintro e w5 ⟨rfl, hB⟩
        rw [hyz]
        replace HW := Aside0.mk (below_then HW.out HW.out.size hB)
        refine ⟨_, rfl, ⟨pwc hB hHeld.1, pwc hB hHeld.2⟩, fun hHeld => nA ?_⟩
        clear hB
        refine tK 93 13 hHeld ?_
        refine wpAnyH_done (by kernel_rfl) ?_ _
        go_wp2_with fail
        go_roundw
        case rel => exact ⟨j + 1, by go_num, by omega, by rw [← HI.out, HDr.out, hyz]; rfl, HW.out⟩
        case measure => simp [intOf]; omega
    · obtain rfl : j = a.f5.length := by omega
      have hr : likeCL a.f5 b.f5 = true := by have := HI.out; rw [List.drop_eq_nil_of_le (Nat.le_refl _), likeCL] at this; exact this.symm
      go_wp2_with fail
      go_ret
      exact ⟨by first | rfl | (rw [hr]; rfl), HW.out⟩
set_option maxRecDepth 100000 in
set_option maxHeartbeats 1600000 in
theorem cosame_1u {a b : S47} {p q : Addr} {w : World} (ha : Aside0 (AtC w p a)) (hb : Aside0 (AtC w q b)) (hkk0 : Aside0 (a.f0 = b.f0)) (hst0 : Aside0 (sameB a.f1 b.f1 = true)) (hk : Aside0 (a.f0 = 1)) (hsu0 : Aside0 (sameB a.f2 b.f2 = false)) : Calls Try.prog 29 #[.pointer (some p), .pointer (some q)] w (SaysB false w) := by
  obtain ⟨A2, c2, A4, c4, A7, c7, hP, hT, hU, -, hC⟩ := ha.out
  have HP := Aside0.mk hP
  have HTa := Aside0.mk hT
  have HUa := Aside0.mk hU
  have HCa := Aside0.mk hC
  have hL : a.f5.length ≤ 9223372036854775807 := hC.2.1
  clear hP hT hU hC
  obtain ⟨A2', c2', A4', c4', A7', c7', hP, hT, hU, -, hC⟩ := hb.out
  have HQ := Aside0.mk hP
  have HTb := Aside0.mk hT
  have HUb := Aside0.mk hU
  have HCb := Aside0.mk hC
  clear hP hT hU hC
  have HW := Aside0.mk (Below.refl w.heap.size w)
  have hkk : (a.f0 != b.f0) = false := bne_eq_false_iff_eq.mpr hkk0.out
  have hlf : leafB a.f0 = true := by rw [hk.out]; rfl
  have hst := hst0.out
  have gk1 : (a.f0 == 1) = true := by rw [hk.out]; rfl
  have hsu := hsu0.out
  go_enter Try.func29, Try.ntmps29
  go_wp2_with fail
  refine wp_region_held_drew (S := fun w' => w'.cell? p = some (.int .i8 a.f0) ∧ w'.cell? ⟨p.block, p.off + 1, none⟩ = some (.int .i8 a.f1.f0) ∧ w'.cell? ⟨p.block, p.off + 2, none⟩ = some (.slice A2 a.f1.f1.length c2) ∧ w'.cell? q = some (.int .i8 b.f0) ∧ w'.cell? ⟨q.block, q.off + 1, none⟩ = some (.int .i8 b.f1.f0) ∧ w'.cell? ⟨q.block, q.off + 2, none⟩ = some (.slice A2' b.f1.f1.length c2')) (by kernel_rfl) ⟨(HP.out.below HW.out (Nat.le_refl _)).1, (HP.out.below HW.out (Nat.le_refl _)).2.1, (HP.out.below HW.out (Nat.le_refl _)).2.2.1, (HQ.out.below HW.out (Nat.le_refl _)).1, (HQ.out.below HW.out (Nat.le_refl _)).2.1, (HQ.out.below HW.out (Nat.le_refl _)).2.2.1⟩ (fun hHeld => ?_)
  have hB := (Below.refl w.heap.size w).drew
  replace HW := Aside0.mk (below_then HW.out HW.out.size hB)
  clear hB
  generalize w.drew = w1 at *
  refine tK 6 0 hHeld ?_
  refine tK 7 1 hHeld ?_
  refine tK 8 2 hHeld ?_
  refine tK 9 3 hHeld ?_
  refine tK 10 4 hHeld ?_
  refine tK 11 5 hHeld ?_
  refine tK 12 6 hHeld ?_
  refine tK 13 7 hHeld ?_
  refine tK 14 8 hHeld ?_
  try rw [hkk]
  refine tK 15 9 hHeld ?_
  refine tK 16 10 hHeld ?_
  refine tK 17 11 hHeld ?_
  refine tK 18 12 hHeld ?_
  refine tK 19 13 hHeld ?_
  refine cK 20 14 (leaf_calls a.f0 _) ?_
  rintro e w2 ⟨rfl, hB⟩
  rw [hlf]
  replace HW := Aside0.mk (below_then HW.out HW.out.size hB)
  refine ⟨_, rfl, ⟨pwc hB hHeld.1, pwc hB hHeld.2.1, pwc hB hHeld.2.2.1, pwc hB hHeld.2.2.2.1, pwc hB hHeld.2.2.2.2.1, pwc hB hHeld.2.2.2.2.2⟩, fun hHeld => nA ?_⟩
  clear hB
  refine tK 21 15 hHeld ?_
  refine tK 22 16 hHeld ?_
  refine tK 23 17 hHeld ?_
  refine tK 24 18 hHeld ?_
  refine tK 25 19 hHeld ?_
  refine tK 26 20 hHeld ?_
  refine tK 27 21 hHeld ?_
  refine tK 28 22 hHeld ?_
  refine tK 29 23 hHeld ?_
  refine cK 30 24 (Same_calls (HTa.out.below HW.out) (HTb.out.below HW.out)) ?_
  rintro e w3 ⟨rfl, hB⟩
  rw [hst]
  replace HW := Aside0.mk (below_then HW.out HW.out.size hB)
  refine ⟨_, rfl, ⟨pwc hB hHeld.1, pwc hB hHeld.2.1, pwc hB hHeld.2.2.1, pwc hB hHeld.2.2.2.1, pwc hB hHeld.2.2.2.2.1, pwc hB hHeld.2.2.2.2.2⟩, fun hHeld => nA ?_⟩
  clear hB
  refine tK 31 25 hHeld ?_
  refine tK 32 26 hHeld ?_
  refine tK 33 27 hHeld ?_
  refine wpAnyH_done (by kernel_rfl) ?_ _
  obtain ⟨k0, k1, k2, k3, k4, k5, k6, k7⟩ := HP.out.below HW.out (Nat.le_refl _)
  obtain ⟨j0, j1, j2, j3, j4, j5, j6, j7⟩ := HQ.out.below HW.out (Nat.le_refl _)
  go_wp2_with fail
  clear k0 k1 k2 k3 k4 k5 k6 k7 j0 j1 j2 j3 j4 j5 j6 j7
  refine wp_region_held_drew (S := fun w' => w'.cell? ⟨p.block, p.off + 3, none⟩ = some (.int .i8 a.f2.f0) ∧ w'.cell? ⟨p.block, p.off + 4, none⟩ = some (.slice A4 a.f2.f1.length c4) ∧ w'.cell? ⟨q.block, q.off + 3, none⟩ = some (.int .i8 b.f2.f0) ∧ w'.cell? ⟨q.block, q.off + 4, none⟩ = some (.slice A4' b.f2.f1.length c4')) (by kernel_rfl) ⟨(HP.out.below HW.out (Nat.le_refl _)).2.2.2.1, (HP.out.below HW.out (Nat.le_refl _)).2.2.2.2.1, (HQ.out.below HW.out (Nat.le_refl _)).2.2.2.1, (HQ.out.below HW.out (Nat.le_refl _)).2.2.2.2.1⟩ (fun hHeld => ?_)
  have hB := (Below.refl w3.heap.size w3).drew
  replace HW := Aside0.mk (below_then HW.out HW.out.size hB)
  clear hB
  generalize w3.drew = w4 at *
  refine tK 42 0 hHeld ?_
  refine tK 43 1 hHeld ?_
  refine tK 44 2 hHeld ?_
  refine tK 45 3 hHeld ?_
  refine tK 46 4 hHeld ?_
  refine tK 47 5 hHeld ?_
  refine tK 48 6 hHeld ?_
  refine tK 49 7 hHeld ?_
  refine cK 50 8 (Same_calls (HUa.out.below HW.out) (HUb.out.below HW.out)) ?_
  rintro e w5 ⟨rfl, hB⟩
  rw [hsu]
  replace HW := Aside0.mk (below_then HW.out HW.out.size hB)
  refine ⟨_, rfl, ⟨pwc hB hHeld.1, pwc hB hHeld.2.1, pwc hB hHeld.2.2.1, pwc hB hHeld.2.2.2⟩, fun hHeld => nA ?_⟩
  clear hB
  refine tK 51 9 hHeld ?_
  refine wpAnyH_done (by kernel_rfl) ?_ _
  go_wp2_with fail
  go_ret
  exact ⟨rfl, HW.out⟩
set_option maxRecDepth 100000 in
set_option maxHeartbeats 1600000 in
theorem cosame_1x {a b : S47} {p q : Addr} {w : World} (ha : Aside0 (AtC w p a)) (hb : Aside0 (AtC w q b)) (hkk0 : Aside0 (a.f0 = b.f0)) (hst0 : Aside0 (sameB a.f1 b.f1 = true)) (hk : Aside0 (a.f0 = 1)) (hsu0 : Aside0 (sameB a.f2 b.f2 = true)) (hla0 : Aside0 (a.f3 ≠ b.f3))  : Calls Try.prog 29 #[.pointer (some p), .pointer (some q)] w (SaysB false w) := by
  obtain ⟨A2, c2, A4, c4, A7, c7, hP, hT, hU, -, hC⟩ := ha.out
  have HP := Aside0.mk hP
  have HTa := Aside0.mk hT
  have HUa := Aside0.mk hU
  have HCa := Aside0.mk hC
  have hL : a.f5.length ≤ 9223372036854775807 := hC.2.1
  clear hP hT hU hC
  obtain ⟨A2', c2', A4', c4', A7', c7', hP, hT, hU, -, hC⟩ := hb.out
  have HQ := Aside0.mk hP
  have HTb := Aside0.mk hT
  have HUb := Aside0.mk hU
  have HCb := Aside0.mk hC
  clear hP hT hU hC
  have HW := Aside0.mk (Below.refl w.heap.size w)
  have hkk : (a.f0 != b.f0) = false := bne_eq_false_iff_eq.mpr hkk0.out
  have hlf : leafB a.f0 = true := by rw [hk.out]; rfl
  have hst := hst0.out
  have gk1 : (a.f0 == 1) = true := by rw [hk.out]; rfl
  have hsu := hsu0.out
  have hla : (a.f3 != b.f3) = true := bne_iff_ne.mpr hla0.out
  go_enter Try.func29, Try.ntmps29
  go_wp2_with fail
  refine wp_region_held_drew (S := fun w' => w'.cell? p = some (.int .i8 a.f0) ∧ w'.cell? ⟨p.block, p.off + 1, none⟩ = some (.int .i8 a.f1.f0) ∧ w'.cell? ⟨p.block, p.off + 2, none⟩ = some (.slice A2 a.f1.f1.length c2) ∧ w'.cell? q = some (.int .i8 b.f0) ∧ w'.cell? ⟨q.block, q.off + 1, none⟩ = some (.int .i8 b.f1.f0) ∧ w'.cell? ⟨q.block, q.off + 2, none⟩ = some (.slice A2' b.f1.f1.length c2')) (by kernel_rfl) ⟨(HP.out.below HW.out (Nat.le_refl _)).1, (HP.out.below HW.out (Nat.le_refl _)).2.1, (HP.out.below HW.out (Nat.le_refl _)).2.2.1, (HQ.out.below HW.out (Nat.le_refl _)).1, (HQ.out.below HW.out (Nat.le_refl _)).2.1, (HQ.out.below HW.out (Nat.le_refl _)).2.2.1⟩ (fun hHeld => ?_)
  have hB := (Below.refl w.heap.size w).drew
  replace HW := Aside0.mk (below_then HW.out HW.out.size hB)
  clear hB
  generalize w.drew = w1 at *
  refine tK 6 0 hHeld ?_
  refine tK 7 1 hHeld ?_
  refine tK 8 2 hHeld ?_
  refine tK 9 3 hHeld ?_
  refine tK 10 4 hHeld ?_
  refine tK 11 5 hHeld ?_
  refine tK 12 6 hHeld ?_
  refine tK 13 7 hHeld ?_
  refine tK 14 8 hHeld ?_
  try rw [hkk]
  refine tK 15 9 hHeld ?_
  refine tK 16 10 hHeld ?_
  refine tK 17 11 hHeld ?_
  refine tK 18 12 hHeld ?_
  refine tK 19 13 hHeld ?_
  refine cK 20 14 (leaf_calls a.f0 _) ?_
  rintro e w2 ⟨rfl, hB⟩
  rw [hlf]
  replace HW := Aside0.mk (below_then HW.out HW.out.size hB)
  refine ⟨_, rfl, ⟨pwc hB hHeld.1, pwc hB hHeld.2.1, pwc hB hHeld.2.2.1, pwc hB hHeld.2.2.2.1, pwc hB hHeld.2.2.2.2.1, pwc hB hHeld.2.2.2.2.2⟩, fun hHeld => nA ?_⟩
  clear hB
  refine tK 21 15 hHeld ?_
  refine tK 22 16 hHeld ?_
  refine tK 23 17 hHeld ?_
  refine tK 24 18 hHeld ?_
  refine tK 25 19 hHeld ?_
  refine tK 26 20 hHeld ?_
  refine tK 27 21 hHeld ?_
  refine tK 28 22 hHeld ?_
  refine tK 29 23 hHeld ?_
  refine cK 30 24 (Same_calls (HTa.out.below HW.out) (HTb.out.below HW.out)) ?_
  rintro e w3 ⟨rfl, hB⟩
  rw [hst]
  replace HW := Aside0.mk (below_then HW.out HW.out.size hB)
  refine ⟨_, rfl, ⟨pwc hB hHeld.1, pwc hB hHeld.2.1, pwc hB hHeld.2.2.1, pwc hB hHeld.2.2.2.1, pwc hB hHeld.2.2.2.2.1, pwc hB hHeld.2.2.2.2.2⟩, fun hHeld => nA ?_⟩
  clear hB
  refine tK 31 25 hHeld ?_
  refine tK 32 26 hHeld ?_
  refine tK 33 27 hHeld ?_
  refine wpAnyH_done (by kernel_rfl) ?_ _
  obtain ⟨k0, k1, k2, k3, k4, k5, k6, k7⟩ := HP.out.below HW.out (Nat.le_refl _)
  obtain ⟨j0, j1, j2, j3, j4, j5, j6, j7⟩ := HQ.out.below HW.out (Nat.le_refl _)
  go_wp2_with fail
  clear k0 k1 k2 k3 k4 k5 k6 k7 j0 j1 j2 j3 j4 j5 j6 j7
  refine wp_region_held_drew (S := fun w' => w'.cell? ⟨p.block, p.off + 3, none⟩ = some (.int .i8 a.f2.f0) ∧ w'.cell? ⟨p.block, p.off + 4, none⟩ = some (.slice A4 a.f2.f1.length c4) ∧ w'.cell? ⟨q.block, q.off + 3, none⟩ = some (.int .i8 b.f2.f0) ∧ w'.cell? ⟨q.block, q.off + 4, none⟩ = some (.slice A4' b.f2.f1.length c4')) (by kernel_rfl) ⟨(HP.out.below HW.out (Nat.le_refl _)).2.2.2.1, (HP.out.below HW.out (Nat.le_refl _)).2.2.2.2.1, (HQ.out.below HW.out (Nat.le_refl _)).2.2.2.1, (HQ.out.below HW.out (Nat.le_refl _)).2.2.2.2.1⟩ (fun hHeld => ?_)
  have hB := (Below.refl w3.heap.size w3).drew
  replace HW := Aside0.mk (below_then HW.out HW.out.size hB)
  clear hB
  generalize w3.drew = w4 at *
  refine tK 42 0 hHeld ?_
  refine tK 43 1 hHeld ?_
  refine tK 44 2 hHeld ?_
  refine tK 45 3 hHeld ?_
  refine tK 46 4 hHeld ?_
  refine tK 47 5 hHeld ?_
  refine tK 48 6 hHeld ?_
  refine tK 49 7 hHeld ?_
  refine cK 50 8 (Same_calls (HUa.out.below HW.out) (HUb.out.below HW.out)) ?_
  rintro e w5 ⟨rfl, hB⟩
  rw [hsu]
  replace HW := Aside0.mk (below_then HW.out HW.out.size hB)
  refine ⟨_, rfl, ⟨pwc hB hHeld.1, pwc hB hHeld.2.1, pwc hB hHeld.2.2.1, pwc hB hHeld.2.2.2⟩, fun hHeld => nA ?_⟩
  clear hB
  refine tK 51 9 hHeld ?_
  refine wpAnyH_done (by kernel_rfl) ?_ _
  obtain ⟨k0, k1, k2, k3, k4, k5, k6, k7⟩ := HP.out.below HW.out (Nat.le_refl _)
  obtain ⟨j0, j1, j2, j3, j4, j5, j6, j7⟩ := HQ.out.below HW.out (Nat.le_refl _)
  go_wp2_with fail
  clear k0 k1 k2 k3 k4 k5 k6 k7 j0 j1 j2 j3 j4 j5 j6 j7
  refine wp_region_held_drew (S := fun w' => w'.cell? ⟨p.block, p.off + 5, none⟩ = some (.int .i64 a.f3) ∧ w'.cell? ⟨p.block, p.off + 6, none⟩ = some (.bool a.f4) ∧ w'.cell? ⟨q.block, q.off + 5, none⟩ = some (.int .i64 b.f3) ∧ w'.cell? ⟨q.block, q.off + 6, none⟩ = some (.bool b.f4)) (by kernel_rfl) ⟨(HP.out.below HW.out (Nat.le_refl _)).2.2.2.2.2.1, (HP.out.below HW.out (Nat.le_refl _)).2.2.2.2.2.2.1, (HQ.out.below HW.out (Nat.le_refl _)).2.2.2.2.2.1, (HQ.out.below HW.out (Nat.le_refl _)).2.2.2.2.2.2.1⟩ (fun hHeld => ?_)
  have hB := (Below.refl w5.heap.size w5).drew
  replace HW := Aside0.mk (below_then HW.out HW.out.size hB)
  clear hB
  generalize w5.drew = w6 at *
  refine tK 52 0 hHeld ?_
  refine tK 53 1 hHeld ?_
  refine tK 54 2 hHeld ?_
  refine tK 55 3 hHeld ?_
  refine tK 56 4 hHeld ?_
  refine tK 57 5 hHeld ?_
  refine tK 58 6 hHeld ?_
  refine tK 59 7 hHeld ?_
  refine tK 60 8 hHeld ?_
  try rw [hla]
  refine tK 61 9 hHeld ?_
  refine pK 62 10 hHeld ?_
  refine pK 63 11 hHeld ?_
  refine pK 64 12 hHeld ?_
  refine pK 65 13 hHeld ?_
  refine pK 66 14 hHeld ?_
  refine pK 67 15 hHeld ?_
  refine pK 68 16 hHeld ?_
  refine pK 69 17 hHeld ?_
  refine pK 70 18 hHeld ?_
  refine tK 71 19 hHeld ?_
  refine wpAnyH_done (by kernel_rfl) ?_ _
  go_wp2_with fail
  go_ret
  exact ⟨rfl, HW.out⟩
set_option maxRecDepth 100000 in
set_option maxHeartbeats 1600000 in
theorem cosame_1y {a b : S47} {p q : Addr} {w : World} (ha : Aside0 (AtC w p a)) (hb : Aside0 (AtC w q b)) (hkk0 : Aside0 (a.f0 = b.f0)) (hst0 : Aside0 (sameB a.f1 b.f1 = true)) (hk : Aside0 (a.f0 = 1)) (hsu0 : Aside0 (sameB a.f2 b.f2 = true)) (hla0 : Aside0 (a.f3 = b.f3)) (hne0 : Aside0 (a.f4 ≠ b.f4))  : Calls Try.prog 29 #[.pointer (some p), .pointer (some q)] w (SaysB false w) := by
  obtain ⟨A2, c2, A4, c4, A7, c7, hP, hT, hU, -, hC⟩ := ha.out
  have HP := Aside0.mk hP
  have HTa := Aside0.mk hT
  have HUa := Aside0.mk hU
  have HCa := Aside0.mk hC
  have hL : a.f5.length ≤ 9223372036854775807 := hC.2.1
  clear hP hT hU hC
  obtain ⟨A2', c2', A4', c4', A7', c7', hP, hT, hU, -, hC⟩ := hb.out
  have HQ := Aside0.mk hP
  have HTb := Aside0.mk hT
  have HUb := Aside0.mk hU
  have HCb := Aside0.mk hC
  clear hP hT hU hC
  have HW := Aside0.mk (Below.refl w.heap.size w)
  have hkk : (a.f0 != b.f0) = false := bne_eq_false_iff_eq.mpr hkk0.out
  have hlf : leafB a.f0 = true := by rw [hk.out]; rfl
  have hst := hst0.out
  have gk1 : (a.f0 == 1) = true := by rw [hk.out]; rfl
  have hsu := hsu0.out
  have hla : (a.f3 != b.f3) = false := bne_eq_false_iff_eq.mpr hla0.out
  have hne : (a.f4 != b.f4) = true := bne_iff_ne.mpr hne0.out
  have hnb : (!(a.f4 == b.f4)) = true := hne
  go_enter Try.func29, Try.ntmps29
  go_wp2_with fail
  refine wp_region_held_drew (S := fun w' => w'.cell? p = some (.int .i8 a.f0) ∧ w'.cell? ⟨p.block, p.off + 1, none⟩ = some (.int .i8 a.f1.f0) ∧ w'.cell? ⟨p.block, p.off + 2, none⟩ = some (.slice A2 a.f1.f1.length c2) ∧ w'.cell? q = some (.int .i8 b.f0) ∧ w'.cell? ⟨q.block, q.off + 1, none⟩ = some (.int .i8 b.f1.f0) ∧ w'.cell? ⟨q.block, q.off + 2, none⟩ = some (.slice A2' b.f1.f1.length c2')) (by kernel_rfl) ⟨(HP.out.below HW.out (Nat.le_refl _)).1, (HP.out.below HW.out (Nat.le_refl _)).2.1, (HP.out.below HW.out (Nat.le_refl _)).2.2.1, (HQ.out.below HW.out (Nat.le_refl _)).1, (HQ.out.below HW.out (Nat.le_refl _)).2.1, (HQ.out.below HW.out (Nat.le_refl _)).2.2.1⟩ (fun hHeld => ?_)
  have hB := (Below.refl w.heap.size w).drew
  replace HW := Aside0.mk (below_then HW.out HW.out.size hB)
  clear hB
  generalize w.drew = w1 at *
  refine tK 6 0 hHeld ?_
  refine tK 7 1 hHeld ?_
  refine tK 8 2 hHeld ?_
  refine tK 9 3 hHeld ?_
  refine tK 10 4 hHeld ?_
  refine tK 11 5 hHeld ?_
  refine tK 12 6 hHeld ?_
  refine tK 13 7 hHeld ?_
  refine tK 14 8 hHeld ?_
  try rw [hkk]
  refine tK 15 9 hHeld ?_
  refine tK 16 10 hHeld ?_
  refine tK 17 11 hHeld ?_
  refine tK 18 12 hHeld ?_
  refine tK 19 13 hHeld ?_
  refine cK 20 14 (leaf_calls a.f0 _) ?_
  rintro e w2 ⟨rfl, hB⟩
  rw [hlf]
  replace HW := Aside0.mk (below_then HW.out HW.out.size hB)
  refine ⟨_, rfl, ⟨pwc hB hHeld.1, pwc hB hHeld.2.1, pwc hB hHeld.2.2.1, pwc hB hHeld.2.2.2.1, pwc hB hHeld.2.2.2.2.1, pwc hB hHeld.2.2.2.2.2⟩, fun hHeld => nA ?_⟩
  clear hB
  refine tK 21 15 hHeld ?_
  refine tK 22 16 hHeld ?_
  refine tK 23 17 hHeld ?_
  refine tK 24 18 hHeld ?_
  refine tK 25 19 hHeld ?_
  refine tK 26 20 hHeld ?_
  refine tK 27 21 hHeld ?_
  refine tK 28 22 hHeld ?_
  refine tK 29 23 hHeld ?_
  refine cK 30 24 (Same_calls (HTa.out.below HW.out) (HTb.out.below HW.out)) ?_
  rintro e w3 ⟨rfl, hB⟩
  rw [hst]
  replace HW := Aside0.mk (below_then HW.out HW.out.size hB)
  refine ⟨_, rfl, ⟨pwc hB hHeld.1, pwc hB hHeld.2.1, pwc hB hHeld.2.2.1, pwc hB hHeld.2.2.2.1, pwc hB hHeld.2.2.2.2.1, pwc hB hHeld.2.2.2.2.2⟩, fun hHeld => nA ?_⟩
  clear hB
  refine tK 31 25 hHeld ?_
  refine tK 32 26 hHeld ?_
  refine tK 33 27 hHeld ?_
  refine wpAnyH_done (by kernel_rfl) ?_ _
  obtain ⟨k0, k1, k2, k3, k4, k5, k6, k7⟩ := HP.out.below HW.out (Nat.le_refl _)
  obtain ⟨j0, j1, j2, j3, j4, j5, j6, j7⟩ := HQ.out.below HW.out (Nat.le_refl _)
  go_wp2_with fail
  clear k0 k1 k2 k3 k4 k5 k6 k7 j0 j1 j2 j3 j4 j5 j6 j7
  refine wp_region_held_drew (S := fun w' => w'.cell? ⟨p.block, p.off + 3, none⟩ = some (.int .i8 a.f2.f0) ∧ w'.cell? ⟨p.block, p.off + 4, none⟩ = some (.slice A4 a.f2.f1.length c4) ∧ w'.cell? ⟨q.block, q.off + 3, none⟩ = some (.int .i8 b.f2.f0) ∧ w'.cell? ⟨q.block, q.off + 4, none⟩ = some (.slice A4' b.f2.f1.length c4')) (by kernel_rfl) ⟨(HP.out.below HW.out (Nat.le_refl _)).2.2.2.1, (HP.out.below HW.out (Nat.le_refl _)).2.2.2.2.1, (HQ.out.below HW.out (Nat.le_refl _)).2.2.2.1, (HQ.out.below HW.out (Nat.le_refl _)).2.2.2.2.1⟩ (fun hHeld => ?_)
  have hB := (Below.refl w3.heap.size w3).drew
  replace HW := Aside0.mk (below_then HW.out HW.out.size hB)
  clear hB
  generalize w3.drew = w4 at *
  refine tK 42 0 hHeld ?_
  refine tK 43 1 hHeld ?_
  refine tK 44 2 hHeld ?_
  refine tK 45 3 hHeld ?_
  refine tK 46 4 hHeld ?_
  refine tK 47 5 hHeld ?_
  refine tK 48 6 hHeld ?_
  refine tK 49 7 hHeld ?_
  refine cK 50 8 (Same_calls (HUa.out.below HW.out) (HUb.out.below HW.out)) ?_
  rintro e w5 ⟨rfl, hB⟩
  rw [hsu]
  replace HW := Aside0.mk (below_then HW.out HW.out.size hB)
  refine ⟨_, rfl, ⟨pwc hB hHeld.1, pwc hB hHeld.2.1, pwc hB hHeld.2.2.1, pwc hB hHeld.2.2.2⟩, fun hHeld => nA ?_⟩
  clear hB
  refine tK 51 9 hHeld ?_
  refine wpAnyH_done (by kernel_rfl) ?_ _
  obtain ⟨k0, k1, k2, k3, k4, k5, k6, k7⟩ := HP.out.below HW.out (Nat.le_refl _)
  obtain ⟨j0, j1, j2, j3, j4, j5, j6, j7⟩ := HQ.out.below HW.out (Nat.le_refl _)
  go_wp2_with fail
  clear k0 k1 k2 k3 k4 k5 k6 k7 j0 j1 j2 j3 j4 j5 j6 j7
  refine wp_region_held_drew (S := fun w' => w'.cell? ⟨p.block, p.off + 5, none⟩ = some (.int .i64 a.f3) ∧ w'.cell? ⟨p.block, p.off + 6, none⟩ = some (.bool a.f4) ∧ w'.cell? ⟨q.block, q.off + 5, none⟩ = some (.int .i64 b.f3) ∧ w'.cell? ⟨q.block, q.off + 6, none⟩ = some (.bool b.f4)) (by kernel_rfl) ⟨(HP.out.below HW.out (Nat.le_refl _)).2.2.2.2.2.1, (HP.out.below HW.out (Nat.le_refl _)).2.2.2.2.2.2.1, (HQ.out.below HW.out (Nat.le_refl _)).2.2.2.2.2.1, (HQ.out.below HW.out (Nat.le_refl _)).2.2.2.2.2.2.1⟩ (fun hHeld => ?_)
  have hB := (Below.refl w5.heap.size w5).drew
  replace HW := Aside0.mk (below_then HW.out HW.out.size hB)
  clear hB
  generalize w5.drew = w6 at *
  refine tK 52 0 hHeld ?_
  refine tK 53 1 hHeld ?_
  refine tK 54 2 hHeld ?_
  refine tK 55 3 hHeld ?_
  refine tK 56 4 hHeld ?_
  refine tK 57 5 hHeld ?_
  refine tK 58 6 hHeld ?_
  refine tK 59 7 hHeld ?_
  refine tK 60 8 hHeld ?_
  try rw [hla]
  refine tK 61 9 hHeld ?_
  refine tK 62 10 hHeld ?_
  refine tK 63 11 hHeld ?_
  refine tK 64 12 hHeld ?_
  refine tK 65 13 hHeld ?_
  refine tK 66 14 hHeld ?_
  refine tK 67 15 hHeld ?_
  refine tK 68 16 hHeld ?_
  refine tK 69 17 hHeld ?_
  refine tK 70 18 hHeld ?_
  first | rw [hnb] | rw [hne] | skip
  refine tK 71 19 hHeld ?_
  refine wpAnyH_done (by kernel_rfl) ?_ _
  go_wp2_with fail
  go_ret
  exact ⟨rfl, HW.out⟩
set_option maxRecDepth 100000 in
set_option maxHeartbeats 1600000 in
theorem cosame_1z {a b : S47} {p q : Addr} {w : World} (ha : Aside0 (AtC w p a)) (hb : Aside0 (AtC w q b)) (hkk0 : Aside0 (a.f0 = b.f0)) (hst0 : Aside0 (sameB a.f1 b.f1 = true)) (hk : Aside0 (a.f0 = 1)) (hsu0 : Aside0 (sameB a.f2 b.f2 = true)) (hla0 : Aside0 (a.f3 = b.f3)) (hne0 : Aside0 (a.f4 = b.f4)) (hz : Aside0 (a.f5.length = 0)) : Calls Try.prog 29 #[.pointer (some p), .pointer (some q)] w (SaysB true w) := by
  obtain ⟨A2, c2, A4, c4, A7, c7, hP, hT, hU, -, hC⟩ := ha.out
  have HP := Aside0.mk hP
  have HTa := Aside0.mk hT
  have HUa := Aside0.mk hU
  have HCa := Aside0.mk hC
  have hL : a.f5.length ≤ 9223372036854775807 := hC.2.1
  clear hP hT hU hC
  obtain ⟨A2', c2', A4', c4', A7', c7', hP, hT, hU, -, hC⟩ := hb.out
  have HQ := Aside0.mk hP
  have HTb := Aside0.mk hT
  have HUb := Aside0.mk hU
  have HCb := Aside0.mk hC
  clear hP hT hU hC
  have HW := Aside0.mk (Below.refl w.heap.size w)
  have hkk : (a.f0 != b.f0) = false := bne_eq_false_iff_eq.mpr hkk0.out
  have hlf : leafB a.f0 = true := by rw [hk.out]; rfl
  have hst := hst0.out
  have gk1 : (a.f0 == 1) = true := by rw [hk.out]; rfl
  have hsu := hsu0.out
  have hla : (a.f3 != b.f3) = false := bne_eq_false_iff_eq.mpr hla0.out
  have hne : (a.f4 != b.f4) = false := bne_eq_false_iff_eq.mpr hne0.out
  have hnb : (!(a.f4 == b.f4)) = false := hne
  go_enter Try.func29, Try.ntmps29
  go_wp2_with fail
  refine wp_region_held_drew (S := fun w' => w'.cell? p = some (.int .i8 a.f0) ∧ w'.cell? ⟨p.block, p.off + 1, none⟩ = some (.int .i8 a.f1.f0) ∧ w'.cell? ⟨p.block, p.off + 2, none⟩ = some (.slice A2 a.f1.f1.length c2) ∧ w'.cell? q = some (.int .i8 b.f0) ∧ w'.cell? ⟨q.block, q.off + 1, none⟩ = some (.int .i8 b.f1.f0) ∧ w'.cell? ⟨q.block, q.off + 2, none⟩ = some (.slice A2' b.f1.f1.length c2')) (by kernel_rfl) ⟨(HP.out.below HW.out (Nat.le_refl _)).1, (HP.out.below HW.out (Nat.le_refl _)).2.1, (HP.out.below HW.out (Nat.le_refl _)).2.2.1, (HQ.out.below HW.out (Nat.le_refl _)).1, (HQ.out.below HW.out (Nat.le_refl _)).2.1, (HQ.out.below HW.out (Nat.le_refl _)).2.2.1⟩ (fun hHeld => ?_)
  have hB := (Below.refl w.heap.size w).drew
  replace HW := Aside0.mk (below_then HW.out HW.out.size hB)
  clear hB
  generalize w.drew = w1 at *
  refine tK 6 0 hHeld ?_
  refine tK 7 1 hHeld ?_
  refine tK 8 2 hHeld ?_
  refine tK 9 3 hHeld ?_
  refine tK 10 4 hHeld ?_
  refine tK 11 5 hHeld ?_
  refine tK 12 6 hHeld ?_
  refine tK 13 7 hHeld ?_
  refine tK 14 8 hHeld ?_
  try rw [hkk]
  refine tK 15 9 hHeld ?_
  refine tK 16 10 hHeld ?_
  refine tK 17 11 hHeld ?_
  refine tK 18 12 hHeld ?_
  refine tK 19 13 hHeld ?_
  refine cK 20 14 (leaf_calls a.f0 _) ?_
  rintro e w2 ⟨rfl, hB⟩
  rw [hlf]
  replace HW := Aside0.mk (below_then HW.out HW.out.size hB)
  refine ⟨_, rfl, ⟨pwc hB hHeld.1, pwc hB hHeld.2.1, pwc hB hHeld.2.2.1, pwc hB hHeld.2.2.2.1, pwc hB hHeld.2.2.2.2.1, pwc hB hHeld.2.2.2.2.2⟩, fun hHeld => nA ?_⟩
  clear hB
  refine tK 21 15 hHeld ?_
  refine tK 22 16 hHeld ?_
  refine tK 23 17 hHeld ?_
  refine tK 24 18 hHeld ?_
  refine tK 25 19 hHeld ?_
  refine tK 26 20 hHeld ?_
  refine tK 27 21 hHeld ?_
  refine tK 28 22 hHeld ?_
  refine tK 29 23 hHeld ?_
  refine cK 30 24 (Same_calls (HTa.out.below HW.out) (HTb.out.below HW.out)) ?_
  rintro e w3 ⟨rfl, hB⟩
  rw [hst]
  replace HW := Aside0.mk (below_then HW.out HW.out.size hB)
  refine ⟨_, rfl, ⟨pwc hB hHeld.1, pwc hB hHeld.2.1, pwc hB hHeld.2.2.1, pwc hB hHeld.2.2.2.1, pwc hB hHeld.2.2.2.2.1, pwc hB hHeld.2.2.2.2.2⟩, fun hHeld => nA ?_⟩
  clear hB
  refine tK 31 25 hHeld ?_
  refine tK 32 26 hHeld ?_
  refine tK 33 27 hHeld ?_
  refine wpAnyH_done (by kernel_rfl) ?_ _
  obtain ⟨k0, k1, k2, k3, k4, k5, k6, k7⟩ := HP.out.below HW.out (Nat.le_refl _)
  obtain ⟨j0, j1, j2, j3, j4, j5, j6, j7⟩ := HQ.out.below HW.out (Nat.le_refl _)
  go_wp2_with fail
  clear k0 k1 k2 k3 k4 k5 k6 k7 j0 j1 j2 j3 j4 j5 j6 j7
  refine wp_region_held_drew (S := fun w' => w'.cell? ⟨p.block, p.off + 3, none⟩ = some (.int .i8 a.f2.f0) ∧ w'.cell? ⟨p.block, p.off + 4, none⟩ = some (.slice A4 a.f2.f1.length c4) ∧ w'.cell? ⟨q.block, q.off + 3, none⟩ = some (.int .i8 b.f2.f0) ∧ w'.cell? ⟨q.block, q.off + 4, none⟩ = some (.slice A4' b.f2.f1.length c4')) (by kernel_rfl) ⟨(HP.out.below HW.out (Nat.le_refl _)).2.2.2.1, (HP.out.below HW.out (Nat.le_refl _)).2.2.2.2.1, (HQ.out.below HW.out (Nat.le_refl _)).2.2.2.1, (HQ.out.below HW.out (Nat.le_refl _)).2.2.2.2.1⟩ (fun hHeld => ?_)
  have hB := (Below.refl w3.heap.size w3).drew
  replace HW := Aside0.mk (below_then HW.out HW.out.size hB)
  clear hB
  generalize w3.drew = w4 at *
  refine tK 42 0 hHeld ?_
  refine tK 43 1 hHeld ?_
  refine tK 44 2 hHeld ?_
  refine tK 45 3 hHeld ?_
  refine tK 46 4 hHeld ?_
  refine tK 47 5 hHeld ?_
  refine tK 48 6 hHeld ?_
  refine tK 49 7 hHeld ?_
  refine cK 50 8 (Same_calls (HUa.out.below HW.out) (HUb.out.below HW.out)) ?_
  rintro e w5 ⟨rfl, hB⟩
  rw [hsu]
  replace HW := Aside0.mk (below_then HW.out HW.out.size hB)
  refine ⟨_, rfl, ⟨pwc hB hHeld.1, pwc hB hHeld.2.1, pwc hB hHeld.2.2.1, pwc hB hHeld.2.2.2⟩, fun hHeld => nA ?_⟩
  clear hB
  refine tK 51 9 hHeld ?_
  refine wpAnyH_done (by kernel_rfl) ?_ _
  obtain ⟨k0, k1, k2, k3, k4, k5, k6, k7⟩ := HP.out.below HW.out (Nat.le_refl _)
  obtain ⟨j0, j1, j2, j3, j4, j5, j6, j7⟩ := HQ.out.below HW.out (Nat.le_refl _)
  go_wp2_with fail
  clear k0 k1 k2 k3 k4 k5 k6 k7 j0 j1 j2 j3 j4 j5 j6 j7
  refine wp_region_held_drew (S := fun w' => w'.cell? ⟨p.block, p.off + 5, none⟩ = some (.int .i64 a.f3) ∧ w'.cell? ⟨p.block, p.off + 6, none⟩ = some (.bool a.f4) ∧ w'.cell? ⟨q.block, q.off + 5, none⟩ = some (.int .i64 b.f3) ∧ w'.cell? ⟨q.block, q.off + 6, none⟩ = some (.bool b.f4)) (by kernel_rfl) ⟨(HP.out.below HW.out (Nat.le_refl _)).2.2.2.2.2.1, (HP.out.below HW.out (Nat.le_refl _)).2.2.2.2.2.2.1, (HQ.out.below HW.out (Nat.le_refl _)).2.2.2.2.2.1, (HQ.out.below HW.out (Nat.le_refl _)).2.2.2.2.2.2.1⟩ (fun hHeld => ?_)
  have hB := (Below.refl w5.heap.size w5).drew
  replace HW := Aside0.mk (below_then HW.out HW.out.size hB)
  clear hB
  generalize w5.drew = w6 at *
  refine tK 52 0 hHeld ?_
  refine tK 53 1 hHeld ?_
  refine tK 54 2 hHeld ?_
  refine tK 55 3 hHeld ?_
  refine tK 56 4 hHeld ?_
  refine tK 57 5 hHeld ?_
  refine tK 58 6 hHeld ?_
  refine tK 59 7 hHeld ?_
  refine tK 60 8 hHeld ?_
  try rw [hla]
  refine tK 61 9 hHeld ?_
  refine tK 62 10 hHeld ?_
  refine tK 63 11 hHeld ?_
  refine tK 64 12 hHeld ?_
  refine tK 65 13 hHeld ?_
  refine tK 66 14 hHeld ?_
  refine tK 67 15 hHeld ?_
  refine tK 68 16 hHeld ?_
  refine tK 69 17 hHeld ?_
  refine tK 70 18 hHeld ?_
  first | rw [hnb] | rw [hne] | skip
  refine tK 71 19 hHeld ?_
  refine wpAnyH_done (by kernel_rfl) ?_ _
  obtain ⟨k0, k1, k2, k3, k4, k5, k6, k7⟩ := HP.out.below HW.out (Nat.le_refl _)
  obtain ⟨j0, j1, j2, j3, j4, j5, j6, j7⟩ := HQ.out.below HW.out (Nat.le_refl _)
  rw [hz.out] at k7
  go_wp2_with fail
  clear k0 k1 k2 k3 k4 k5 k6 k7 j0 j1 j2 j3 j4 j5 j6 j7
  go_loopw [77] (fun i wr => i = .int .i64 0 ∧ Below w.heap.size w wr) (fun _ _ => 0)
  case atStart => exact ⟨rfl, HW.out⟩
  case round =>
    obtain ⟨rfl, hW⟩ := hrel
    have HW2 := Aside0.mk hW
    clear hW
    go_wp2_with fail
    go_ret
    exact ⟨rfl, HW2.out⟩
set_option maxRecDepth 100000 in
set_option maxHeartbeats 1600000 in
theorem cosame_3x {a b : S47} {p q : Addr} {w : World} (ha : Aside0 (AtC w p a)) (hb : Aside0 (AtC w q b)) (hkk0 : Aside0 (a.f0 = b.f0)) (hst0 : Aside0 (sameB a.f1 b.f1 = true)) (hk : Aside0 (a.f0 = 3)) (hla0 : Aside0 (a.f3 ≠ b.f3))  : Calls Try.prog 29 #[.pointer (some p), .pointer (some q)] w (SaysB false w) := by
  obtain ⟨A2, c2, A4, c4, A7, c7, hP, hT, hU, -, hC⟩ := ha.out
  have HP := Aside0.mk hP
  have HTa := Aside0.mk hT
  have HUa := Aside0.mk hU
  have HCa := Aside0.mk hC
  have hL : a.f5.length ≤ 9223372036854775807 := hC.2.1
  clear hP hT hU hC
  obtain ⟨A2', c2', A4', c4', A7', c7', hP, hT, hU, -, hC⟩ := hb.out
  have HQ := Aside0.mk hP
  have HTb := Aside0.mk hT
  have HUb := Aside0.mk hU
  have HCb := Aside0.mk hC
  clear hP hT hU hC
  have HW := Aside0.mk (Below.refl w.heap.size w)
  have hkk : (a.f0 != b.f0) = false := bne_eq_false_iff_eq.mpr hkk0.out
  have hlf : leafB a.f0 = true := by rw [hk.out]; rfl
  have hst := hst0.out
  have gk1 : (a.f0 == 1) = false := by rw [hk.out]; rfl
  have gk3 : (a.f0 == 3) = true := by rw [hk.out]; rfl
  have hla : (a.f3 != b.f3) = true := bne_iff_ne.mpr hla0.out
  go_enter Try.func29, Try.ntmps29
  go_wp2_with fail
  refine wp_region_held_drew (S := fun w' => w'.cell? p = some (.int .i8 a.f0) ∧ w'.cell? ⟨p.block, p.off + 1, none⟩ = some (.int .i8 a.f1.f0) ∧ w'.cell? ⟨p.block, p.off + 2, none⟩ = some (.slice A2 a.f1.f1.length c2) ∧ w'.cell? q = some (.int .i8 b.f0) ∧ w'.cell? ⟨q.block, q.off + 1, none⟩ = some (.int .i8 b.f1.f0) ∧ w'.cell? ⟨q.block, q.off + 2, none⟩ = some (.slice A2' b.f1.f1.length c2')) (by kernel_rfl) ⟨(HP.out.below HW.out (Nat.le_refl _)).1, (HP.out.below HW.out (Nat.le_refl _)).2.1, (HP.out.below HW.out (Nat.le_refl _)).2.2.1, (HQ.out.below HW.out (Nat.le_refl _)).1, (HQ.out.below HW.out (Nat.le_refl _)).2.1, (HQ.out.below HW.out (Nat.le_refl _)).2.2.1⟩ (fun hHeld => ?_)
  have hB := (Below.refl w.heap.size w).drew
  replace HW := Aside0.mk (below_then HW.out HW.out.size hB)
  clear hB
  generalize w.drew = w1 at *
  refine tK 6 0 hHeld ?_
  refine tK 7 1 hHeld ?_
  refine tK 8 2 hHeld ?_
  refine tK 9 3 hHeld ?_
  refine tK 10 4 hHeld ?_
  refine tK 11 5 hHeld ?_
  refine tK 12 6 hHeld ?_
  refine tK 13 7 hHeld ?_
  refine tK 14 8 hHeld ?_
  try rw [hkk]
  refine tK 15 9 hHeld ?_
  refine tK 16 10 hHeld ?_
  refine tK 17 11 hHeld ?_
  refine tK 18 12 hHeld ?_
  refine tK 19 13 hHeld ?_
  refine cK 20 14 (leaf_calls a.f0 _) ?_
  rintro e w2 ⟨rfl, hB⟩
  rw [hlf]
  replace HW := Aside0.mk (below_then HW.out HW.out.size hB)
  refine ⟨_, rfl, ⟨pwc hB hHeld.1, pwc hB hHeld.2.1, pwc hB hHeld.2.2.1, pwc hB hHeld.2.2.2.1, pwc hB hHeld.2.2.2.2.1, pwc hB hHeld.2.2.2.2.2⟩, fun hHeld => nA ?_⟩
  clear hB
  refine tK 21 15 hHeld ?_
  refine tK 22 16 hHeld ?_
  refine tK 23 17 hHeld ?_
  refine tK 24 18 hHeld ?_
  refine tK 25 19 hHeld ?_
  refine tK 26 20 hHeld ?_
  refine tK 27 21 hHeld ?_
  refine tK 28 22 hHeld ?_
  refine tK 29 23 hHeld ?_
  refine cK 30 24 (Same_calls (HTa.out.below HW.out) (HTb.out.below HW.out)) ?_
  rintro e w3 ⟨rfl, hB⟩
  rw [hst]
  replace HW := Aside0.mk (below_then HW.out HW.out.size hB)
  refine ⟨_, rfl, ⟨pwc hB hHeld.1, pwc hB hHeld.2.1, pwc hB hHeld.2.2.1, pwc hB hHeld.2.2.2.1, pwc hB hHeld.2.2.2.2.1, pwc hB hHeld.2.2.2.2.2⟩, fun hHeld => nA ?_⟩
  clear hB
  refine tK 31 25 hHeld ?_
  refine tK 32 26 hHeld ?_
  refine tK 33 27 hHeld ?_
  refine wpAnyH_done (by kernel_rfl) ?_ _
  obtain ⟨k0, k1, k2, k3, k4, k5, k6, k7⟩ := HP.out.below HW.out (Nat.le_refl _)
  obtain ⟨j0, j1, j2, j3, j4, j5, j6, j7⟩ := HQ.out.below HW.out (Nat.le_refl _)
  go_wp2_with fail
  clear k0 k1 k2 k3 k4 k5 k6 k7 j0 j1 j2 j3 j4 j5 j6 j7
  refine wp_region_held_drew (S := fun w' => w'.cell? ⟨p.block, p.off + 5, none⟩ = some (.int .i64 a.f3) ∧ w'.cell? ⟨p.block, p.off + 6, none⟩ = some (.bool a.f4) ∧ w'.cell? ⟨q.block, q.off + 5, none⟩ = some (.int .i64 b.f3) ∧ w'.cell? ⟨q.block, q.off + 6, none⟩ = some (.bool b.f4)) (by kernel_rfl) ⟨(HP.out.below HW.out (Nat.le_refl _)).2.2.2.2.2.1, (HP.out.below HW.out (Nat.le_refl _)).2.2.2.2.2.2.1, (HQ.out.below HW.out (Nat.le_refl _)).2.2.2.2.2.1, (HQ.out.below HW.out (Nat.le_refl _)).2.2.2.2.2.2.1⟩ (fun hHeld => ?_)
  have hB := (Below.refl w3.heap.size w3).drew
  replace HW := Aside0.mk (below_then HW.out HW.out.size hB)
  clear hB
  generalize w3.drew = w4 at *
  refine tK 52 0 hHeld ?_
  refine tK 53 1 hHeld ?_
  refine tK 54 2 hHeld ?_
  refine tK 55 3 hHeld ?_
  refine tK 56 4 hHeld ?_
  refine tK 57 5 hHeld ?_
  refine tK 58 6 hHeld ?_
  refine tK 59 7 hHeld ?_
  refine tK 60 8 hHeld ?_
  try rw [hla]
  refine tK 61 9 hHeld ?_
  refine pK 62 10 hHeld ?_
  refine pK 63 11 hHeld ?_
  refine pK 64 12 hHeld ?_
  refine pK 65 13 hHeld ?_
  refine pK 66 14 hHeld ?_
  refine pK 67 15 hHeld ?_
  refine pK 68 16 hHeld ?_
  refine pK 69 17 hHeld ?_
  refine pK 70 18 hHeld ?_
  refine tK 71 19 hHeld ?_
  refine wpAnyH_done (by kernel_rfl) ?_ _
  go_wp2_with fail
  go_ret
  exact ⟨rfl, HW.out⟩
set_option maxRecDepth 100000 in
set_option maxHeartbeats 1600000 in
theorem cosame_3y {a b : S47} {p q : Addr} {w : World} (ha : Aside0 (AtC w p a)) (hb : Aside0 (AtC w q b)) (hkk0 : Aside0 (a.f0 = b.f0)) (hst0 : Aside0 (sameB a.f1 b.f1 = true)) (hk : Aside0 (a.f0 = 3)) (hla0 : Aside0 (a.f3 = b.f3)) (hne0 : Aside0 (a.f4 ≠ b.f4))  : Calls Try.prog 29 #[.pointer (some p), .pointer (some q)] w (SaysB false w) := by
  obtain ⟨A2, c2, A4, c4, A7, c7, hP, hT, hU, -, hC⟩ := ha.out
  have HP := Aside0.mk hP
  have HTa := Aside0.mk hT
  have HUa := Aside0.mk hU
  have HCa := Aside0.mk hC
  have hL : a.f5.length ≤ 9223372036854775807 := hC.2.1
  clear hP hT hU hC
  obtain ⟨A2', c2', A4', c4', A7', c7', hP, hT, hU, -, hC⟩ := hb.out
  have HQ := Aside0.mk hP
  have HTb := Aside0.mk hT
  have HUb := Aside0.mk hU
  have HCb := Aside0.mk hC
  clear hP hT hU hC
  have HW := Aside0.mk (Below.refl w.heap.size w)
  have hkk : (a.f0 != b.f0) = false := bne_eq_false_iff_eq.mpr hkk0.out
  have hlf : leafB a.f0 = true := by rw [hk.out]; rfl
  have hst := hst0.out
  have gk1 : (a.f0 == 1) = false := by rw [hk.out]; rfl
  have gk3 : (a.f0 == 3) = true := by rw [hk.out]; rfl
  have hla : (a.f3 != b.f3) = false := bne_eq_false_iff_eq.mpr hla0.out
  have hne : (a.f4 != b.f4) = true := bne_iff_ne.mpr hne0.out
  have hnb : (!(a.f4 == b.f4)) = true := hne
  go_enter Try.func29, Try.ntmps29
  go_wp2_with fail
  refine wp_region_held_drew (S := fun w' => w'.cell? p = some (.int .i8 a.f0) ∧ w'.cell? ⟨p.block, p.off + 1, none⟩ = some (.int .i8 a.f1.f0) ∧ w'.cell? ⟨p.block, p.off + 2, none⟩ = some (.slice A2 a.f1.f1.length c2) ∧ w'.cell? q = some (.int .i8 b.f0) ∧ w'.cell? ⟨q.block, q.off + 1, none⟩ = some (.int .i8 b.f1.f0) ∧ w'.cell? ⟨q.block, q.off + 2, none⟩ = some (.slice A2' b.f1.f1.length c2')) (by kernel_rfl) ⟨(HP.out.below HW.out (Nat.le_refl _)).1, (HP.out.below HW.out (Nat.le_refl _)).2.1, (HP.out.below HW.out (Nat.le_refl _)).2.2.1, (HQ.out.below HW.out (Nat.le_refl _)).1, (HQ.out.below HW.out (Nat.le_refl _)).2.1, (HQ.out.below HW.out (Nat.le_refl _)).2.2.1⟩ (fun hHeld => ?_)
  have hB := (Below.refl w.heap.size w).drew
  replace HW := Aside0.mk (below_then HW.out HW.out.size hB)
  clear hB
  generalize w.drew = w1 at *
  refine tK 6 0 hHeld ?_
  refine tK 7 1 hHeld ?_
  refine tK 8 2 hHeld ?_
  refine tK 9 3 hHeld ?_
  refine tK 10 4 hHeld ?_
  refine tK 11 5 hHeld ?_
  refine tK 12 6 hHeld ?_
  refine tK 13 7 hHeld ?_
  refine tK 14 8 hHeld ?_
  try rw [hkk]
  refine tK 15 9 hHeld ?_
  refine tK 16 10 hHeld ?_
  refine tK 17 11 hHeld ?_
  refine tK 18 12 hHeld ?_
  refine tK 19 13 hHeld ?_
  refine cK 20 14 (leaf_calls a.f0 _) ?_
  rintro e w2 ⟨rfl, hB⟩
  rw [hlf]
  replace HW := Aside0.mk (below_then HW.out HW.out.size hB)
  refine ⟨_, rfl, ⟨pwc hB hHeld.1, pwc hB hHeld.2.1, pwc hB hHeld.2.2.1, pwc hB hHeld.2.2.2.1, pwc hB hHeld.2.2.2.2.1, pwc hB hHeld.2.2.2.2.2⟩, fun hHeld => nA ?_⟩
  clear hB
  refine tK 21 15 hHeld ?_
  refine tK 22 16 hHeld ?_
  refine tK 23 17 hHeld ?_
  refine tK 24 18 hHeld ?_
  refine tK 25 19 hHeld ?_
  refine tK 26 20 hHeld ?_
  refine tK 27 21 hHeld ?_
  refine tK 28 22 hHeld ?_
  refine tK 29 23 hHeld ?_
  refine cK 30 24 (Same_calls (HTa.out.below HW.out) (HTb.out.below HW.out)) ?_
  rintro e w3 ⟨rfl, hB⟩
  rw [hst]
  replace HW := Aside0.mk (below_then HW.out HW.out.size hB)
  refine ⟨_, rfl, ⟨pwc hB hHeld.1, pwc hB hHeld.2.1, pwc hB hHeld.2.2.1, pwc hB hHeld.2.2.2.1, pwc hB hHeld.2.2.2.2.1, pwc hB hHeld.2.2.2.2.2⟩, fun hHeld => nA ?_⟩
  clear hB
  refine tK 31 25 hHeld ?_
  refine tK 32 26 hHeld ?_
  refine tK 33 27 hHeld ?_
  refine wpAnyH_done (by kernel_rfl) ?_ _
  obtain ⟨k0, k1, k2, k3, k4, k5, k6, k7⟩ := HP.out.below HW.out (Nat.le_refl _)
  obtain ⟨j0, j1, j2, j3, j4, j5, j6, j7⟩ := HQ.out.below HW.out (Nat.le_refl _)
  go_wp2_with fail
  clear k0 k1 k2 k3 k4 k5 k6 k7 j0 j1 j2 j3 j4 j5 j6 j7
  refine wp_region_held_drew (S := fun w' => w'.cell? ⟨p.block, p.off + 5, none⟩ = some (.int .i64 a.f3) ∧ w'.cell? ⟨p.block, p.off + 6, none⟩ = some (.bool a.f4) ∧ w'.cell? ⟨q.block, q.off + 5, none⟩ = some (.int .i64 b.f3) ∧ w'.cell? ⟨q.block, q.off + 6, none⟩ = some (.bool b.f4)) (by kernel_rfl) ⟨(HP.out.below HW.out (Nat.le_refl _)).2.2.2.2.2.1, (HP.out.below HW.out (Nat.le_refl _)).2.2.2.2.2.2.1, (HQ.out.below HW.out (Nat.le_refl _)).2.2.2.2.2.1, (HQ.out.below HW.out (Nat.le_refl _)).2.2.2.2.2.2.1⟩ (fun hHeld => ?_)
  have hB := (Below.refl w3.heap.size w3).drew
  replace HW := Aside0.mk (below_then HW.out HW.out.size hB)
  clear hB
  generalize w3.drew = w4 at *
  refine tK 52 0 hHeld ?_
  refine tK 53 1 hHeld ?_
  refine tK 54 2 hHeld ?_
  refine tK 55 3 hHeld ?_
  refine tK 56 4 hHeld ?_
  refine tK 57 5 hHeld ?_
  refine tK 58 6 hHeld ?_
  refine tK 59 7 hHeld ?_
  refine tK 60 8 hHeld ?_
  try rw [hla]
  refine tK 61 9 hHeld ?_
  refine tK 62 10 hHeld ?_
  refine tK 63 11 hHeld ?_
  refine tK 64 12 hHeld ?_
  refine tK 65 13 hHeld ?_
  refine tK 66 14 hHeld ?_
  refine tK 67 15 hHeld ?_
  refine tK 68 16 hHeld ?_
  refine tK 69 17 hHeld ?_
  refine tK 70 18 hHeld ?_
  first | rw [hnb] | rw [hne] | skip
  refine tK 71 19 hHeld ?_
  refine wpAnyH_done (by kernel_rfl) ?_ _
  go_wp2_with fail
  go_ret
  exact ⟨rfl, HW.out⟩
set_option maxRecDepth 100000 in
set_option maxHeartbeats 1600000 in
theorem cosame_3z {a b : S47} {p q : Addr} {w : World} (ha : Aside0 (AtC w p a)) (hb : Aside0 (AtC w q b)) (hkk0 : Aside0 (a.f0 = b.f0)) (hst0 : Aside0 (sameB a.f1 b.f1 = true)) (hk : Aside0 (a.f0 = 3)) (hla0 : Aside0 (a.f3 = b.f3)) (hne0 : Aside0 (a.f4 = b.f4)) (hz : Aside0 (a.f5.length = 0)) : Calls Try.prog 29 #[.pointer (some p), .pointer (some q)] w (SaysB true w) := by
  obtain ⟨A2, c2, A4, c4, A7, c7, hP, hT, hU, -, hC⟩ := ha.out
  have HP := Aside0.mk hP
  have HTa := Aside0.mk hT
  have HUa := Aside0.mk hU
  have HCa := Aside0.mk hC
  have hL : a.f5.length ≤ 9223372036854775807 := hC.2.1
  clear hP hT hU hC
  obtain ⟨A2', c2', A4', c4', A7', c7', hP, hT, hU, -, hC⟩ := hb.out
  have HQ := Aside0.mk hP
  have HTb := Aside0.mk hT
  have HUb := Aside0.mk hU
  have HCb := Aside0.mk hC
  clear hP hT hU hC
  have HW := Aside0.mk (Below.refl w.heap.size w)
  have hkk : (a.f0 != b.f0) = false := bne_eq_false_iff_eq.mpr hkk0.out
  have hlf : leafB a.f0 = true := by rw [hk.out]; rfl
  have hst := hst0.out
  have gk1 : (a.f0 == 1) = false := by rw [hk.out]; rfl
  have gk3 : (a.f0 == 3) = true := by rw [hk.out]; rfl
  have hla : (a.f3 != b.f3) = false := bne_eq_false_iff_eq.mpr hla0.out
  have hne : (a.f4 != b.f4) = false := bne_eq_false_iff_eq.mpr hne0.out
  have hnb : (!(a.f4 == b.f4)) = false := hne
  go_enter Try.func29, Try.ntmps29
  go_wp2_with fail
  refine wp_region_held_drew (S := fun w' => w'.cell? p = some (.int .i8 a.f0) ∧ w'.cell? ⟨p.block, p.off + 1, none⟩ = some (.int .i8 a.f1.f0) ∧ w'.cell? ⟨p.block, p.off + 2, none⟩ = some (.slice A2 a.f1.f1.length c2) ∧ w'.cell? q = some (.int .i8 b.f0) ∧ w'.cell? ⟨q.block, q.off + 1, none⟩ = some (.int .i8 b.f1.f0) ∧ w'.cell? ⟨q.block, q.off + 2, none⟩ = some (.slice A2' b.f1.f1.length c2')) (by kernel_rfl) ⟨(HP.out.below HW.out (Nat.le_refl _)).1, (HP.out.below HW.out (Nat.le_refl _)).2.1, (HP.out.below HW.out (Nat.le_refl _)).2.2.1, (HQ.out.below HW.out (Nat.le_refl _)).1, (HQ.out.below HW.out (Nat.le_refl _)).2.1, (HQ.out.below HW.out (Nat.le_refl _)).2.2.1⟩ (fun hHeld => ?_)
  have hB := (Below.refl w.heap.size w).drew
  replace HW := Aside0.mk (below_then HW.out HW.out.size hB)
  clear hB
  generalize w.drew = w1 at *
  refine tK 6 0 hHeld ?_
  refine tK 7 1 hHeld ?_
  refine tK 8 2 hHeld ?_
  refine tK 9 3 hHeld ?_
  refine tK 10 4 hHeld ?_
  refine tK 11 5 hHeld ?_
  refine tK 12 6 hHeld ?_
  refine tK 13 7 hHeld ?_
  refine tK 14 8 hHeld ?_
  try rw [hkk]
  refine tK 15 9 hHeld ?_
  refine tK 16 10 hHeld ?_
  refine tK 17 11 hHeld ?_
  refine tK 18 12 hHeld ?_
  refine tK 19 13 hHeld ?_
  refine cK 20 14 (leaf_calls a.f0 _) ?_
  rintro e w2 ⟨rfl, hB⟩
  rw [hlf]
  replace HW := Aside0.mk (below_then HW.out HW.out.size hB)
  refine ⟨_, rfl, ⟨pwc hB hHeld.1, pwc hB hHeld.2.1, pwc hB hHeld.2.2.1, pwc hB hHeld.2.2.2.1, pwc hB hHeld.2.2.2.2.1, pwc hB hHeld.2.2.2.2.2⟩, fun hHeld => nA ?_⟩
  clear hB
  refine tK 21 15 hHeld ?_
  refine tK 22 16 hHeld ?_
  refine tK 23 17 hHeld ?_
  refine tK 24 18 hHeld ?_
  refine tK 25 19 hHeld ?_
  refine tK 26 20 hHeld ?_
  refine tK 27 21 hHeld ?_
  refine tK 28 22 hHeld ?_
  refine tK 29 23 hHeld ?_
  refine cK 30 24 (Same_calls (HTa.out.below HW.out) (HTb.out.below HW.out)) ?_
  rintro e w3 ⟨rfl, hB⟩
  rw [hst]
  replace HW := Aside0.mk (below_then HW.out HW.out.size hB)
  refine ⟨_, rfl, ⟨pwc hB hHeld.1, pwc hB hHeld.2.1, pwc hB hHeld.2.2.1, pwc hB hHeld.2.2.2.1, pwc hB hHeld.2.2.2.2.1, pwc hB hHeld.2.2.2.2.2⟩, fun hHeld => nA ?_⟩
  clear hB
  refine tK 31 25 hHeld ?_
  refine tK 32 26 hHeld ?_
  refine tK 33 27 hHeld ?_
  refine wpAnyH_done (by kernel_rfl) ?_ _
  obtain ⟨k0, k1, k2, k3, k4, k5, k6, k7⟩ := HP.out.below HW.out (Nat.le_refl _)
  obtain ⟨j0, j1, j2, j3, j4, j5, j6, j7⟩ := HQ.out.below HW.out (Nat.le_refl _)
  go_wp2_with fail
  clear k0 k1 k2 k3 k4 k5 k6 k7 j0 j1 j2 j3 j4 j5 j6 j7
  refine wp_region_held_drew (S := fun w' => w'.cell? ⟨p.block, p.off + 5, none⟩ = some (.int .i64 a.f3) ∧ w'.cell? ⟨p.block, p.off + 6, none⟩ = some (.bool a.f4) ∧ w'.cell? ⟨q.block, q.off + 5, none⟩ = some (.int .i64 b.f3) ∧ w'.cell? ⟨q.block, q.off + 6, none⟩ = some (.bool b.f4)) (by kernel_rfl) ⟨(HP.out.below HW.out (Nat.le_refl _)).2.2.2.2.2.1, (HP.out.below HW.out (Nat.le_refl _)).2.2.2.2.2.2.1, (HQ.out.below HW.out (Nat.le_refl _)).2.2.2.2.2.1, (HQ.out.below HW.out (Nat.le_refl _)).2.2.2.2.2.2.1⟩ (fun hHeld => ?_)
  have hB := (Below.refl w3.heap.size w3).drew
  replace HW := Aside0.mk (below_then HW.out HW.out.size hB)
  clear hB
  generalize w3.drew = w4 at *
  refine tK 52 0 hHeld ?_
  refine tK 53 1 hHeld ?_
  refine tK 54 2 hHeld ?_
  refine tK 55 3 hHeld ?_
  refine tK 56 4 hHeld ?_
  refine tK 57 5 hHeld ?_
  refine tK 58 6 hHeld ?_
  refine tK 59 7 hHeld ?_
  refine tK 60 8 hHeld ?_
  try rw [hla]
  refine tK 61 9 hHeld ?_
  refine tK 62 10 hHeld ?_
  refine tK 63 11 hHeld ?_
  refine tK 64 12 hHeld ?_
  refine tK 65 13 hHeld ?_
  refine tK 66 14 hHeld ?_
  refine tK 67 15 hHeld ?_
  refine tK 68 16 hHeld ?_
  refine tK 69 17 hHeld ?_
  refine tK 70 18 hHeld ?_
  first | rw [hnb] | rw [hne] | skip
  refine tK 71 19 hHeld ?_
  refine wpAnyH_done (by kernel_rfl) ?_ _
  obtain ⟨k0, k1, k2, k3, k4, k5, k6, k7⟩ := HP.out.below HW.out (Nat.le_refl _)
  obtain ⟨j0, j1, j2, j3, j4, j5, j6, j7⟩ := HQ.out.below HW.out (Nat.le_refl _)
  rw [hz.out] at k7
  go_wp2_with fail
  clear k0 k1 k2 k3 k4 k5 k6 k7 j0 j1 j2 j3 j4 j5 j6 j7
  go_loopw [77] (fun i wr => i = .int .i64 0 ∧ Below w.heap.size w wr) (fun _ _ => 0)
  case atStart => exact ⟨rfl, HW.out⟩
  case round =>
    obtain ⟨rfl, hW⟩ := hrel
    have HW2 := Aside0.mk hW
    clear hW
    go_wp2_with fail
    go_ret
    exact ⟨rfl, HW2.out⟩
end Go.Proofs.Ytjmpejbciniceaa.X
namespace Go.Proofs.Ytjmpejbciniceaa.X
open Go.RowKit Go.Proofs.YtjmpejbciniceaaW.PrintWords Go.Proofs.YtjmpejbciniceaaW.PrintLast Go.Proofs.YtjmpejbciniceaaW.PrintMore
set_option linter.unusedVariables false
set_option linter.unusedSimpArgs false
theorem cosame_at (n : Nat) : ∀ (a b : S47) (p q : Addr) (w : World), cnodes a < n → (endsC a).isSome = true → (endsC b).isSome = true → AtC w p a → AtC w q b → Calls Try.prog 29 #[.pointer (some p), .pointer (some q)] w (SaysB (likeC a b) w) := by
  induction n with
  | zero => intro a b p q w h; omega
  | succ n ih =>
  intro a b p q w hn ha hb hp hq
  have IH : Aside0 (∀ (y z : S47) (p q : Addr) (w : World), cnodes y < cnodes a → (endsC y).isSome = true → (endsC z).isSome = true → AtC w p y → AtC w q z → Calls Try.prog 29 #[.pointer (some p), .pointer (some q)] w (SaysB (likeC y z) w)) := ⟨fun y z p q w h => ih y z p q w (by omega)⟩
  have e := likeC_eq a b
  by_cases hk : a.f0 = b.f0
  · obtain ⟨hl, hz, hs⟩ := kids_len ha hb hk
    have hd : decide (a.f0 = b.f0) = true := decide_eq_true hk
    rw [hd] at e
    cases hlf : leafB a.f0 with
    | false =>
      have n1 : a.f0 ≠ 1 := fun h => by rw [h] at hlf; simp [leafB] at hlf
      have n3 : a.f0 ≠ 3 := fun h => by rw [h] at hlf; simp [leafB] at hlf
      exact says_of (by rw [e, hlf]; simp [n1, n3]) (cosame_n ⟨hp⟩ ⟨hq⟩ ⟨hk⟩ ⟨hlf⟩ ⟨n1⟩ ⟨n3⟩ ⟨hl⟩ ⟨hs⟩ IH)
    | true =>
      have hz0 := hz hlf
      rw [likeCL_nil hz0] at e
      cases hst : sameB a.f1 b.f1 with
      | false => exact says_of (by rw [e, hlf, hst]; simp) (cosame_d ⟨hp⟩ ⟨hq⟩ ⟨hk⟩ ⟨hlf⟩ ⟨hst⟩)
      | true =>
        by_cases h1 : a.f0 = 1
        · cases hsu : sameB a.f2 b.f2 with
          | false => exact says_of (by rw [e, hlf, hst, hsu]; simp [h1]) (cosame_1u ⟨hp⟩ ⟨hq⟩ ⟨hk⟩ ⟨hst⟩ ⟨h1⟩ ⟨hsu⟩)
          | true =>
            by_cases hla : a.f3 = b.f3
            · by_cases hne : a.f4 = b.f4
              · exact says_of (by rw [e, hlf, hst, hsu]; simp [h1, hla, hne]) (cosame_1z ⟨hp⟩ ⟨hq⟩ ⟨hk⟩ ⟨hst⟩ ⟨h1⟩ ⟨hsu⟩ ⟨hla⟩ ⟨hne⟩ ⟨hz0⟩)
              · exact says_of (by rw [e, hlf, hst, hsu]; simp [h1, hla, hne]) (cosame_1y ⟨hp⟩ ⟨hq⟩ ⟨hk⟩ ⟨hst⟩ ⟨h1⟩ ⟨hsu⟩ ⟨hla⟩ ⟨hne⟩)
            · exact says_of (by rw [e, hlf, hst, hsu]; simp [h1, hla]) (cosame_1x ⟨hp⟩ ⟨hq⟩ ⟨hk⟩ ⟨hst⟩ ⟨h1⟩ ⟨hsu⟩ ⟨hla⟩)
        · by_cases h3 : a.f0 = 3
          · by_cases hla : a.f3 = b.f3
            · by_cases hne : a.f4 = b.f4
              · exact says_of (by rw [e, hlf, hst]; simp [h3, hla, hne]) (cosame_3z ⟨hp⟩ ⟨hq⟩ ⟨hk⟩ ⟨hst⟩ ⟨h3⟩ ⟨hla⟩ ⟨hne⟩ ⟨hz0⟩)
              · exact says_of (by rw [e, hlf, hst]; simp [h3, hla, hne]) (cosame_3y ⟨hp⟩ ⟨hq⟩ ⟨hk⟩ ⟨hst⟩ ⟨h3⟩ ⟨hla⟩ ⟨hne⟩)
            · exact says_of (by rw [e, hlf, hst]; simp [h3, hla]) (cosame_3x ⟨hp⟩ ⟨hq⟩ ⟨hk⟩ ⟨hst⟩ ⟨h3⟩ ⟨hla⟩)
          · exact says_of (by rw [e, hlf, hst]; simp [h1, h3]) (cosame_s ⟨hp⟩ ⟨hq⟩ ⟨hk⟩ ⟨hlf⟩ ⟨hst⟩ ⟨h1⟩ ⟨h3⟩ ⟨hz0⟩)
  · exact says_of (by rw [e, decide_eq_false hk]; simp) (cosame_k ⟨hp⟩ ⟨hq⟩ ⟨hk⟩)
theorem cosame_calls {a b : S47} {p q : Addr} {w : World} (ha : (endsC a).isSome = true) (hb : (endsC b).isSome = true) (hp : AtC w p a) (hq : AtC w q b) : Calls Try.prog 29 #[.pointer (some p), .pointer (some q)] w (SaysB (likeC a b) w) := cosame_at _ a b p q w (Nat.lt_succ_self _) ha hb hp hq
end Go.Proofs.Ytjmpejbciniceaa.X
namespace Go.Proofs.Ytjmpejbciniceaa.X
open Go.RowKit Go.Proofs.YtjmpejbciniceaaW.PrintWords Go.Proofs.YtjmpejbciniceaaW.PrintLast Go.Proofs.YtjmpejbciniceaaW.PrintMore
set_option linter.unusedVariables false
set_option linter.unusedSimpArgs false
theorem cocheck_calls {x : S47} {v : Value} {w : World} (hx : IsC w v x) : Calls Try.prog 28 #[v] w (CheckQ (cocheckI x) (endsC x) w) := by
  unfold cocheckI
  by_cases hn : 8192 < cnodes x
  · rw [if_pos hn]
    exact cocheck_n hx ⟨decide_eq_false (by omega)⟩
  · rw [if_neg hn]
    have hn' : Aside0 (decide (cnodes x ≤ 8192) = true) := ⟨decide_eq_true (by omega)⟩
    by_cases hd : 200 < cdepth x
    · rw [if_pos hd]
      exact cocheck_d hx hn' ⟨hd⟩
    · rw [if_neg hd]
      cases hs : endsC x with
      | none => exact cocheck_e hx hn' ⟨hd⟩ ⟨hs⟩
      | some v =>
        obtain ⟨ta, tb⟩ := v
        simp only
        exact cocheck_s hx hn' ⟨hd⟩ ⟨hs⟩ ⟨fun h => if_neg h⟩ ⟨fun h => if_pos h⟩
set_option maxRecDepth 100000 in
set_option maxHeartbeats 3200000 in
theorem coSame_a {a b : S47} {va vb : Value} {w : World} (ha : IsC w va a) (hb : IsC w vb b) (ha1 : Aside0 (cocheckI a ≠ 0)) : Calls Try.prog 14 #[va, vb] w (SaysB false w) := by
  have HA := Aside0.mk ha
  have HB := Aside0.mk hb
  obtain ⟨A2, c2, A4, c4, A7, c7, rfl, -, -, -, -, -, -⟩ := ha
  obtain ⟨A2', c2', A4', c4', A7', c7', rfl, -, -, -, -, -, -⟩ := hb
  have hB : Below w.heap.size w ((w.alloc (.cells #[.int .i8 a.f0, .int .i8 a.f1.f0, .slice A2 a.f1.f1.length c2, .int .i8 a.f2.f0, .slice A4 a.f2.f1.length c4, .int .i64 a.f3, .bool a.f4, .slice A7 a.f5.length c7] 47)).alloc (.cells #[.int .i8 b.f0, .int .i8 b.f1.f0, .slice A2' b.f1.f1.length c2', .int .i8 b.f2.f0, .slice A4' b.f2.f1.length c4', .int .i64 b.f3, .bool b.f4, .slice A7' b.f5.length c7'] 47)) := ((Below.refl _ _).alloc (Nat.le_refl _) _).alloc (by simp) _
  have K0 := Aside0.mk (blk_alloc (heap_alloc_new w (.cells #[.int .i8 a.f0, .int .i8 a.f1.f0, .slice A2 a.f1.f1.length c2, .int .i8 a.f2.f0, .slice A4 a.f2.f1.length c4, .int .i64 a.f3, .bool a.f4, .slice A7 a.f5.length c7] 47)) (.cells #[.int .i8 b.f0, .int .i8 b.f1.f0, .slice A2' b.f1.f1.length c2', .int .i8 b.f2.f0, .slice A4' b.f2.f1.length c4', .int .i64 b.f3, .bool b.f4, .slice A7' b.f5.length c7'] 47))
  have K1 : Aside0 (((w.alloc (.cells #[.int .i8 a.f0, .int .i8 a.f1.f0, .slice A2 a.f1.f1.length c2, .int .i8 a.f2.f0, .slice A4 a.f2.f1.length c4, .int .i64 a.f3, .bool a.f4, .slice A7 a.f5.length c7] 47)).alloc (.cells #[.int .i8 b.f0, .int .i8 b.f1.f0, .slice A2' b.f1.f1.length c2', .int .i8 b.f2.f0, .slice A4' b.f2.f1.length c4', .int .i64 b.f3, .bool b.f4, .slice A7' b.f5.length c7'] 47)).heap[w.heap.size + 1]? = some (.cells #[.int .i8 b.f0, .int .i8 b.f1.f0, .slice A2' b.f1.f1.length c2', .int .i8 b.f2.f0, .slice A4' b.f2.f1.length c4', .int .i64 b.f3, .bool b.f4, .slice A7' b.f5.length c7'] 47 (0, 0))) := .mk (by have := heap_alloc_new (w.alloc (.cells #[.int .i8 a.f0, .int .i8 a.f1.f0, .slice A2 a.f1.f1.length c2, .int .i8 a.f2.f0, .slice A4 a.f2.f1.length c4, .int .i64 a.f3, .bool a.f4, .slice A7 a.f5.length c7] 47)) (.cells #[.int .i8 b.f0, .int .i8 b.f1.f0, .slice A2' b.f1.f1.length c2', .int .i8 b.f2.f0, .slice A4' b.f2.f1.length c4', .int .i64 b.f3, .bool b.f4, .slice A7' b.f5.length c7'] 47); simpa using this)
  replace HA := Aside0.mk (HA.out.below hB)
  replace HB := Aside0.mk (HB.out.below hB)
  have HW := Aside0.mk hB
  clear hB
  go_enter Try.func14, Try.ntmps14
  have b0 := (blk_cell K0.out 0).trans rfl
  have b1 := (blk_cell K0.out 1).trans rfl
  have b2 := (blk_cell K0.out 2).trans rfl
  have b3 := (blk_cell K0.out 3).trans rfl
  have b4 := (blk_cell K0.out 4).trans rfl
  have b5 := (blk_cell K0.out 5).trans rfl
  have b6 := (blk_cell K0.out 6).trans rfl
  have b7 := (blk_cell K0.out 7).trans rfl
  simp at b0 b1 b2 b3 b4 b5 b6 b7
  go_wp2_with fail
  clear b0 b1 b2 b3 b4 b5 b6 b7
  generalize (w.alloc (.cells #[.int .i8 a.f0, .int .i8 a.f1.f0, .slice A2 a.f1.f1.length c2, .int .i8 a.f2.f0, .slice A4 a.f2.f1.length c4, .int .i64 a.f3, .bool a.f4, .slice A7 a.f5.length c7] 47)).alloc (.cells #[.int .i8 b.f0, .int .i8 b.f1.f0, .slice A2' b.f1.f1.length c2', .int .i8 b.f2.f0, .slice A4' b.f2.f1.length c4', .int .i64 b.f3, .bool b.f4, .slice A7' b.f5.length c7'] 47) = w0 at *
  refine (cocheck_calls HA.out).mono ?_
  rintro e w1 ⟨ka, Pa, na, ma, la, Qa, oa, ra, rfl, -, hB⟩
  replace K0 := Aside0.mk (blk_below K0.out hB)
  replace K1 := Aside0.mk (blk_below K1.out hB)
  replace HA := Aside0.mk (HA.out.below hB)
  replace HB := Aside0.mk (HB.out.below hB)
  replace HW := Aside0.mk (below_then HW.out HW.out.size hB)
  clear hB
  have hB : Below w1.heap.size w1 ((w1.alloc (.cells #[.int .i8 ka, .slice Pa na ma] 35)).alloc (.cells #[.int .i8 la, .slice Qa oa ra] 35)) := ((Below.refl _ _).alloc (Nat.le_refl _) _).alloc (by simp) _
  replace K0 := Aside0.mk (blk_below K0.out hB)
  replace K1 := Aside0.mk (blk_below K1.out hB)
  replace HA := Aside0.mk (HA.out.below hB)
  replace HB := Aside0.mk (HB.out.below hB)
  replace HW := Aside0.mk (below_then HW.out HW.out.size hB)
  clear hB
  have b0 := (blk_cell K1.out 0).trans rfl
  have b1 := (blk_cell K1.out 1).trans rfl
  have b2 := (blk_cell K1.out 2).trans rfl
  have b3 := (blk_cell K1.out 3).trans rfl
  have b4 := (blk_cell K1.out 4).trans rfl
  have b5 := (blk_cell K1.out 5).trans rfl
  have b6 := (blk_cell K1.out 6).trans rfl
  have b7 := (blk_cell K1.out 7).trans rfl
  simp at b0 b1 b2 b3 b4 b5 b6 b7
  go_wp2_with fail
  clear b0 b1 b2 b3 b4 b5 b6 b7
  generalize (w1.alloc (.cells #[.int .i8 ka, .slice Pa na ma] 35)).alloc (.cells #[.int .i8 la, .slice Qa oa ra] 35) = w2 at *
  refine (cocheck_calls HB.out).mono ?_
  rintro e w3 ⟨kb, Pb, nb, mb, lb, Qb, ob, rb, rfl, -, hB⟩
  replace K0 := Aside0.mk (blk_below K0.out hB)
  replace K1 := Aside0.mk (blk_below K1.out hB)
  replace HA := Aside0.mk (HA.out.below hB)
  replace HB := Aside0.mk (HB.out.below hB)
  replace HW := Aside0.mk (below_then HW.out HW.out.size hB)
  clear hB
  have hB : Below w3.heap.size w3 ((w3.alloc (.cells #[.int .i8 kb, .slice Pb nb mb] 35)).alloc (.cells #[.int .i8 lb, .slice Qb ob rb] 35)) := ((Below.refl _ _).alloc (Nat.le_refl _) _).alloc (by simp) _
  replace K0 := Aside0.mk (blk_below K0.out hB)
  replace K1 := Aside0.mk (blk_below K1.out hB)
  replace HA := Aside0.mk (HA.out.below hB)
  replace HB := Aside0.mk (HB.out.below hB)
  replace HW := Aside0.mk (below_then HW.out HW.out.size hB)
  clear hB
  have ea : (cocheckI a == 0) = false := beq_eq_false_iff_ne.mpr ha1.out
  go_wp2_with fail
  generalize (w3.alloc (.cells #[.int .i8 kb, .slice Pb nb mb] 35)).alloc (.cells #[.int .i8 lb, .slice Qb ob rb] 35) = w4 at *
  go_ret
  exact ⟨rfl, HW.out⟩
set_option maxRecDepth 100000 in
set_option maxHeartbeats 3200000 in
theorem coSame_b {a b : S47} {va vb : Value} {w : World} (ha : IsC w va a) (hb : IsC w vb b) (ha1 : Aside0 (cocheckI a = 0)) (hb1 : Aside0 (cocheckI b ≠ 0)) : Calls Try.prog 14 #[va, vb] w (SaysB false w) := by
  have HA := Aside0.mk ha
  have HB := Aside0.mk hb
  obtain ⟨A2, c2, A4, c4, A7, c7, rfl, -, -, -, -, -, -⟩ := ha
  obtain ⟨A2', c2', A4', c4', A7', c7', rfl, -, -, -, -, -, -⟩ := hb
  have hB : Below w.heap.size w ((w.alloc (.cells #[.int .i8 a.f0, .int .i8 a.f1.f0, .slice A2 a.f1.f1.length c2, .int .i8 a.f2.f0, .slice A4 a.f2.f1.length c4, .int .i64 a.f3, .bool a.f4, .slice A7 a.f5.length c7] 47)).alloc (.cells #[.int .i8 b.f0, .int .i8 b.f1.f0, .slice A2' b.f1.f1.length c2', .int .i8 b.f2.f0, .slice A4' b.f2.f1.length c4', .int .i64 b.f3, .bool b.f4, .slice A7' b.f5.length c7'] 47)) := ((Below.refl _ _).alloc (Nat.le_refl _) _).alloc (by simp) _
  have K0 := Aside0.mk (blk_alloc (heap_alloc_new w (.cells #[.int .i8 a.f0, .int .i8 a.f1.f0, .slice A2 a.f1.f1.length c2, .int .i8 a.f2.f0, .slice A4 a.f2.f1.length c4, .int .i64 a.f3, .bool a.f4, .slice A7 a.f5.length c7] 47)) (.cells #[.int .i8 b.f0, .int .i8 b.f1.f0, .slice A2' b.f1.f1.length c2', .int .i8 b.f2.f0, .slice A4' b.f2.f1.length c4', .int .i64 b.f3, .bool b.f4, .slice A7' b.f5.length c7'] 47))
  have K1 : Aside0 (((w.alloc (.cells #[.int .i8 a.f0, .int .i8 a.f1.f0, .slice A2 a.f1.f1.length c2, .int .i8 a.f2.f0, .slice A4 a.f2.f1.length c4, .int .i64 a.f3, .bool a.f4, .slice A7 a.f5.length c7] 47)).alloc (.cells #[.int .i8 b.f0, .int .i8 b.f1.f0, .slice A2' b.f1.f1.length c2', .int .i8 b.f2.f0, .slice A4' b.f2.f1.length c4', .int .i64 b.f3, .bool b.f4, .slice A7' b.f5.length c7'] 47)).heap[w.heap.size + 1]? = some (.cells #[.int .i8 b.f0, .int .i8 b.f1.f0, .slice A2' b.f1.f1.length c2', .int .i8 b.f2.f0, .slice A4' b.f2.f1.length c4', .int .i64 b.f3, .bool b.f4, .slice A7' b.f5.length c7'] 47 (0, 0))) := .mk (by have := heap_alloc_new (w.alloc (.cells #[.int .i8 a.f0, .int .i8 a.f1.f0, .slice A2 a.f1.f1.length c2, .int .i8 a.f2.f0, .slice A4 a.f2.f1.length c4, .int .i64 a.f3, .bool a.f4, .slice A7 a.f5.length c7] 47)) (.cells #[.int .i8 b.f0, .int .i8 b.f1.f0, .slice A2' b.f1.f1.length c2', .int .i8 b.f2.f0, .slice A4' b.f2.f1.length c4', .int .i64 b.f3, .bool b.f4, .slice A7' b.f5.length c7'] 47); simpa using this)
  replace HA := Aside0.mk (HA.out.below hB)
  replace HB := Aside0.mk (HB.out.below hB)
  have HW := Aside0.mk hB
  clear hB
  go_enter Try.func14, Try.ntmps14
  have b0 := (blk_cell K0.out 0).trans rfl
  have b1 := (blk_cell K0.out 1).trans rfl
  have b2 := (blk_cell K0.out 2).trans rfl
  have b3 := (blk_cell K0.out 3).trans rfl
  have b4 := (blk_cell K0.out 4).trans rfl
  have b5 := (blk_cell K0.out 5).trans rfl
  have b6 := (blk_cell K0.out 6).trans rfl
  have b7 := (blk_cell K0.out 7).trans rfl
  simp at b0 b1 b2 b3 b4 b5 b6 b7
  go_wp2_with fail
  clear b0 b1 b2 b3 b4 b5 b6 b7
  generalize (w.alloc (.cells #[.int .i8 a.f0, .int .i8 a.f1.f0, .slice A2 a.f1.f1.length c2, .int .i8 a.f2.f0, .slice A4 a.f2.f1.length c4, .int .i64 a.f3, .bool a.f4, .slice A7 a.f5.length c7] 47)).alloc (.cells #[.int .i8 b.f0, .int .i8 b.f1.f0, .slice A2' b.f1.f1.length c2', .int .i8 b.f2.f0, .slice A4' b.f2.f1.length c4', .int .i64 b.f3, .bool b.f4, .slice A7' b.f5.length c7'] 47) = w0 at *
  refine (cocheck_calls HA.out).mono ?_
  rintro e w1 ⟨ka, Pa, na, ma, la, Qa, oa, ra, rfl, -, hB⟩
  replace K0 := Aside0.mk (blk_below K0.out hB)
  replace K1 := Aside0.mk (blk_below K1.out hB)
  replace HA := Aside0.mk (HA.out.below hB)
  replace HB := Aside0.mk (HB.out.below hB)
  replace HW := Aside0.mk (below_then HW.out HW.out.size hB)
  clear hB
  have hB : Below w1.heap.size w1 ((w1.alloc (.cells #[.int .i8 ka, .slice Pa na ma] 35)).alloc (.cells #[.int .i8 la, .slice Qa oa ra] 35)) := ((Below.refl _ _).alloc (Nat.le_refl _) _).alloc (by simp) _
  replace K0 := Aside0.mk (blk_below K0.out hB)
  replace K1 := Aside0.mk (blk_below K1.out hB)
  replace HA := Aside0.mk (HA.out.below hB)
  replace HB := Aside0.mk (HB.out.below hB)
  replace HW := Aside0.mk (below_then HW.out HW.out.size hB)
  clear hB
  have b0 := (blk_cell K1.out 0).trans rfl
  have b1 := (blk_cell K1.out 1).trans rfl
  have b2 := (blk_cell K1.out 2).trans rfl
  have b3 := (blk_cell K1.out 3).trans rfl
  have b4 := (blk_cell K1.out 4).trans rfl
  have b5 := (blk_cell K1.out 5).trans rfl
  have b6 := (blk_cell K1.out 6).trans rfl
  have b7 := (blk_cell K1.out 7).trans rfl
  simp at b0 b1 b2 b3 b4 b5 b6 b7
  go_wp2_with fail
  clear b0 b1 b2 b3 b4 b5 b6 b7
  generalize (w1.alloc (.cells #[.int .i8 ka, .slice Pa na ma] 35)).alloc (.cells #[.int .i8 la, .slice Qa oa ra] 35) = w2 at *
  refine (cocheck_calls HB.out).mono ?_
  rintro e w3 ⟨kb, Pb, nb, mb, lb, Qb, ob, rb, rfl, -, hB⟩
  replace K0 := Aside0.mk (blk_below K0.out hB)
  replace K1 := Aside0.mk (blk_below K1.out hB)
  replace HA := Aside0.mk (HA.out.below hB)
  replace HB := Aside0.mk (HB.out.below hB)
  replace HW := Aside0.mk (below_then HW.out HW.out.size hB)
  clear hB
  have hB : Below w3.heap.size w3 ((w3.alloc (.cells #[.int .i8 kb, .slice Pb nb mb] 35)).alloc (.cells #[.int .i8 lb, .slice Qb ob rb] 35)) := ((Below.refl _ _).alloc (Nat.le_refl _) _).alloc (by simp) _
  replace K0 := Aside0.mk (blk_below K0.out hB)
  replace K1 := Aside0.mk (blk_below K1.out hB)
  replace HA := Aside0.mk (HA.out.below hB)
  replace HB := Aside0.mk (HB.out.below hB)
  replace HW := Aside0.mk (below_then HW.out HW.out.size hB)
  clear hB
  have ea : (cocheckI a == 0) = true := beq_iff_eq.mpr ha1.out
  have eb : (cocheckI b == 0) = false := beq_eq_false_iff_ne.mpr hb1.out
  go_wp2_with fail
  generalize (w3.alloc (.cells #[.int .i8 kb, .slice Pb nb mb] 35)).alloc (.cells #[.int .i8 lb, .slice Qb ob rb] 35) = w4 at *
  go_ret
  exact ⟨rfl, HW.out⟩
set_option maxRecDepth 100000 in
set_option maxHeartbeats 3200000 in
theorem coSame_c {a b : S47} {va vb : Value} {w : World} (ha : IsC w va a) (hb : IsC w vb b) (ha1 : Aside0 (cocheckI a = 0)) (hb1 : Aside0 (cocheckI b = 0)) : Calls Try.prog 14 #[va, vb] w (SaysB (likeC a b) w) := by
  have HA := Aside0.mk ha
  have HB := Aside0.mk hb
  obtain ⟨A2, c2, A4, c4, A7, c7, rfl, -, -, -, -, -, -⟩ := ha
  obtain ⟨A2', c2', A4', c4', A7', c7', rfl, -, -, -, -, -, -⟩ := hb
  have hB : Below w.heap.size w ((w.alloc (.cells #[.int .i8 a.f0, .int .i8 a.f1.f0, .slice A2 a.f1.f1.length c2, .int .i8 a.f2.f0, .slice A4 a.f2.f1.length c4, .int .i64 a.f3, .bool a.f4, .slice A7 a.f5.length c7] 47)).alloc (.cells #[.int .i8 b.f0, .int .i8 b.f1.f0, .slice A2' b.f1.f1.length c2', .int .i8 b.f2.f0, .slice A4' b.f2.f1.length c4', .int .i64 b.f3, .bool b.f4, .slice A7' b.f5.length c7'] 47)) := ((Below.refl _ _).alloc (Nat.le_refl _) _).alloc (by simp) _
  have K0 := Aside0.mk (blk_alloc (heap_alloc_new w (.cells #[.int .i8 a.f0, .int .i8 a.f1.f0, .slice A2 a.f1.f1.length c2, .int .i8 a.f2.f0, .slice A4 a.f2.f1.length c4, .int .i64 a.f3, .bool a.f4, .slice A7 a.f5.length c7] 47)) (.cells #[.int .i8 b.f0, .int .i8 b.f1.f0, .slice A2' b.f1.f1.length c2', .int .i8 b.f2.f0, .slice A4' b.f2.f1.length c4', .int .i64 b.f3, .bool b.f4, .slice A7' b.f5.length c7'] 47))
  have K1 : Aside0 (((w.alloc (.cells #[.int .i8 a.f0, .int .i8 a.f1.f0, .slice A2 a.f1.f1.length c2, .int .i8 a.f2.f0, .slice A4 a.f2.f1.length c4, .int .i64 a.f3, .bool a.f4, .slice A7 a.f5.length c7] 47)).alloc (.cells #[.int .i8 b.f0, .int .i8 b.f1.f0, .slice A2' b.f1.f1.length c2', .int .i8 b.f2.f0, .slice A4' b.f2.f1.length c4', .int .i64 b.f3, .bool b.f4, .slice A7' b.f5.length c7'] 47)).heap[w.heap.size + 1]? = some (.cells #[.int .i8 b.f0, .int .i8 b.f1.f0, .slice A2' b.f1.f1.length c2', .int .i8 b.f2.f0, .slice A4' b.f2.f1.length c4', .int .i64 b.f3, .bool b.f4, .slice A7' b.f5.length c7'] 47 (0, 0))) := .mk (by have := heap_alloc_new (w.alloc (.cells #[.int .i8 a.f0, .int .i8 a.f1.f0, .slice A2 a.f1.f1.length c2, .int .i8 a.f2.f0, .slice A4 a.f2.f1.length c4, .int .i64 a.f3, .bool a.f4, .slice A7 a.f5.length c7] 47)) (.cells #[.int .i8 b.f0, .int .i8 b.f1.f0, .slice A2' b.f1.f1.length c2', .int .i8 b.f2.f0, .slice A4' b.f2.f1.length c4', .int .i64 b.f3, .bool b.f4, .slice A7' b.f5.length c7'] 47); simpa using this)
  replace HA := Aside0.mk (HA.out.below hB)
  replace HB := Aside0.mk (HB.out.below hB)
  have HW := Aside0.mk hB
  clear hB
  go_enter Try.func14, Try.ntmps14
  have b0 := (blk_cell K0.out 0).trans rfl
  have b1 := (blk_cell K0.out 1).trans rfl
  have b2 := (blk_cell K0.out 2).trans rfl
  have b3 := (blk_cell K0.out 3).trans rfl
  have b4 := (blk_cell K0.out 4).trans rfl
  have b5 := (blk_cell K0.out 5).trans rfl
  have b6 := (blk_cell K0.out 6).trans rfl
  have b7 := (blk_cell K0.out 7).trans rfl
  simp at b0 b1 b2 b3 b4 b5 b6 b7
  go_wp2_with fail
  clear b0 b1 b2 b3 b4 b5 b6 b7
  generalize (w.alloc (.cells #[.int .i8 a.f0, .int .i8 a.f1.f0, .slice A2 a.f1.f1.length c2, .int .i8 a.f2.f0, .slice A4 a.f2.f1.length c4, .int .i64 a.f3, .bool a.f4, .slice A7 a.f5.length c7] 47)).alloc (.cells #[.int .i8 b.f0, .int .i8 b.f1.f0, .slice A2' b.f1.f1.length c2', .int .i8 b.f2.f0, .slice A4' b.f2.f1.length c4', .int .i64 b.f3, .bool b.f4, .slice A7' b.f5.length c7'] 47) = w0 at *
  refine (cocheck_calls HA.out).mono ?_
  rintro e w1 ⟨ka, Pa, na, ma, la, Qa, oa, ra, rfl, -, hB⟩
  replace K0 := Aside0.mk (blk_below K0.out hB)
  replace K1 := Aside0.mk (blk_below K1.out hB)
  replace HA := Aside0.mk (HA.out.below hB)
  replace HB := Aside0.mk (HB.out.below hB)
  replace HW := Aside0.mk (below_then HW.out HW.out.size hB)
  clear hB
  have hB : Below w1.heap.size w1 ((w1.alloc (.cells #[.int .i8 ka, .slice Pa na ma] 35)).alloc (.cells #[.int .i8 la, .slice Qa oa ra] 35)) := ((Below.refl _ _).alloc (Nat.le_refl _) _).alloc (by simp) _
  replace K0 := Aside0.mk (blk_below K0.out hB)
  replace K1 := Aside0.mk (blk_below K1.out hB)
  replace HA := Aside0.mk (HA.out.below hB)
  replace HB := Aside0.mk (HB.out.below hB)
  replace HW := Aside0.mk (below_then HW.out HW.out.size hB)
  clear hB
  have b0 := (blk_cell K1.out 0).trans rfl
  have b1 := (blk_cell K1.out 1).trans rfl
  have b2 := (blk_cell K1.out 2).trans rfl
  have b3 := (blk_cell K1.out 3).trans rfl
  have b4 := (blk_cell K1.out 4).trans rfl
  have b5 := (blk_cell K1.out 5).trans rfl
  have b6 := (blk_cell K1.out 6).trans rfl
  have b7 := (blk_cell K1.out 7).trans rfl
  simp at b0 b1 b2 b3 b4 b5 b6 b7
  go_wp2_with fail
  clear b0 b1 b2 b3 b4 b5 b6 b7
  generalize (w1.alloc (.cells #[.int .i8 ka, .slice Pa na ma] 35)).alloc (.cells #[.int .i8 la, .slice Qa oa ra] 35) = w2 at *
  refine (cocheck_calls HB.out).mono ?_
  rintro e w3 ⟨kb, Pb, nb, mb, lb, Qb, ob, rb, rfl, -, hB⟩
  replace K0 := Aside0.mk (blk_below K0.out hB)
  replace K1 := Aside0.mk (blk_below K1.out hB)
  replace HA := Aside0.mk (HA.out.below hB)
  replace HB := Aside0.mk (HB.out.below hB)
  replace HW := Aside0.mk (below_then HW.out HW.out.size hB)
  clear hB
  have hB : Below w3.heap.size w3 ((w3.alloc (.cells #[.int .i8 kb, .slice Pb nb mb] 35)).alloc (.cells #[.int .i8 lb, .slice Qb ob rb] 35)) := ((Below.refl _ _).alloc (Nat.le_refl _) _).alloc (by simp) _
  replace K0 := Aside0.mk (blk_below K0.out hB)
  replace K1 := Aside0.mk (blk_below K1.out hB)
  replace HA := Aside0.mk (HA.out.below hB)
  replace HB := Aside0.mk (HB.out.below hB)
  replace HW := Aside0.mk (below_then HW.out HW.out.size hB)
  clear hB
  have ea : (cocheckI a == 0) = true := beq_iff_eq.mpr ha1.out
  have eb : (cocheckI b == 0) = true := beq_iff_eq.mpr hb1.out
  go_wp2_with fail
  generalize (w3.alloc (.cells #[.int .i8 kb, .slice Pb nb mb] 35)).alloc (.cells #[.int .i8 lb, .slice Qb ob rb] 35) = w4 at *
  refine (cosame_calls (check_ends ha1.out) (check_ends hb1.out) (AtC_box K0.out HA.out) (AtC_box K1.out HB.out)).mono ?_
  rintro e w5 ⟨rfl, hB⟩
  replace HW := Aside0.mk (below_then HW.out HW.out.size hB)
  clear hB
  go_wp2_with fail
  go_ret
  exact ⟨rfl, HW.out⟩
theorem coSame_calls {a b : S47} {va vb : Value} {w : World} (ha : IsC w va a) (hb : IsC w vb b) : Calls Try.prog 14 #[va, vb] w (SaysB (decide (cocheckI a = 0) && decide (cocheckI b = 0) && likeC a b) w) := by
  by_cases h1 : cocheckI a = 0
  · by_cases h2 : cocheckI b = 0
    · rw [decide_eq_true h1, decide_eq_true h2]
      exact coSame_c ha hb ⟨h1⟩ ⟨h2⟩
    · rw [decide_eq_true h1, decide_eq_false h2]
      exact coSame_b ha hb ⟨h1⟩ ⟨h2⟩
  · rw [decide_eq_false h1]
    exact coSame_a ha hb ⟨h1⟩
end Go.Proofs.Ytjmpejbciniceaa.X
namespace Go.Proofs.Ytjmpejbciniceaa.X
open Go.ChangeShapes Go.WideShapes Go.ChangeAt Go.RowKit Go.Proofs.YtjmpejbciniceaaW.PrintWords
set_option linter.unusedVariables false
section
variable {H : Type} {enc : TypeId × Value → H} {w : World} {base : Nat} {spare : Nat → Bool} {held : Bool}
set_option maxRecDepth 100000 in
theorem T47_of_trod (fuel : Nat) : ∀ (cs : List Value) (x : DataW H × List MemPlace), DataW.trod enc Try.prog w base spare held fuel 47 cs = some x → ∃ v : S47, k47.K w v cs := by
  induction fuel using Nat.strongRecOn with
  | _ fuel ih =>
  intro cs x h
  obtain ⟨xs, n, rfl, rfl, hl, hx, hf⟩ := DataW.trod_struct Try.underlying47 h
  have h0 := hf 0 _ rfl
  have h1 := hf 1 _ rfl
  have h2 := hf 2 _ rfl
  have h3 := hf 3 _ rfl
  have h4 := hf 4 _ rfl
  have h5 := hf 5 _ rfl
  have hx6 : xs.length = 6 := hx
  rw [List.getElem?_eq_getElem (by omega)] at h0 h1 h2 h3 h4 h5
  obtain ⟨k, e0, _, -⟩ := DataW.trod_int Try.underlying27 h0
  obtain ⟨t, ht⟩ := T35_of_trod _ _ _ h1
  obtain ⟨u, hu⟩ := T35_of_trod _ _ _ h2
  obtain ⟨A2, c2, e1, l2, C2⟩ := k35_open ht
  obtain ⟨A4, c4, e2, l4, C4⟩ := k35_open hu
  obtain ⟨la, e3, _, -⟩ := DataW.trod_int Try.underlying3 h3
  obtain ⟨ne, e4, _⟩ := DataW.trod_bool Try.underlying4 h4
  obtain ⟨A7, l, c7, e5, hlc, _, hC⟩ := row_of_trod k47 Try.underlying45 (by kernel_rfl) (fun m hm cs x h => ih m (by omega) cs x h) h5
  have hc8 : cs.length = 8 := hl.trans (by kernel_rfl)
  match cs, hc8 with
  | [a0, a1, a2, a3, a4, a5, a6, a7], _ =>
    have q0 : a0 = .int .i8 k := by simpa using (show [a0] = [Value.int .i8 k] from e0)
    have q1 : a1 = .int .i8 t.f0 ∧ a2 = .slice A2 t.f1.length c2 := by simpa using (show [a1, a2] = [Value.int .i8 t.f0, .slice A2 t.f1.length c2] from e1)
    have q2 : a3 = .int .i8 u.f0 ∧ a4 = .slice A4 u.f1.length c4 := by simpa using (show [a3, a4] = [Value.int .i8 u.f0, .slice A4 u.f1.length c4] from e2)
    have q3 : a5 = .int .i64 la := by simpa using (show [a5] = [Value.int .i64 la] from e3)
    have q4 : a6 = .bool ne := by simpa using (show [a6] = [Value.bool ne] from e4)
    have q5 : a7 = .slice A7 l.length c7 := by simpa using (show [a7] = [Value.slice A7 l.length c7] from e5)
    obtain ⟨rfl, rfl⟩ := q1
    obtain ⟨rfl, rfl⟩ := q2
    subst q0 q3 q4 q5
    exact ⟨⟨k, t, u, la, ne, l⟩, k47_mk w ⟨k, t, u, la, ne, l⟩ l2 C2 l4 C4 hlc hC⟩
theorem argC {v : Value} {x : DataW H} {ps : List MemPlace} (h : DataW.Trod enc Try.prog w base spare held 47 v x ps) : ∃ t, IsC w v t := by
  obtain ⟨fuel, hf⟩ := h
  obtain ⟨t, ht⟩ := T47_of_trod fuel _ _ hf
  obtain ⟨A2, c2, A4, c4, A7, c7, e, h1, h2, h3, h4, h5, h6⟩ := k47_open ht
  exact ⟨t, A2, c2, A4, c4, A7, c7, by rw [agg_of_cells e (by simp)], h1, h2, h3, h4, h5, h6⟩
end
end Go.Proofs.Ytjmpejbciniceaa.X
