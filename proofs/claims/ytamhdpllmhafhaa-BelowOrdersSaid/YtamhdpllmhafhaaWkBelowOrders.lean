/- The walk of the law BelowOrders: part C. -/
import Derived.Test.YtamhdpllmhafhaaWkBelowOrdersA
import Derived.Test.YtamhdpllmhafhaaWkBelowOrdersB
namespace Go.Proofs.Ytamhdpllmhafhaa.X
open Go.RowKit Go.Proofs.YtamhdpllmhafhaaW.PrintWords Go.Proofs.YtamhdpllmhafhaaW.PrintLast Go.Proofs.YtamhdpllmhafhaaW.PrintMore
set_option linter.unusedVariables false
set_option linter.unusedSimpArgs false

set_option maxRecDepth 100000 in
set_option maxHeartbeats 3200000 in
theorem orders_ab_bc_k (a b c : S26) (w : World) (A : Option Addr) (ca : Nat) (B : Option Addr) (cb : Nat) (C : Option Addr) (cc : Nat) (T0 : Aside0 (IsT w (.agg #[.int .i8 a.f0, .slice A a.f1.length ca]) a)) (T1 : Aside0 (IsT w (.agg #[.int .i8 b.f0, .slice B b.f1.length cb]) b)) (T2 : Aside0 (IsT w (.agg #[.int .i8 c.f0, .slice C c.f1.length cc]) c))
    (ck : Int) (ok s : Bool) (CK : Aside0 (checkI a = ck)) (dk : (ck == 0) = ok) (RF0 : Aside0 (relB 0 a a = ok)) (RF1 : Aside0 (relB 1 a a = ok)) (RF2 : Aside0 (relB 2 a a = ok)) (SA : Aside0 (sameB a b = s)) (AB : Aside0 (relB 0 a b = true)) (BC : Aside0 (relB 0 b c = true)) (BA : Aside0 (relB 0 b a = s)) (AC : Aside0 (relB 0 a c = true)) (KA : Aside0 (knownB a = false)) :
    Calls Try.prog 15 #[.agg #[.int .i8 a.f0, .slice A a.f1.length ca], .agg #[.int .i8 b.f0, .slice B b.f1.length cb], .agg #[.int .i8 c.f0, .slice C c.f1.length cc]] w fun e w' => e = .returned (.bool true) ∧ Below w.heap.size w w' := by
  go_enter Try.func15, Try.ntmps15
  go_wp2_with fail
  refine (Check_calls (T0.out.below (below3 ..))).mono ?_
  rw [CK.out]
  rintro e w1 ⟨rfl, hB⟩
  obtain ⟨b1, b2, b3, hB1⟩ := three_blocks hB
  have K1 := Aside0.mk b1
  have K2 := Aside0.mk b2
  have K3 := Aside0.mk b3
  have HB := Aside0.mk hB1
  replace T0 := Aside0.mk (IsT.below T0.out hB1)
  replace T1 := Aside0.mk (IsT.below T1.out hB1)
  replace T2 := Aside0.mk (IsT.below T2.out hB1)
  clear hB hB1 b1 b2 b3
  obtain ⟨e10, e11⟩ := c26_of K1.out (Below.refl _ _)
  obtain ⟨e20, e21⟩ := c26_of K2.out (Below.refl _ _)
  obtain ⟨e30, e31⟩ := c26_of K3.out (Below.refl _ _)
  have q1 := blk_lt K1.out
  have q2 := blk_lt K2.out
  have q3 := blk_lt K3.out
  go_wp2_with fail
  refine (Below_calls T0.out T0.out).mono ?_
  rw [RF0.out]
  rintro e w2 ⟨rfl, hB⟩
  replace K1 := Aside0.mk (blk_below K1.out hB)
  replace K2 := Aside0.mk (blk_below K2.out hB)
  replace K3 := Aside0.mk (blk_below K3.out hB)
  replace T0 := Aside0.mk (IsT.below T0.out hB)
  replace T1 := Aside0.mk (IsT.below T1.out hB)
  replace T2 := Aside0.mk (IsT.below T2.out hB)
  replace HB := Aside0.mk (below_then HB.out HB.out.size hB)
  clear hB e10 e11 e20 e21 e30 e31 q1 q2 q3
  obtain ⟨e10, e11⟩ := c26_of K1.out (Below.refl _ _)
  obtain ⟨e20, e21⟩ := c26_of K2.out (Below.refl _ _)
  obtain ⟨e30, e31⟩ := c26_of K3.out (Below.refl _ _)
  have q1 := blk_lt K1.out
  have q2 := blk_lt K2.out
  have q3 := blk_lt K3.out
  go_wp2_with fail
  refine (Pos_calls T0.out T0.out).mono ?_
  rw [RF1.out]
  rintro e w3 ⟨rfl, hB⟩
  replace K1 := Aside0.mk (blk_below K1.out hB)
  replace K2 := Aside0.mk (blk_below K2.out hB)
  replace K3 := Aside0.mk (blk_below K3.out hB)
  replace T0 := Aside0.mk (IsT.below T0.out hB)
  replace T1 := Aside0.mk (IsT.below T1.out hB)
  replace T2 := Aside0.mk (IsT.below T2.out hB)
  replace HB := Aside0.mk (below_then HB.out HB.out.size hB)
  clear hB e10 e11 e20 e21 e30 e31 q1 q2 q3
  obtain ⟨e10, e11⟩ := c26_of K1.out (Below.refl _ _)
  obtain ⟨e20, e21⟩ := c26_of K2.out (Below.refl _ _)
  obtain ⟨e30, e31⟩ := c26_of K3.out (Below.refl _ _)
  have q1 := blk_lt K1.out
  have q2 := blk_lt K2.out
  have q3 := blk_lt K3.out
  go_wp2_with fail
  refine (Neg_calls T0.out T0.out).mono ?_
  rw [RF2.out]
  rintro e w4 ⟨rfl, hB⟩
  replace K1 := Aside0.mk (blk_below K1.out hB)
  replace K2 := Aside0.mk (blk_below K2.out hB)
  replace K3 := Aside0.mk (blk_below K3.out hB)
  replace T0 := Aside0.mk (IsT.below T0.out hB)
  replace T1 := Aside0.mk (IsT.below T1.out hB)
  replace T2 := Aside0.mk (IsT.below T2.out hB)
  replace HB := Aside0.mk (below_then HB.out HB.out.size hB)
  clear hB e10 e11 e20 e21 e30 e31 q1 q2 q3
  obtain ⟨e10, e11⟩ := c26_of K1.out (Below.refl _ _)
  obtain ⟨e20, e21⟩ := c26_of K2.out (Below.refl _ _)
  obtain ⟨e30, e31⟩ := c26_of K3.out (Below.refl _ _)
  have q1 := blk_lt K1.out
  have q2 := blk_lt K2.out
  have q3 := blk_lt K3.out
  go_wp2_with fail
  have OK := Aside0.mk (fun w' (h : Below w4.heap.size w4 w') => (⟨c26_of K1.out h, c26_of K2.out h, c26_of K3.out h⟩ : ((w'.cell? ⟨w.heap.size, 0, none⟩ = some (.int .i8 a.f0) ∧ w'.cell? ⟨w.heap.size, 1, none⟩ = some (.slice A a.f1.length ca)) ∧ (w'.cell? ⟨(w.heap.size + 1), 0, none⟩ = some (.int .i8 b.f0) ∧ w'.cell? ⟨(w.heap.size + 1), 1, none⟩ = some (.slice B b.f1.length cb)) ∧ (w'.cell? ⟨(w.heap.size + 1 + 1), 0, none⟩ = some (.int .i8 c.f0) ∧ w'.cell? ⟨(w.heap.size + 1 + 1), 1, none⟩ = some (.slice C c.f1.length cc)))))
  have HBW := Aside0.mk (Below.refl w4.heap.size w4)
  clear e10 e11 e20 e21 e30 e31 q1 q2 q3
  refine wp_region_held_drew (S := (fun w' => ((w'.cell? ⟨w.heap.size, 0, none⟩ = some (.int .i8 a.f0) ∧ w'.cell? ⟨w.heap.size, 1, none⟩ = some (.slice A a.f1.length ca)) ∧ (w'.cell? ⟨(w.heap.size + 1), 0, none⟩ = some (.int .i8 b.f0) ∧ w'.cell? ⟨(w.heap.size + 1), 1, none⟩ = some (.slice B b.f1.length cb)) ∧ (w'.cell? ⟨(w.heap.size + 1 + 1), 0, none⟩ = some (.int .i8 c.f0) ∧ w'.cell? ⟨(w.heap.size + 1 + 1), 1, none⟩ = some (.slice C c.f1.length cc))))) (by kernel_rfl) (OK.out _ HBW.out.drew) (fun hHeld => ?_)
  refine takeH (d := some 31) (v := ?_) 0 rfl rfl (by kernel_rfl) (by kernel_rfl) (by kernel_rfl) (fun _ _ _ h => h) (by rfl) ?_ hHeld ?_
  rotate_left
  · intro w hSw
    try dsimp only at hSw
    go_simp <;> with_reducible rfl
  try simp only [Act.put, List.setIfInBounds_toArray, List.set_cons_zero, List.set_cons_succ]
  refine takeH (d := some 32) (v := ?_) 1 rfl rfl (by kernel_rfl) (by kernel_rfl) (by kernel_rfl) (fun _ _ _ h => h) (by rfl) ?_ hHeld ?_
  rotate_left
  · intro w hSw
    try dsimp only at hSw
    go_simp <;> with_reducible rfl
  try simp only [Act.put, List.setIfInBounds_toArray, List.set_cons_zero, List.set_cons_succ]
  refine wpAnyH_ready (rs := [2]) (by kernel_rfl) (by simp) ?_
  refine AllReadyH.cons rfl (fun K hK => ?_) AllReadyH.nil
  go_simp
  refine (Below_calls (T0.out.below HBW.out.drew) (T1.out.below HBW.out.drew)).mono ?_
  rw [AB.out]
  rintro e w5 ⟨rfl, hB⟩
  have H1 := Aside0.mk (below_then HBW.out.drew (HBW.out.drew).size hB)
  clear hB
  refine hK.out _ _ (OK.out _ H1.out) (fun hHeld => ?_)
  clear hK K
  try simp only [Act.put, List.setIfInBounds_toArray, List.set_cons_zero, List.set_cons_succ]
  refine takeH (d := some 34) (v := ?_) 3 rfl rfl (by kernel_rfl) (by kernel_rfl) (by kernel_rfl) (fun _ _ _ h => h) (by rfl) ?_ hHeld ?_
  rotate_left
  · intro w hSw
    try dsimp only at hSw
    go_simp <;> with_reducible rfl
  try simp only [Act.put, List.setIfInBounds_toArray, List.set_cons_zero, List.set_cons_succ]
  refine takeH (d := some 35) (v := ?_) 4 rfl rfl (by kernel_rfl) (by kernel_rfl) (by kernel_rfl) (fun _ _ _ h => h) (by rfl) ?_ hHeld ?_
  rotate_left
  · intro w hSw
    try dsimp only at hSw
    go_simp <;> with_reducible rfl
  try simp only [Act.put, List.setIfInBounds_toArray, List.set_cons_zero, List.set_cons_succ]
  refine takeH (d := some 36) (v := ?_) 5 rfl rfl (by kernel_rfl) (by kernel_rfl) (by kernel_rfl) (fun _ _ _ h => h) (by rfl) ?_ hHeld ?_
  rotate_left
  · intro w hSw
    try dsimp only at hSw
    go_simp <;> with_reducible rfl
  try simp only [Act.put, List.setIfInBounds_toArray, List.set_cons_zero, List.set_cons_succ]
  refine wpAnyH_ready (rs := [6]) (by kernel_rfl) (by simp) ?_
  refine AllReadyH.cons rfl (fun K hK => ?_) AllReadyH.nil
  go_simp
  refine (Below_calls (T1.out.below H1.out) (T2.out.below H1.out)).mono ?_
  rw [BC.out]
  rintro e w6 ⟨rfl, hB⟩
  have H2 := Aside0.mk (below_then H1.out (H1.out).size hB)
  clear hB
  refine hK.out _ _ (OK.out _ H2.out) (fun hHeld => ?_)
  clear hK K
  try simp only [Act.put, List.setIfInBounds_toArray, List.set_cons_zero, List.set_cons_succ]
  refine takeH (d := some 38) (v := ?_) 7 rfl rfl (by kernel_rfl) (by kernel_rfl) (by kernel_rfl) (fun _ _ _ h => h) (by rfl) ?_ hHeld ?_
  rotate_left
  · intro w hSw
    try dsimp only at hSw
    go_simp <;> with_reducible rfl
  try simp only [Act.put, List.setIfInBounds_toArray, List.set_cons_zero, List.set_cons_succ]
  refine takeH (d := some 39) (v := ?_) 8 rfl rfl (by kernel_rfl) (by kernel_rfl) (by kernel_rfl) (fun _ _ _ h => h) (by rfl) ?_ hHeld ?_
  rotate_left
  · intro w hSw
    try dsimp only at hSw
    go_simp <;> with_reducible rfl
  try simp only [Act.put, List.setIfInBounds_toArray, List.set_cons_zero, List.set_cons_succ]
  refine takeH (d := some 40) (v := ?_) 9 rfl rfl (by kernel_rfl) (by kernel_rfl) (by kernel_rfl) (fun _ _ _ h => h) (by rfl) ?_ hHeld ?_
  rotate_left
  · intro w hSw
    try dsimp only at hSw
    go_simp <;> with_reducible rfl
  try simp only [Act.put, List.setIfInBounds_toArray, List.set_cons_zero, List.set_cons_succ]
  refine takeH (d := some 41) (v := ?_) 10 rfl rfl (by kernel_rfl) (by kernel_rfl) (by kernel_rfl) (fun _ _ _ h => h) (by rfl) ?_ hHeld ?_
  rotate_left
  · intro w hSw
    try dsimp only at hSw
    go_simp <;> with_reducible rfl
  try simp only [Act.put, List.setIfInBounds_toArray, List.set_cons_zero, List.set_cons_succ]
  refine wpAnyH_ready (rs := [11]) (by kernel_rfl) (by simp) ?_
  refine AllReadyH.cons rfl (fun K hK => ?_) AllReadyH.nil
  go_simp
  refine (Below_calls (T0.out.below H2.out) (T2.out.below H2.out)).mono ?_
  rw [AC.out]
  rintro e w7 ⟨rfl, hB⟩
  have H3 := Aside0.mk (below_then H2.out (H2.out).size hB)
  clear hB
  refine hK.out _ _ (OK.out _ H3.out) (fun hHeld => ?_)
  clear hK K
  try simp only [Act.put, List.setIfInBounds_toArray, List.set_cons_zero, List.set_cons_succ]
  refine takeH (d := some 43) (v := ?_) 12 rfl rfl (by kernel_rfl) (by kernel_rfl) (by kernel_rfl) (fun _ _ _ h => h) (by rfl) ?_ hHeld ?_
  rotate_left
  · intro w hSw
    try dsimp only at hSw
    go_simp <;> with_reducible rfl
  try simp only [Act.put, List.setIfInBounds_toArray, List.set_cons_zero, List.set_cons_succ]
  refine takeH (d := some 44) (v := ?_) 13 rfl rfl (by kernel_rfl) (by kernel_rfl) (by kernel_rfl) (fun _ _ _ h => h) (by rfl) ?_ hHeld ?_
  rotate_left
  · intro w hSw
    try dsimp only at hSw
    go_simp <;> with_reducible rfl
  try simp only [Act.put, List.setIfInBounds_toArray, List.set_cons_zero, List.set_cons_succ]
  refine takeH (d := some 45) (v := ?_) 14 rfl rfl (by kernel_rfl) (by kernel_rfl) (by kernel_rfl) (fun _ _ _ h => h) (by rfl) ?_ hHeld ?_
  rotate_left
  · intro w hSw
    try dsimp only at hSw
    go_simp <;> with_reducible rfl
  try simp only [Act.put, List.setIfInBounds_toArray, List.set_cons_zero, List.set_cons_succ]
  refine takeH (d := some 46) (v := ?_) 15 rfl rfl (by kernel_rfl) (by kernel_rfl) (by kernel_rfl) (fun _ _ _ h => h) (by rfl) ?_ hHeld ?_
  rotate_left
  · intro w hSw
    try dsimp only at hSw
    go_simp <;> with_reducible rfl
  try simp only [Act.put, List.setIfInBounds_toArray, List.set_cons_zero, List.set_cons_succ]
  refine takeH (d := some 47) (v := ?_) 16 rfl rfl (by kernel_rfl) (by kernel_rfl) (by kernel_rfl) (fun _ _ _ h => h) (by rfl) ?_ hHeld ?_
  rotate_left
  · intro w hSw
    try dsimp only at hSw
    go_simp <;> with_reducible rfl
  try simp only [Act.put, List.setIfInBounds_toArray, List.set_cons_zero, List.set_cons_succ]
  refine wpAnyH_ready (rs := [17]) (by kernel_rfl) (by simp) ?_
  refine AllReadyH.cons rfl (fun K hK => ?_) AllReadyH.nil
  go_simp
  refine (Below_calls (T0.out.below H3.out) (T1.out.below H3.out)).mono ?_
  rw [AB.out]
  rintro e w8 ⟨rfl, hB⟩
  have H4 := Aside0.mk (below_then H3.out (H3.out).size hB)
  clear hB
  refine hK.out _ _ (OK.out _ H4.out) (fun hHeld => ?_)
  clear hK K
  try simp only [Act.put, List.setIfInBounds_toArray, List.set_cons_zero, List.set_cons_succ]
  refine takeH (d := some 49) (v := ?_) 18 rfl rfl (by kernel_rfl) (by kernel_rfl) (by kernel_rfl) (fun _ _ _ h => h) (by rfl) ?_ hHeld ?_
  rotate_left
  · intro w hSw
    try dsimp only at hSw
    go_simp <;> with_reducible rfl
  try simp only [Act.put, List.setIfInBounds_toArray, List.set_cons_zero, List.set_cons_succ]
  refine takeH (d := some 50) (v := ?_) 19 rfl rfl (by kernel_rfl) (by kernel_rfl) (by kernel_rfl) (fun _ _ _ h => h) (by rfl) ?_ hHeld ?_
  rotate_left
  · intro w hSw
    try dsimp only at hSw
    go_simp <;> with_reducible rfl
  try simp only [Act.put, List.setIfInBounds_toArray, List.set_cons_zero, List.set_cons_succ]
  refine takeH (d := some 51) (v := ?_) 20 rfl rfl (by kernel_rfl) (by kernel_rfl) (by kernel_rfl) (fun _ _ _ h => h) (by rfl) ?_ hHeld ?_
  rotate_left
  · intro w hSw
    try dsimp only at hSw
    go_simp <;> with_reducible rfl
  try simp only [Act.put, List.setIfInBounds_toArray, List.set_cons_zero, List.set_cons_succ]
  refine takeH (d := some 53) (v := ?_) 22 rfl rfl (by kernel_rfl) (by kernel_rfl) (by kernel_rfl) (fun _ _ _ h => h) (by rfl) ?_ hHeld ?_
  rotate_left
  · intro w hSw
    try dsimp only at hSw
    go_simp <;> with_reducible rfl
  try simp only [Act.put, List.setIfInBounds_toArray, List.set_cons_zero, List.set_cons_succ]
  refine takeH (d := some 54) (v := ?_) 23 rfl rfl (by kernel_rfl) (by kernel_rfl) (by kernel_rfl) (fun _ _ _ h => h) (by rfl) ?_ hHeld ?_
  rotate_left
  · intro w hSw
    try dsimp only at hSw
    go_simp <;> with_reducible rfl
  try simp only [Act.put, List.setIfInBounds_toArray, List.set_cons_zero, List.set_cons_succ]
  refine wpAnyH_ready (rs := [21]) (by kernel_rfl) (by simp) ?_
  refine AllReadyH.cons rfl (fun K hK => ?_) AllReadyH.nil
  go_simp
  refine (Below_calls (T1.out.below H4.out) (T0.out.below H4.out)).mono ?_
  rw [BA.out]
  rintro e w9 ⟨rfl, hB⟩
  have H5 := Aside0.mk (below_then H4.out (H4.out).size hB)
  clear hB
  refine hK.out _ _ (OK.out _ H5.out) (fun hHeld => ?_)
  clear hK K
  try simp only [Act.put, List.setIfInBounds_toArray, List.set_cons_zero, List.set_cons_succ]
  refine wpAnyH_ready (rs := [24]) (by kernel_rfl) (by simp) ?_
  refine AllReadyH.cons rfl (fun K hK => ?_) AllReadyH.nil
  go_simp
  refine (Same_calls (T0.out.below H5.out) (T1.out.below H5.out)).mono ?_
  rw [SA.out]
  rintro e w10 ⟨rfl, hB⟩
  have H6 := Aside0.mk (below_then H5.out (H5.out).size hB)
  clear hB
  refine hK.out _ _ (OK.out _ H6.out) (fun hHeld => ?_)
  clear hK K
  try simp only [Act.put, List.setIfInBounds_toArray, List.set_cons_zero, List.set_cons_succ]
  refine takeH (d := some 56) (v := ?_) 25 rfl rfl (by kernel_rfl) (by kernel_rfl) (by kernel_rfl) (fun _ _ _ h => h) (by rfl) ?_ hHeld ?_
  rotate_left
  · intro w hSw
    try dsimp only at hSw
    go_simp <;> with_reducible rfl
  try simp only [Act.put, List.setIfInBounds_toArray, List.set_cons_zero, List.set_cons_succ]
  refine takeH (d := some 57) (v := ?_) 26 rfl rfl (by kernel_rfl) (by kernel_rfl) (by kernel_rfl) (fun _ _ _ h => h) (by rfl) ?_ hHeld ?_
  rotate_left
  · intro w hSw
    try dsimp only at hSw
    go_simp <;> with_reducible rfl
  try simp only [Act.put, List.setIfInBounds_toArray, List.set_cons_zero, List.set_cons_succ]
  refine takeH (d := some 58) (v := ?_) 27 rfl rfl (by kernel_rfl) (by kernel_rfl) (by kernel_rfl) (fun _ _ _ h => h) (by rfl) ?_ hHeld ?_
  rotate_left
  · intro w hSw
    try dsimp only at hSw
    go_simp <;> with_reducible rfl
  try simp only [Act.put, List.setIfInBounds_toArray, List.set_cons_zero, List.set_cons_succ]
  refine wpAnyH_done (by kernel_rfl) ?_ _
  go_wp2_with fail
  replace K1 := Aside0.mk (blk_below K1.out H6.out)
  replace K2 := Aside0.mk (blk_below K2.out H6.out)
  replace K3 := Aside0.mk (blk_below K3.out H6.out)
  replace T0 := Aside0.mk (IsT.below T0.out H6.out)
  replace T1 := Aside0.mk (IsT.below T1.out H6.out)
  replace T2 := Aside0.mk (IsT.below T2.out H6.out)
  replace HB := Aside0.mk (below_then HB.out HB.out.size H6.out)
  clear OK HBW
  obtain ⟨e10, e11⟩ := c26_of K1.out (Below.refl _ _)
  obtain ⟨e20, e21⟩ := c26_of K2.out (Below.refl _ _)
  obtain ⟨e30, e31⟩ := c26_of K3.out (Below.refl _ _)
  have q1 := blk_lt K1.out
  have q2 := blk_lt K2.out
  have q3 := blk_lt K3.out
  go_wp2_with fail
  refine (Known_calls T0.out).mono ?_
  rw [KA.out]
  rintro e w11 ⟨rfl, hB⟩
  replace K1 := Aside0.mk (blk_below K1.out hB)
  replace K2 := Aside0.mk (blk_below K2.out hB)
  replace K3 := Aside0.mk (blk_below K3.out hB)
  replace T0 := Aside0.mk (IsT.below T0.out hB)
  replace T1 := Aside0.mk (IsT.below T1.out hB)
  replace T2 := Aside0.mk (IsT.below T2.out hB)
  replace HB := Aside0.mk (below_then HB.out HB.out.size hB)
  clear hB e10 e11 e20 e21 e30 e31 q1 q2 q3
  obtain ⟨e10, e11⟩ := c26_of K1.out (Below.refl _ _)
  obtain ⟨e20, e21⟩ := c26_of K2.out (Below.refl _ _)
  obtain ⟨e30, e31⟩ := c26_of K3.out (Below.refl _ _)
  have q1 := blk_lt K1.out
  have q2 := blk_lt K2.out
  have q3 := blk_lt K3.out
  go_wp2_with fail
  refine (wakes8_calls _).mono ?_
  rintro e wE ⟨rfl, hB⟩
  replace HB := Aside0.mk (below_then HB.out HB.out.size hB)
  clear hB e10 e11 e20 e21 e30 e31 q1 q2 q3
  go_wp2_with fail
  go_ret
  exact ⟨rfl, HB.out⟩
set_option maxRecDepth 100000 in
set_option maxHeartbeats 3200000 in
theorem orders_ab_bc_ka (a b c : S26) (w : World) (A : Option Addr) (ca : Nat) (B : Option Addr) (cb : Nat) (C : Option Addr) (cc : Nat) (T0 : Aside0 (IsT w (.agg #[.int .i8 a.f0, .slice A a.f1.length ca]) a)) (T1 : Aside0 (IsT w (.agg #[.int .i8 b.f0, .slice B b.f1.length cb]) b)) (T2 : Aside0 (IsT w (.agg #[.int .i8 c.f0, .slice C c.f1.length cc]) c))
    (ck : Int) (ok s : Bool) (CK : Aside0 (checkI a = ck)) (dk : (ck == 0) = ok) (RF0 : Aside0 (relB 0 a a = ok)) (RF1 : Aside0 (relB 1 a a = ok)) (RF2 : Aside0 (relB 2 a a = ok)) (SA : Aside0 (sameB a b = s)) (AB : Aside0 (relB 0 a b = true)) (BC : Aside0 (relB 0 b c = true)) (BA : Aside0 (relB 0 b a = s)) (AC : Aside0 (relB 0 a c = true)) (KA : Aside0 (knownB a = true)) (KB : Aside0 (knownB b = false)) :
    Calls Try.prog 15 #[.agg #[.int .i8 a.f0, .slice A a.f1.length ca], .agg #[.int .i8 b.f0, .slice B b.f1.length cb], .agg #[.int .i8 c.f0, .slice C c.f1.length cc]] w fun e w' => e = .returned (.bool true) ∧ Below w.heap.size w w' := by
  go_enter Try.func15, Try.ntmps15
  go_wp2_with fail
  refine (Check_calls (T0.out.below (below3 ..))).mono ?_
  rw [CK.out]
  rintro e w1 ⟨rfl, hB⟩
  obtain ⟨b1, b2, b3, hB1⟩ := three_blocks hB
  have K1 := Aside0.mk b1
  have K2 := Aside0.mk b2
  have K3 := Aside0.mk b3
  have HB := Aside0.mk hB1
  replace T0 := Aside0.mk (IsT.below T0.out hB1)
  replace T1 := Aside0.mk (IsT.below T1.out hB1)
  replace T2 := Aside0.mk (IsT.below T2.out hB1)
  clear hB hB1 b1 b2 b3
  obtain ⟨e10, e11⟩ := c26_of K1.out (Below.refl _ _)
  obtain ⟨e20, e21⟩ := c26_of K2.out (Below.refl _ _)
  obtain ⟨e30, e31⟩ := c26_of K3.out (Below.refl _ _)
  have q1 := blk_lt K1.out
  have q2 := blk_lt K2.out
  have q3 := blk_lt K3.out
  go_wp2_with fail
  refine (Below_calls T0.out T0.out).mono ?_
  rw [RF0.out]
  rintro e w2 ⟨rfl, hB⟩
  replace K1 := Aside0.mk (blk_below K1.out hB)
  replace K2 := Aside0.mk (blk_below K2.out hB)
  replace K3 := Aside0.mk (blk_below K3.out hB)
  replace T0 := Aside0.mk (IsT.below T0.out hB)
  replace T1 := Aside0.mk (IsT.below T1.out hB)
  replace T2 := Aside0.mk (IsT.below T2.out hB)
  replace HB := Aside0.mk (below_then HB.out HB.out.size hB)
  clear hB e10 e11 e20 e21 e30 e31 q1 q2 q3
  obtain ⟨e10, e11⟩ := c26_of K1.out (Below.refl _ _)
  obtain ⟨e20, e21⟩ := c26_of K2.out (Below.refl _ _)
  obtain ⟨e30, e31⟩ := c26_of K3.out (Below.refl _ _)
  have q1 := blk_lt K1.out
  have q2 := blk_lt K2.out
  have q3 := blk_lt K3.out
  go_wp2_with fail
  refine (Pos_calls T0.out T0.out).mono ?_
  rw [RF1.out]
  rintro e w3 ⟨rfl, hB⟩
  replace K1 := Aside0.mk (blk_below K1.out hB)
  replace K2 := Aside0.mk (blk_below K2.out hB)
  replace K3 := Aside0.mk (blk_below K3.out hB)
  replace T0 := Aside0.mk (IsT.below T0.out hB)
  replace T1 := Aside0.mk (IsT.below T1.out hB)
  replace T2 := Aside0.mk (IsT.below T2.out hB)
  replace HB := Aside0.mk (below_then HB.out HB.out.size hB)
  clear hB e10 e11 e20 e21 e30 e31 q1 q2 q3
  obtain ⟨e10, e11⟩ := c26_of K1.out (Below.refl _ _)
  obtain ⟨e20, e21⟩ := c26_of K2.out (Below.refl _ _)
  obtain ⟨e30, e31⟩ := c26_of K3.out (Below.refl _ _)
  have q1 := blk_lt K1.out
  have q2 := blk_lt K2.out
  have q3 := blk_lt K3.out
  go_wp2_with fail
  refine (Neg_calls T0.out T0.out).mono ?_
  rw [RF2.out]
  rintro e w4 ⟨rfl, hB⟩
  replace K1 := Aside0.mk (blk_below K1.out hB)
  replace K2 := Aside0.mk (blk_below K2.out hB)
  replace K3 := Aside0.mk (blk_below K3.out hB)
  replace T0 := Aside0.mk (IsT.below T0.out hB)
  replace T1 := Aside0.mk (IsT.below T1.out hB)
  replace T2 := Aside0.mk (IsT.below T2.out hB)
  replace HB := Aside0.mk (below_then HB.out HB.out.size hB)
  clear hB e10 e11 e20 e21 e30 e31 q1 q2 q3
  obtain ⟨e10, e11⟩ := c26_of K1.out (Below.refl _ _)
  obtain ⟨e20, e21⟩ := c26_of K2.out (Below.refl _ _)
  obtain ⟨e30, e31⟩ := c26_of K3.out (Below.refl _ _)
  have q1 := blk_lt K1.out
  have q2 := blk_lt K2.out
  have q3 := blk_lt K3.out
  go_wp2_with fail
  have OK := Aside0.mk (fun w' (h : Below w4.heap.size w4 w') => (⟨c26_of K1.out h, c26_of K2.out h, c26_of K3.out h⟩ : ((w'.cell? ⟨w.heap.size, 0, none⟩ = some (.int .i8 a.f0) ∧ w'.cell? ⟨w.heap.size, 1, none⟩ = some (.slice A a.f1.length ca)) ∧ (w'.cell? ⟨(w.heap.size + 1), 0, none⟩ = some (.int .i8 b.f0) ∧ w'.cell? ⟨(w.heap.size + 1), 1, none⟩ = some (.slice B b.f1.length cb)) ∧ (w'.cell? ⟨(w.heap.size + 1 + 1), 0, none⟩ = some (.int .i8 c.f0) ∧ w'.cell? ⟨(w.heap.size + 1 + 1), 1, none⟩ = some (.slice C c.f1.length cc)))))
  have HBW := Aside0.mk (Below.refl w4.heap.size w4)
  clear e10 e11 e20 e21 e30 e31 q1 q2 q3
  refine wp_region_held_drew (S := (fun w' => ((w'.cell? ⟨w.heap.size, 0, none⟩ = some (.int .i8 a.f0) ∧ w'.cell? ⟨w.heap.size, 1, none⟩ = some (.slice A a.f1.length ca)) ∧ (w'.cell? ⟨(w.heap.size + 1), 0, none⟩ = some (.int .i8 b.f0) ∧ w'.cell? ⟨(w.heap.size + 1), 1, none⟩ = some (.slice B b.f1.length cb)) ∧ (w'.cell? ⟨(w.heap.size + 1 + 1), 0, none⟩ = some (.int .i8 c.f0) ∧ w'.cell? ⟨(w.heap.size + 1 + 1), 1, none⟩ = some (.slice C c.f1.length cc))))) (by kernel_rfl) (OK.out _ HBW.out.drew) (fun hHeld => ?_)
  refine takeH (d := some 31) (v := ?_) 0 rfl rfl (by kernel_rfl) (by kernel_rfl) (by kernel_rfl) (fun _ _ _ h => h) (by rfl) ?_ hHeld ?_
  rotate_left
  · intro w hSw
    try dsimp only at hSw
    go_simp <;> with_reducible rfl
  try simp only [Act.put, List.setIfInBounds_toArray, List.set_cons_zero, List.set_cons_succ]
  refine takeH (d := some 32) (v := ?_) 1 rfl rfl (by kernel_rfl) (by kernel_rfl) (by kernel_rfl) (fun _ _ _ h => h) (by rfl) ?_ hHeld ?_
  rotate_left
  · intro w hSw
    try dsimp only at hSw
    go_simp <;> with_reducible rfl
  try simp only [Act.put, List.setIfInBounds_toArray, List.set_cons_zero, List.set_cons_succ]
  refine wpAnyH_ready (rs := [2]) (by kernel_rfl) (by simp) ?_
  refine AllReadyH.cons rfl (fun K hK => ?_) AllReadyH.nil
  go_simp
  refine (Below_calls (T0.out.below HBW.out.drew) (T1.out.below HBW.out.drew)).mono ?_
  rw [AB.out]
  rintro e w5 ⟨rfl, hB⟩
  have H1 := Aside0.mk (below_then HBW.out.drew (HBW.out.drew).size hB)
  clear hB
  refine hK.out _ _ (OK.out _ H1.out) (fun hHeld => ?_)
  clear hK K
  try simp only [Act.put, List.setIfInBounds_toArray, List.set_cons_zero, List.set_cons_succ]
  refine takeH (d := some 34) (v := ?_) 3 rfl rfl (by kernel_rfl) (by kernel_rfl) (by kernel_rfl) (fun _ _ _ h => h) (by rfl) ?_ hHeld ?_
  rotate_left
  · intro w hSw
    try dsimp only at hSw
    go_simp <;> with_reducible rfl
  try simp only [Act.put, List.setIfInBounds_toArray, List.set_cons_zero, List.set_cons_succ]
  refine takeH (d := some 35) (v := ?_) 4 rfl rfl (by kernel_rfl) (by kernel_rfl) (by kernel_rfl) (fun _ _ _ h => h) (by rfl) ?_ hHeld ?_
  rotate_left
  · intro w hSw
    try dsimp only at hSw
    go_simp <;> with_reducible rfl
  try simp only [Act.put, List.setIfInBounds_toArray, List.set_cons_zero, List.set_cons_succ]
  refine takeH (d := some 36) (v := ?_) 5 rfl rfl (by kernel_rfl) (by kernel_rfl) (by kernel_rfl) (fun _ _ _ h => h) (by rfl) ?_ hHeld ?_
  rotate_left
  · intro w hSw
    try dsimp only at hSw
    go_simp <;> with_reducible rfl
  try simp only [Act.put, List.setIfInBounds_toArray, List.set_cons_zero, List.set_cons_succ]
  refine wpAnyH_ready (rs := [6]) (by kernel_rfl) (by simp) ?_
  refine AllReadyH.cons rfl (fun K hK => ?_) AllReadyH.nil
  go_simp
  refine (Below_calls (T1.out.below H1.out) (T2.out.below H1.out)).mono ?_
  rw [BC.out]
  rintro e w6 ⟨rfl, hB⟩
  have H2 := Aside0.mk (below_then H1.out (H1.out).size hB)
  clear hB
  refine hK.out _ _ (OK.out _ H2.out) (fun hHeld => ?_)
  clear hK K
  try simp only [Act.put, List.setIfInBounds_toArray, List.set_cons_zero, List.set_cons_succ]
  refine takeH (d := some 38) (v := ?_) 7 rfl rfl (by kernel_rfl) (by kernel_rfl) (by kernel_rfl) (fun _ _ _ h => h) (by rfl) ?_ hHeld ?_
  rotate_left
  · intro w hSw
    try dsimp only at hSw
    go_simp <;> with_reducible rfl
  try simp only [Act.put, List.setIfInBounds_toArray, List.set_cons_zero, List.set_cons_succ]
  refine takeH (d := some 39) (v := ?_) 8 rfl rfl (by kernel_rfl) (by kernel_rfl) (by kernel_rfl) (fun _ _ _ h => h) (by rfl) ?_ hHeld ?_
  rotate_left
  · intro w hSw
    try dsimp only at hSw
    go_simp <;> with_reducible rfl
  try simp only [Act.put, List.setIfInBounds_toArray, List.set_cons_zero, List.set_cons_succ]
  refine takeH (d := some 40) (v := ?_) 9 rfl rfl (by kernel_rfl) (by kernel_rfl) (by kernel_rfl) (fun _ _ _ h => h) (by rfl) ?_ hHeld ?_
  rotate_left
  · intro w hSw
    try dsimp only at hSw
    go_simp <;> with_reducible rfl
  try simp only [Act.put, List.setIfInBounds_toArray, List.set_cons_zero, List.set_cons_succ]
  refine takeH (d := some 41) (v := ?_) 10 rfl rfl (by kernel_rfl) (by kernel_rfl) (by kernel_rfl) (fun _ _ _ h => h) (by rfl) ?_ hHeld ?_
  rotate_left
  · intro w hSw
    try dsimp only at hSw
    go_simp <;> with_reducible rfl
  try simp only [Act.put, List.setIfInBounds_toArray, List.set_cons_zero, List.set_cons_succ]
  refine wpAnyH_ready (rs := [11]) (by kernel_rfl) (by simp) ?_
  refine AllReadyH.cons rfl (fun K hK => ?_) AllReadyH.nil
  go_simp
  refine (Below_calls (T0.out.below H2.out) (T2.out.below H2.out)).mono ?_
  rw [AC.out]
  rintro e w7 ⟨rfl, hB⟩
  have H3 := Aside0.mk (below_then H2.out (H2.out).size hB)
  clear hB
  refine hK.out _ _ (OK.out _ H3.out) (fun hHeld => ?_)
  clear hK K
  try simp only [Act.put, List.setIfInBounds_toArray, List.set_cons_zero, List.set_cons_succ]
  refine takeH (d := some 43) (v := ?_) 12 rfl rfl (by kernel_rfl) (by kernel_rfl) (by kernel_rfl) (fun _ _ _ h => h) (by rfl) ?_ hHeld ?_
  rotate_left
  · intro w hSw
    try dsimp only at hSw
    go_simp <;> with_reducible rfl
  try simp only [Act.put, List.setIfInBounds_toArray, List.set_cons_zero, List.set_cons_succ]
  refine takeH (d := some 44) (v := ?_) 13 rfl rfl (by kernel_rfl) (by kernel_rfl) (by kernel_rfl) (fun _ _ _ h => h) (by rfl) ?_ hHeld ?_
  rotate_left
  · intro w hSw
    try dsimp only at hSw
    go_simp <;> with_reducible rfl
  try simp only [Act.put, List.setIfInBounds_toArray, List.set_cons_zero, List.set_cons_succ]
  refine takeH (d := some 45) (v := ?_) 14 rfl rfl (by kernel_rfl) (by kernel_rfl) (by kernel_rfl) (fun _ _ _ h => h) (by rfl) ?_ hHeld ?_
  rotate_left
  · intro w hSw
    try dsimp only at hSw
    go_simp <;> with_reducible rfl
  try simp only [Act.put, List.setIfInBounds_toArray, List.set_cons_zero, List.set_cons_succ]
  refine takeH (d := some 46) (v := ?_) 15 rfl rfl (by kernel_rfl) (by kernel_rfl) (by kernel_rfl) (fun _ _ _ h => h) (by rfl) ?_ hHeld ?_
  rotate_left
  · intro w hSw
    try dsimp only at hSw
    go_simp <;> with_reducible rfl
  try simp only [Act.put, List.setIfInBounds_toArray, List.set_cons_zero, List.set_cons_succ]
  refine takeH (d := some 47) (v := ?_) 16 rfl rfl (by kernel_rfl) (by kernel_rfl) (by kernel_rfl) (fun _ _ _ h => h) (by rfl) ?_ hHeld ?_
  rotate_left
  · intro w hSw
    try dsimp only at hSw
    go_simp <;> with_reducible rfl
  try simp only [Act.put, List.setIfInBounds_toArray, List.set_cons_zero, List.set_cons_succ]
  refine wpAnyH_ready (rs := [17]) (by kernel_rfl) (by simp) ?_
  refine AllReadyH.cons rfl (fun K hK => ?_) AllReadyH.nil
  go_simp
  refine (Below_calls (T0.out.below H3.out) (T1.out.below H3.out)).mono ?_
  rw [AB.out]
  rintro e w8 ⟨rfl, hB⟩
  have H4 := Aside0.mk (below_then H3.out (H3.out).size hB)
  clear hB
  refine hK.out _ _ (OK.out _ H4.out) (fun hHeld => ?_)
  clear hK K
  try simp only [Act.put, List.setIfInBounds_toArray, List.set_cons_zero, List.set_cons_succ]
  refine takeH (d := some 49) (v := ?_) 18 rfl rfl (by kernel_rfl) (by kernel_rfl) (by kernel_rfl) (fun _ _ _ h => h) (by rfl) ?_ hHeld ?_
  rotate_left
  · intro w hSw
    try dsimp only at hSw
    go_simp <;> with_reducible rfl
  try simp only [Act.put, List.setIfInBounds_toArray, List.set_cons_zero, List.set_cons_succ]
  refine takeH (d := some 50) (v := ?_) 19 rfl rfl (by kernel_rfl) (by kernel_rfl) (by kernel_rfl) (fun _ _ _ h => h) (by rfl) ?_ hHeld ?_
  rotate_left
  · intro w hSw
    try dsimp only at hSw
    go_simp <;> with_reducible rfl
  try simp only [Act.put, List.setIfInBounds_toArray, List.set_cons_zero, List.set_cons_succ]
  refine takeH (d := some 51) (v := ?_) 20 rfl rfl (by kernel_rfl) (by kernel_rfl) (by kernel_rfl) (fun _ _ _ h => h) (by rfl) ?_ hHeld ?_
  rotate_left
  · intro w hSw
    try dsimp only at hSw
    go_simp <;> with_reducible rfl
  try simp only [Act.put, List.setIfInBounds_toArray, List.set_cons_zero, List.set_cons_succ]
  refine takeH (d := some 53) (v := ?_) 22 rfl rfl (by kernel_rfl) (by kernel_rfl) (by kernel_rfl) (fun _ _ _ h => h) (by rfl) ?_ hHeld ?_
  rotate_left
  · intro w hSw
    try dsimp only at hSw
    go_simp <;> with_reducible rfl
  try simp only [Act.put, List.setIfInBounds_toArray, List.set_cons_zero, List.set_cons_succ]
  refine takeH (d := some 54) (v := ?_) 23 rfl rfl (by kernel_rfl) (by kernel_rfl) (by kernel_rfl) (fun _ _ _ h => h) (by rfl) ?_ hHeld ?_
  rotate_left
  · intro w hSw
    try dsimp only at hSw
    go_simp <;> with_reducible rfl
  try simp only [Act.put, List.setIfInBounds_toArray, List.set_cons_zero, List.set_cons_succ]
  refine wpAnyH_ready (rs := [21]) (by kernel_rfl) (by simp) ?_
  refine AllReadyH.cons rfl (fun K hK => ?_) AllReadyH.nil
  go_simp
  refine (Below_calls (T1.out.below H4.out) (T0.out.below H4.out)).mono ?_
  rw [BA.out]
  rintro e w9 ⟨rfl, hB⟩
  have H5 := Aside0.mk (below_then H4.out (H4.out).size hB)
  clear hB
  refine hK.out _ _ (OK.out _ H5.out) (fun hHeld => ?_)
  clear hK K
  try simp only [Act.put, List.setIfInBounds_toArray, List.set_cons_zero, List.set_cons_succ]
  refine wpAnyH_ready (rs := [24]) (by kernel_rfl) (by simp) ?_
  refine AllReadyH.cons rfl (fun K hK => ?_) AllReadyH.nil
  go_simp
  refine (Same_calls (T0.out.below H5.out) (T1.out.below H5.out)).mono ?_
  rw [SA.out]
  rintro e w10 ⟨rfl, hB⟩
  have H6 := Aside0.mk (below_then H5.out (H5.out).size hB)
  clear hB
  refine hK.out _ _ (OK.out _ H6.out) (fun hHeld => ?_)
  clear hK K
  try simp only [Act.put, List.setIfInBounds_toArray, List.set_cons_zero, List.set_cons_succ]
  refine takeH (d := some 56) (v := ?_) 25 rfl rfl (by kernel_rfl) (by kernel_rfl) (by kernel_rfl) (fun _ _ _ h => h) (by rfl) ?_ hHeld ?_
  rotate_left
  · intro w hSw
    try dsimp only at hSw
    go_simp <;> with_reducible rfl
  try simp only [Act.put, List.setIfInBounds_toArray, List.set_cons_zero, List.set_cons_succ]
  refine takeH (d := some 57) (v := ?_) 26 rfl rfl (by kernel_rfl) (by kernel_rfl) (by kernel_rfl) (fun _ _ _ h => h) (by rfl) ?_ hHeld ?_
  rotate_left
  · intro w hSw
    try dsimp only at hSw
    go_simp <;> with_reducible rfl
  try simp only [Act.put, List.setIfInBounds_toArray, List.set_cons_zero, List.set_cons_succ]
  refine takeH (d := some 58) (v := ?_) 27 rfl rfl (by kernel_rfl) (by kernel_rfl) (by kernel_rfl) (fun _ _ _ h => h) (by rfl) ?_ hHeld ?_
  rotate_left
  · intro w hSw
    try dsimp only at hSw
    go_simp <;> with_reducible rfl
  try simp only [Act.put, List.setIfInBounds_toArray, List.set_cons_zero, List.set_cons_succ]
  refine wpAnyH_done (by kernel_rfl) ?_ _
  go_wp2_with fail
  replace K1 := Aside0.mk (blk_below K1.out H6.out)
  replace K2 := Aside0.mk (blk_below K2.out H6.out)
  replace K3 := Aside0.mk (blk_below K3.out H6.out)
  replace T0 := Aside0.mk (IsT.below T0.out H6.out)
  replace T1 := Aside0.mk (IsT.below T1.out H6.out)
  replace T2 := Aside0.mk (IsT.below T2.out H6.out)
  replace HB := Aside0.mk (below_then HB.out HB.out.size H6.out)
  clear OK HBW
  obtain ⟨e10, e11⟩ := c26_of K1.out (Below.refl _ _)
  obtain ⟨e20, e21⟩ := c26_of K2.out (Below.refl _ _)
  obtain ⟨e30, e31⟩ := c26_of K3.out (Below.refl _ _)
  have q1 := blk_lt K1.out
  have q2 := blk_lt K2.out
  have q3 := blk_lt K3.out
  go_wp2_with fail
  refine (Known_calls T0.out).mono ?_
  rw [KA.out]
  rintro e w11 ⟨rfl, hB⟩
  replace K1 := Aside0.mk (blk_below K1.out hB)
  replace K2 := Aside0.mk (blk_below K2.out hB)
  replace K3 := Aside0.mk (blk_below K3.out hB)
  replace T0 := Aside0.mk (IsT.below T0.out hB)
  replace T1 := Aside0.mk (IsT.below T1.out hB)
  replace T2 := Aside0.mk (IsT.below T2.out hB)
  replace HB := Aside0.mk (below_then HB.out HB.out.size hB)
  clear hB e10 e11 e20 e21 e30 e31 q1 q2 q3
  obtain ⟨e10, e11⟩ := c26_of K1.out (Below.refl _ _)
  obtain ⟨e20, e21⟩ := c26_of K2.out (Below.refl _ _)
  obtain ⟨e30, e31⟩ := c26_of K3.out (Below.refl _ _)
  have q1 := blk_lt K1.out
  have q2 := blk_lt K2.out
  have q3 := blk_lt K3.out
  go_wp2_with fail
  refine (Known_calls T1.out).mono ?_
  rw [KB.out]
  rintro e w12 ⟨rfl, hB⟩
  replace K1 := Aside0.mk (blk_below K1.out hB)
  replace K2 := Aside0.mk (blk_below K2.out hB)
  replace K3 := Aside0.mk (blk_below K3.out hB)
  replace T0 := Aside0.mk (IsT.below T0.out hB)
  replace T1 := Aside0.mk (IsT.below T1.out hB)
  replace T2 := Aside0.mk (IsT.below T2.out hB)
  replace HB := Aside0.mk (below_then HB.out HB.out.size hB)
  clear hB e10 e11 e20 e21 e30 e31 q1 q2 q3
  obtain ⟨e10, e11⟩ := c26_of K1.out (Below.refl _ _)
  obtain ⟨e20, e21⟩ := c26_of K2.out (Below.refl _ _)
  obtain ⟨e30, e31⟩ := c26_of K3.out (Below.refl _ _)
  have q1 := blk_lt K1.out
  have q2 := blk_lt K2.out
  have q3 := blk_lt K3.out
  go_wp2_with fail
  refine (wakes8_calls _).mono ?_
  rintro e wE ⟨rfl, hB⟩
  replace HB := Aside0.mk (below_then HB.out HB.out.size hB)
  clear hB e10 e11 e20 e21 e30 e31 q1 q2 q3
  go_wp2_with fail
  go_ret
  exact ⟨rfl, HB.out⟩
set_option maxRecDepth 100000 in
set_option maxHeartbeats 3200000 in
theorem orders_ab_bc_ka_kb (a b c : S26) (w : World) (A : Option Addr) (ca : Nat) (B : Option Addr) (cb : Nat) (C : Option Addr) (cc : Nat) (T0 : Aside0 (IsT w (.agg #[.int .i8 a.f0, .slice A a.f1.length ca]) a)) (T1 : Aside0 (IsT w (.agg #[.int .i8 b.f0, .slice B b.f1.length cb]) b)) (T2 : Aside0 (IsT w (.agg #[.int .i8 c.f0, .slice C c.f1.length cc]) c))
    (ck : Int) (ok s : Bool) (CK : Aside0 (checkI a = ck)) (dk : (ck == 0) = ok) (RF0 : Aside0 (relB 0 a a = ok)) (RF1 : Aside0 (relB 1 a a = ok)) (RF2 : Aside0 (relB 2 a a = ok)) (SA : Aside0 (sameB a b = s)) (AB : Aside0 (relB 0 a b = true)) (BC : Aside0 (relB 0 b c = true)) (BA : Aside0 (relB 0 b a = s)) (AC : Aside0 (relB 0 a c = true)) (KA : Aside0 (knownB a = true)) (KB : Aside0 (knownB b = true)) (AS0 : Aside0 (relB 0 a b = s)) (AS1 : Aside0 (relB 1 a b = s)) (AS2 : Aside0 (relB 2 a b = s)) :
    Calls Try.prog 15 #[.agg #[.int .i8 a.f0, .slice A a.f1.length ca], .agg #[.int .i8 b.f0, .slice B b.f1.length cb], .agg #[.int .i8 c.f0, .slice C c.f1.length cc]] w fun e w' => e = .returned (.bool true) ∧ Below w.heap.size w w' := by
  go_enter Try.func15, Try.ntmps15
  go_wp2_with fail
  refine (Check_calls (T0.out.below (below3 ..))).mono ?_
  rw [CK.out]
  rintro e w1 ⟨rfl, hB⟩
  obtain ⟨b1, b2, b3, hB1⟩ := three_blocks hB
  have K1 := Aside0.mk b1
  have K2 := Aside0.mk b2
  have K3 := Aside0.mk b3
  have HB := Aside0.mk hB1
  replace T0 := Aside0.mk (IsT.below T0.out hB1)
  replace T1 := Aside0.mk (IsT.below T1.out hB1)
  replace T2 := Aside0.mk (IsT.below T2.out hB1)
  clear hB hB1 b1 b2 b3
  obtain ⟨e10, e11⟩ := c26_of K1.out (Below.refl _ _)
  obtain ⟨e20, e21⟩ := c26_of K2.out (Below.refl _ _)
  obtain ⟨e30, e31⟩ := c26_of K3.out (Below.refl _ _)
  have q1 := blk_lt K1.out
  have q2 := blk_lt K2.out
  have q3 := blk_lt K3.out
  go_wp2_with fail
  refine (Below_calls T0.out T0.out).mono ?_
  rw [RF0.out]
  rintro e w2 ⟨rfl, hB⟩
  replace K1 := Aside0.mk (blk_below K1.out hB)
  replace K2 := Aside0.mk (blk_below K2.out hB)
  replace K3 := Aside0.mk (blk_below K3.out hB)
  replace T0 := Aside0.mk (IsT.below T0.out hB)
  replace T1 := Aside0.mk (IsT.below T1.out hB)
  replace T2 := Aside0.mk (IsT.below T2.out hB)
  replace HB := Aside0.mk (below_then HB.out HB.out.size hB)
  clear hB e10 e11 e20 e21 e30 e31 q1 q2 q3
  obtain ⟨e10, e11⟩ := c26_of K1.out (Below.refl _ _)
  obtain ⟨e20, e21⟩ := c26_of K2.out (Below.refl _ _)
  obtain ⟨e30, e31⟩ := c26_of K3.out (Below.refl _ _)
  have q1 := blk_lt K1.out
  have q2 := blk_lt K2.out
  have q3 := blk_lt K3.out
  go_wp2_with fail
  refine (Pos_calls T0.out T0.out).mono ?_
  rw [RF1.out]
  rintro e w3 ⟨rfl, hB⟩
  replace K1 := Aside0.mk (blk_below K1.out hB)
  replace K2 := Aside0.mk (blk_below K2.out hB)
  replace K3 := Aside0.mk (blk_below K3.out hB)
  replace T0 := Aside0.mk (IsT.below T0.out hB)
  replace T1 := Aside0.mk (IsT.below T1.out hB)
  replace T2 := Aside0.mk (IsT.below T2.out hB)
  replace HB := Aside0.mk (below_then HB.out HB.out.size hB)
  clear hB e10 e11 e20 e21 e30 e31 q1 q2 q3
  obtain ⟨e10, e11⟩ := c26_of K1.out (Below.refl _ _)
  obtain ⟨e20, e21⟩ := c26_of K2.out (Below.refl _ _)
  obtain ⟨e30, e31⟩ := c26_of K3.out (Below.refl _ _)
  have q1 := blk_lt K1.out
  have q2 := blk_lt K2.out
  have q3 := blk_lt K3.out
  go_wp2_with fail
  refine (Neg_calls T0.out T0.out).mono ?_
  rw [RF2.out]
  rintro e w4 ⟨rfl, hB⟩
  replace K1 := Aside0.mk (blk_below K1.out hB)
  replace K2 := Aside0.mk (blk_below K2.out hB)
  replace K3 := Aside0.mk (blk_below K3.out hB)
  replace T0 := Aside0.mk (IsT.below T0.out hB)
  replace T1 := Aside0.mk (IsT.below T1.out hB)
  replace T2 := Aside0.mk (IsT.below T2.out hB)
  replace HB := Aside0.mk (below_then HB.out HB.out.size hB)
  clear hB e10 e11 e20 e21 e30 e31 q1 q2 q3
  obtain ⟨e10, e11⟩ := c26_of K1.out (Below.refl _ _)
  obtain ⟨e20, e21⟩ := c26_of K2.out (Below.refl _ _)
  obtain ⟨e30, e31⟩ := c26_of K3.out (Below.refl _ _)
  have q1 := blk_lt K1.out
  have q2 := blk_lt K2.out
  have q3 := blk_lt K3.out
  go_wp2_with fail
  have OK := Aside0.mk (fun w' (h : Below w4.heap.size w4 w') => (⟨c26_of K1.out h, c26_of K2.out h, c26_of K3.out h⟩ : ((w'.cell? ⟨w.heap.size, 0, none⟩ = some (.int .i8 a.f0) ∧ w'.cell? ⟨w.heap.size, 1, none⟩ = some (.slice A a.f1.length ca)) ∧ (w'.cell? ⟨(w.heap.size + 1), 0, none⟩ = some (.int .i8 b.f0) ∧ w'.cell? ⟨(w.heap.size + 1), 1, none⟩ = some (.slice B b.f1.length cb)) ∧ (w'.cell? ⟨(w.heap.size + 1 + 1), 0, none⟩ = some (.int .i8 c.f0) ∧ w'.cell? ⟨(w.heap.size + 1 + 1), 1, none⟩ = some (.slice C c.f1.length cc)))))
  have HBW := Aside0.mk (Below.refl w4.heap.size w4)
  clear e10 e11 e20 e21 e30 e31 q1 q2 q3
  refine wp_region_held_drew (S := (fun w' => ((w'.cell? ⟨w.heap.size, 0, none⟩ = some (.int .i8 a.f0) ∧ w'.cell? ⟨w.heap.size, 1, none⟩ = some (.slice A a.f1.length ca)) ∧ (w'.cell? ⟨(w.heap.size + 1), 0, none⟩ = some (.int .i8 b.f0) ∧ w'.cell? ⟨(w.heap.size + 1), 1, none⟩ = some (.slice B b.f1.length cb)) ∧ (w'.cell? ⟨(w.heap.size + 1 + 1), 0, none⟩ = some (.int .i8 c.f0) ∧ w'.cell? ⟨(w.heap.size + 1 + 1), 1, none⟩ = some (.slice C c.f1.length cc))))) (by kernel_rfl) (OK.out _ HBW.out.drew) (fun hHeld => ?_)
  refine takeH (d := some 31) (v := ?_) 0 rfl rfl (by kernel_rfl) (by kernel_rfl) (by kernel_rfl) (fun _ _ _ h => h) (by rfl) ?_ hHeld ?_
  rotate_left
  · intro w hSw
    try dsimp only at hSw
    go_simp <;> with_reducible rfl
  try simp only [Act.put, List.setIfInBounds_toArray, List.set_cons_zero, List.set_cons_succ]
  refine takeH (d := some 32) (v := ?_) 1 rfl rfl (by kernel_rfl) (by kernel_rfl) (by kernel_rfl) (fun _ _ _ h => h) (by rfl) ?_ hHeld ?_
  rotate_left
  · intro w hSw
    try dsimp only at hSw
    go_simp <;> with_reducible rfl
  try simp only [Act.put, List.setIfInBounds_toArray, List.set_cons_zero, List.set_cons_succ]
  refine wpAnyH_ready (rs := [2]) (by kernel_rfl) (by simp) ?_
  refine AllReadyH.cons rfl (fun K hK => ?_) AllReadyH.nil
  go_simp
  refine (Below_calls (T0.out.below HBW.out.drew) (T1.out.below HBW.out.drew)).mono ?_
  rw [AB.out]
  rintro e w5 ⟨rfl, hB⟩
  have H1 := Aside0.mk (below_then HBW.out.drew (HBW.out.drew).size hB)
  clear hB
  refine hK.out _ _ (OK.out _ H1.out) (fun hHeld => ?_)
  clear hK K
  try simp only [Act.put, List.setIfInBounds_toArray, List.set_cons_zero, List.set_cons_succ]
  refine takeH (d := some 34) (v := ?_) 3 rfl rfl (by kernel_rfl) (by kernel_rfl) (by kernel_rfl) (fun _ _ _ h => h) (by rfl) ?_ hHeld ?_
  rotate_left
  · intro w hSw
    try dsimp only at hSw
    go_simp <;> with_reducible rfl
  try simp only [Act.put, List.setIfInBounds_toArray, List.set_cons_zero, List.set_cons_succ]
  refine takeH (d := some 35) (v := ?_) 4 rfl rfl (by kernel_rfl) (by kernel_rfl) (by kernel_rfl) (fun _ _ _ h => h) (by rfl) ?_ hHeld ?_
  rotate_left
  · intro w hSw
    try dsimp only at hSw
    go_simp <;> with_reducible rfl
  try simp only [Act.put, List.setIfInBounds_toArray, List.set_cons_zero, List.set_cons_succ]
  refine takeH (d := some 36) (v := ?_) 5 rfl rfl (by kernel_rfl) (by kernel_rfl) (by kernel_rfl) (fun _ _ _ h => h) (by rfl) ?_ hHeld ?_
  rotate_left
  · intro w hSw
    try dsimp only at hSw
    go_simp <;> with_reducible rfl
  try simp only [Act.put, List.setIfInBounds_toArray, List.set_cons_zero, List.set_cons_succ]
  refine wpAnyH_ready (rs := [6]) (by kernel_rfl) (by simp) ?_
  refine AllReadyH.cons rfl (fun K hK => ?_) AllReadyH.nil
  go_simp
  refine (Below_calls (T1.out.below H1.out) (T2.out.below H1.out)).mono ?_
  rw [BC.out]
  rintro e w6 ⟨rfl, hB⟩
  have H2 := Aside0.mk (below_then H1.out (H1.out).size hB)
  clear hB
  refine hK.out _ _ (OK.out _ H2.out) (fun hHeld => ?_)
  clear hK K
  try simp only [Act.put, List.setIfInBounds_toArray, List.set_cons_zero, List.set_cons_succ]
  refine takeH (d := some 38) (v := ?_) 7 rfl rfl (by kernel_rfl) (by kernel_rfl) (by kernel_rfl) (fun _ _ _ h => h) (by rfl) ?_ hHeld ?_
  rotate_left
  · intro w hSw
    try dsimp only at hSw
    go_simp <;> with_reducible rfl
  try simp only [Act.put, List.setIfInBounds_toArray, List.set_cons_zero, List.set_cons_succ]
  refine takeH (d := some 39) (v := ?_) 8 rfl rfl (by kernel_rfl) (by kernel_rfl) (by kernel_rfl) (fun _ _ _ h => h) (by rfl) ?_ hHeld ?_
  rotate_left
  · intro w hSw
    try dsimp only at hSw
    go_simp <;> with_reducible rfl
  try simp only [Act.put, List.setIfInBounds_toArray, List.set_cons_zero, List.set_cons_succ]
  refine takeH (d := some 40) (v := ?_) 9 rfl rfl (by kernel_rfl) (by kernel_rfl) (by kernel_rfl) (fun _ _ _ h => h) (by rfl) ?_ hHeld ?_
  rotate_left
  · intro w hSw
    try dsimp only at hSw
    go_simp <;> with_reducible rfl
  try simp only [Act.put, List.setIfInBounds_toArray, List.set_cons_zero, List.set_cons_succ]
  refine takeH (d := some 41) (v := ?_) 10 rfl rfl (by kernel_rfl) (by kernel_rfl) (by kernel_rfl) (fun _ _ _ h => h) (by rfl) ?_ hHeld ?_
  rotate_left
  · intro w hSw
    try dsimp only at hSw
    go_simp <;> with_reducible rfl
  try simp only [Act.put, List.setIfInBounds_toArray, List.set_cons_zero, List.set_cons_succ]
  refine wpAnyH_ready (rs := [11]) (by kernel_rfl) (by simp) ?_
  refine AllReadyH.cons rfl (fun K hK => ?_) AllReadyH.nil
  go_simp
  refine (Below_calls (T0.out.below H2.out) (T2.out.below H2.out)).mono ?_
  rw [AC.out]
  rintro e w7 ⟨rfl, hB⟩
  have H3 := Aside0.mk (below_then H2.out (H2.out).size hB)
  clear hB
  refine hK.out _ _ (OK.out _ H3.out) (fun hHeld => ?_)
  clear hK K
  try simp only [Act.put, List.setIfInBounds_toArray, List.set_cons_zero, List.set_cons_succ]
  refine takeH (d := some 43) (v := ?_) 12 rfl rfl (by kernel_rfl) (by kernel_rfl) (by kernel_rfl) (fun _ _ _ h => h) (by rfl) ?_ hHeld ?_
  rotate_left
  · intro w hSw
    try dsimp only at hSw
    go_simp <;> with_reducible rfl
  try simp only [Act.put, List.setIfInBounds_toArray, List.set_cons_zero, List.set_cons_succ]
  refine takeH (d := some 44) (v := ?_) 13 rfl rfl (by kernel_rfl) (by kernel_rfl) (by kernel_rfl) (fun _ _ _ h => h) (by rfl) ?_ hHeld ?_
  rotate_left
  · intro w hSw
    try dsimp only at hSw
    go_simp <;> with_reducible rfl
  try simp only [Act.put, List.setIfInBounds_toArray, List.set_cons_zero, List.set_cons_succ]
  refine takeH (d := some 45) (v := ?_) 14 rfl rfl (by kernel_rfl) (by kernel_rfl) (by kernel_rfl) (fun _ _ _ h => h) (by rfl) ?_ hHeld ?_
  rotate_left
  · intro w hSw
    try dsimp only at hSw
    go_simp <;> with_reducible rfl
  try simp only [Act.put, List.setIfInBounds_toArray, List.set_cons_zero, List.set_cons_succ]
  refine takeH (d := some 46) (v := ?_) 15 rfl rfl (by kernel_rfl) (by kernel_rfl) (by kernel_rfl) (fun _ _ _ h => h) (by rfl) ?_ hHeld ?_
  rotate_left
  · intro w hSw
    try dsimp only at hSw
    go_simp <;> with_reducible rfl
  try simp only [Act.put, List.setIfInBounds_toArray, List.set_cons_zero, List.set_cons_succ]
  refine takeH (d := some 47) (v := ?_) 16 rfl rfl (by kernel_rfl) (by kernel_rfl) (by kernel_rfl) (fun _ _ _ h => h) (by rfl) ?_ hHeld ?_
  rotate_left
  · intro w hSw
    try dsimp only at hSw
    go_simp <;> with_reducible rfl
  try simp only [Act.put, List.setIfInBounds_toArray, List.set_cons_zero, List.set_cons_succ]
  refine wpAnyH_ready (rs := [17]) (by kernel_rfl) (by simp) ?_
  refine AllReadyH.cons rfl (fun K hK => ?_) AllReadyH.nil
  go_simp
  refine (Below_calls (T0.out.below H3.out) (T1.out.below H3.out)).mono ?_
  rw [AB.out]
  rintro e w8 ⟨rfl, hB⟩
  have H4 := Aside0.mk (below_then H3.out (H3.out).size hB)
  clear hB
  refine hK.out _ _ (OK.out _ H4.out) (fun hHeld => ?_)
  clear hK K
  try simp only [Act.put, List.setIfInBounds_toArray, List.set_cons_zero, List.set_cons_succ]
  refine takeH (d := some 49) (v := ?_) 18 rfl rfl (by kernel_rfl) (by kernel_rfl) (by kernel_rfl) (fun _ _ _ h => h) (by rfl) ?_ hHeld ?_
  rotate_left
  · intro w hSw
    try dsimp only at hSw
    go_simp <;> with_reducible rfl
  try simp only [Act.put, List.setIfInBounds_toArray, List.set_cons_zero, List.set_cons_succ]
  refine takeH (d := some 50) (v := ?_) 19 rfl rfl (by kernel_rfl) (by kernel_rfl) (by kernel_rfl) (fun _ _ _ h => h) (by rfl) ?_ hHeld ?_
  rotate_left
  · intro w hSw
    try dsimp only at hSw
    go_simp <;> with_reducible rfl
  try simp only [Act.put, List.setIfInBounds_toArray, List.set_cons_zero, List.set_cons_succ]
  refine takeH (d := some 51) (v := ?_) 20 rfl rfl (by kernel_rfl) (by kernel_rfl) (by kernel_rfl) (fun _ _ _ h => h) (by rfl) ?_ hHeld ?_
  rotate_left
  · intro w hSw
    try dsimp only at hSw
    go_simp <;> with_reducible rfl
  try simp only [Act.put, List.setIfInBounds_toArray, List.set_cons_zero, List.set_cons_succ]
  refine takeH (d := some 53) (v := ?_) 22 rfl rfl (by kernel_rfl) (by kernel_rfl) (by kernel_rfl) (fun _ _ _ h => h) (by rfl) ?_ hHeld ?_
  rotate_left
  · intro w hSw
    try dsimp only at hSw
    go_simp <;> with_reducible rfl
  try simp only [Act.put, List.setIfInBounds_toArray, List.set_cons_zero, List.set_cons_succ]
  refine takeH (d := some 54) (v := ?_) 23 rfl rfl (by kernel_rfl) (by kernel_rfl) (by kernel_rfl) (fun _ _ _ h => h) (by rfl) ?_ hHeld ?_
  rotate_left
  · intro w hSw
    try dsimp only at hSw
    go_simp <;> with_reducible rfl
  try simp only [Act.put, List.setIfInBounds_toArray, List.set_cons_zero, List.set_cons_succ]
  refine wpAnyH_ready (rs := [21]) (by kernel_rfl) (by simp) ?_
  refine AllReadyH.cons rfl (fun K hK => ?_) AllReadyH.nil
  go_simp
  refine (Below_calls (T1.out.below H4.out) (T0.out.below H4.out)).mono ?_
  rw [BA.out]
  rintro e w9 ⟨rfl, hB⟩
  have H5 := Aside0.mk (below_then H4.out (H4.out).size hB)
  clear hB
  refine hK.out _ _ (OK.out _ H5.out) (fun hHeld => ?_)
  clear hK K
  try simp only [Act.put, List.setIfInBounds_toArray, List.set_cons_zero, List.set_cons_succ]
  refine wpAnyH_ready (rs := [24]) (by kernel_rfl) (by simp) ?_
  refine AllReadyH.cons rfl (fun K hK => ?_) AllReadyH.nil
  go_simp
  refine (Same_calls (T0.out.below H5.out) (T1.out.below H5.out)).mono ?_
  rw [SA.out]
  rintro e w10 ⟨rfl, hB⟩
  have H6 := Aside0.mk (below_then H5.out (H5.out).size hB)
  clear hB
  refine hK.out _ _ (OK.out _ H6.out) (fun hHeld => ?_)
  clear hK K
  try simp only [Act.put, List.setIfInBounds_toArray, List.set_cons_zero, List.set_cons_succ]
  refine takeH (d := some 56) (v := ?_) 25 rfl rfl (by kernel_rfl) (by kernel_rfl) (by kernel_rfl) (fun _ _ _ h => h) (by rfl) ?_ hHeld ?_
  rotate_left
  · intro w hSw
    try dsimp only at hSw
    go_simp <;> with_reducible rfl
  try simp only [Act.put, List.setIfInBounds_toArray, List.set_cons_zero, List.set_cons_succ]
  refine takeH (d := some 57) (v := ?_) 26 rfl rfl (by kernel_rfl) (by kernel_rfl) (by kernel_rfl) (fun _ _ _ h => h) (by rfl) ?_ hHeld ?_
  rotate_left
  · intro w hSw
    try dsimp only at hSw
    go_simp <;> with_reducible rfl
  try simp only [Act.put, List.setIfInBounds_toArray, List.set_cons_zero, List.set_cons_succ]
  refine takeH (d := some 58) (v := ?_) 27 rfl rfl (by kernel_rfl) (by kernel_rfl) (by kernel_rfl) (fun _ _ _ h => h) (by rfl) ?_ hHeld ?_
  rotate_left
  · intro w hSw
    try dsimp only at hSw
    go_simp <;> with_reducible rfl
  try simp only [Act.put, List.setIfInBounds_toArray, List.set_cons_zero, List.set_cons_succ]
  refine wpAnyH_done (by kernel_rfl) ?_ _
  go_wp2_with fail
  replace K1 := Aside0.mk (blk_below K1.out H6.out)
  replace K2 := Aside0.mk (blk_below K2.out H6.out)
  replace K3 := Aside0.mk (blk_below K3.out H6.out)
  replace T0 := Aside0.mk (IsT.below T0.out H6.out)
  replace T1 := Aside0.mk (IsT.below T1.out H6.out)
  replace T2 := Aside0.mk (IsT.below T2.out H6.out)
  replace HB := Aside0.mk (below_then HB.out HB.out.size H6.out)
  clear OK HBW
  obtain ⟨e10, e11⟩ := c26_of K1.out (Below.refl _ _)
  obtain ⟨e20, e21⟩ := c26_of K2.out (Below.refl _ _)
  obtain ⟨e30, e31⟩ := c26_of K3.out (Below.refl _ _)
  have q1 := blk_lt K1.out
  have q2 := blk_lt K2.out
  have q3 := blk_lt K3.out
  go_wp2_with fail
  refine (Known_calls T0.out).mono ?_
  rw [KA.out]
  rintro e w11 ⟨rfl, hB⟩
  replace K1 := Aside0.mk (blk_below K1.out hB)
  replace K2 := Aside0.mk (blk_below K2.out hB)
  replace K3 := Aside0.mk (blk_below K3.out hB)
  replace T0 := Aside0.mk (IsT.below T0.out hB)
  replace T1 := Aside0.mk (IsT.below T1.out hB)
  replace T2 := Aside0.mk (IsT.below T2.out hB)
  replace HB := Aside0.mk (below_then HB.out HB.out.size hB)
  clear hB e10 e11 e20 e21 e30 e31 q1 q2 q3
  obtain ⟨e10, e11⟩ := c26_of K1.out (Below.refl _ _)
  obtain ⟨e20, e21⟩ := c26_of K2.out (Below.refl _ _)
  obtain ⟨e30, e31⟩ := c26_of K3.out (Below.refl _ _)
  have q1 := blk_lt K1.out
  have q2 := blk_lt K2.out
  have q3 := blk_lt K3.out
  go_wp2_with fail
  refine (Known_calls T1.out).mono ?_
  rw [KB.out]
  rintro e w12 ⟨rfl, hB⟩
  replace K1 := Aside0.mk (blk_below K1.out hB)
  replace K2 := Aside0.mk (blk_below K2.out hB)
  replace K3 := Aside0.mk (blk_below K3.out hB)
  replace T0 := Aside0.mk (IsT.below T0.out hB)
  replace T1 := Aside0.mk (IsT.below T1.out hB)
  replace T2 := Aside0.mk (IsT.below T2.out hB)
  replace HB := Aside0.mk (below_then HB.out HB.out.size hB)
  clear hB e10 e11 e20 e21 e30 e31 q1 q2 q3
  obtain ⟨e10, e11⟩ := c26_of K1.out (Below.refl _ _)
  obtain ⟨e20, e21⟩ := c26_of K2.out (Below.refl _ _)
  obtain ⟨e30, e31⟩ := c26_of K3.out (Below.refl _ _)
  have q1 := blk_lt K1.out
  have q2 := blk_lt K2.out
  have q3 := blk_lt K3.out
  go_wp2_with fail
  refine (Same_calls T0.out T1.out).mono ?_
  rw [SA.out]
  rintro e w13 ⟨rfl, hB⟩
  replace K1 := Aside0.mk (blk_below K1.out hB)
  replace K2 := Aside0.mk (blk_below K2.out hB)
  replace K3 := Aside0.mk (blk_below K3.out hB)
  replace T0 := Aside0.mk (IsT.below T0.out hB)
  replace T1 := Aside0.mk (IsT.below T1.out hB)
  replace T2 := Aside0.mk (IsT.below T2.out hB)
  replace HB := Aside0.mk (below_then HB.out HB.out.size hB)
  clear hB e10 e11 e20 e21 e30 e31 q1 q2 q3
  obtain ⟨e10, e11⟩ := c26_of K1.out (Below.refl _ _)
  obtain ⟨e20, e21⟩ := c26_of K2.out (Below.refl _ _)
  obtain ⟨e30, e31⟩ := c26_of K3.out (Below.refl _ _)
  have q1 := blk_lt K1.out
  have q2 := blk_lt K2.out
  have q3 := blk_lt K3.out
  go_wp2_with fail
  refine (Below_calls T0.out T1.out).mono ?_
  rw [AS0.out]
  rintro e w14 ⟨rfl, hB⟩
  replace K1 := Aside0.mk (blk_below K1.out hB)
  replace K2 := Aside0.mk (blk_below K2.out hB)
  replace K3 := Aside0.mk (blk_below K3.out hB)
  replace T0 := Aside0.mk (IsT.below T0.out hB)
  replace T1 := Aside0.mk (IsT.below T1.out hB)
  replace T2 := Aside0.mk (IsT.below T2.out hB)
  replace HB := Aside0.mk (below_then HB.out HB.out.size hB)
  clear hB e10 e11 e20 e21 e30 e31 q1 q2 q3
  obtain ⟨e10, e11⟩ := c26_of K1.out (Below.refl _ _)
  obtain ⟨e20, e21⟩ := c26_of K2.out (Below.refl _ _)
  obtain ⟨e30, e31⟩ := c26_of K3.out (Below.refl _ _)
  have q1 := blk_lt K1.out
  have q2 := blk_lt K2.out
  have q3 := blk_lt K3.out
  go_wp2_with fail
  refine (Pos_calls T0.out T1.out).mono ?_
  rw [AS1.out]
  rintro e w15 ⟨rfl, hB⟩
  replace K1 := Aside0.mk (blk_below K1.out hB)
  replace K2 := Aside0.mk (blk_below K2.out hB)
  replace K3 := Aside0.mk (blk_below K3.out hB)
  replace T0 := Aside0.mk (IsT.below T0.out hB)
  replace T1 := Aside0.mk (IsT.below T1.out hB)
  replace T2 := Aside0.mk (IsT.below T2.out hB)
  replace HB := Aside0.mk (below_then HB.out HB.out.size hB)
  clear hB e10 e11 e20 e21 e30 e31 q1 q2 q3
  obtain ⟨e10, e11⟩ := c26_of K1.out (Below.refl _ _)
  obtain ⟨e20, e21⟩ := c26_of K2.out (Below.refl _ _)
  obtain ⟨e30, e31⟩ := c26_of K3.out (Below.refl _ _)
  have q1 := blk_lt K1.out
  have q2 := blk_lt K2.out
  have q3 := blk_lt K3.out
  go_wp2_with fail
  refine (Neg_calls T0.out T1.out).mono ?_
  rw [AS2.out]
  rintro e w16 ⟨rfl, hB⟩
  replace K1 := Aside0.mk (blk_below K1.out hB)
  replace K2 := Aside0.mk (blk_below K2.out hB)
  replace K3 := Aside0.mk (blk_below K3.out hB)
  replace T0 := Aside0.mk (IsT.below T0.out hB)
  replace T1 := Aside0.mk (IsT.below T1.out hB)
  replace T2 := Aside0.mk (IsT.below T2.out hB)
  replace HB := Aside0.mk (below_then HB.out HB.out.size hB)
  clear hB e10 e11 e20 e21 e30 e31 q1 q2 q3
  obtain ⟨e10, e11⟩ := c26_of K1.out (Below.refl _ _)
  obtain ⟨e20, e21⟩ := c26_of K2.out (Below.refl _ _)
  obtain ⟨e30, e31⟩ := c26_of K3.out (Below.refl _ _)
  have q1 := blk_lt K1.out
  have q2 := blk_lt K2.out
  have q3 := blk_lt K3.out
  go_wp2_with fail
  refine (wakes8_calls _).mono ?_
  rintro e wE ⟨rfl, hB⟩
  replace HB := Aside0.mk (below_then HB.out HB.out.size hB)
  clear hB e10 e11 e20 e21 e30 e31 q1 q2 q3
  go_wp2_with fail
  go_ret
  exact ⟨rfl, HB.out⟩
theorem belowOrders_walk (u0 : Value) (a : S26) (u1 : Value) (b : S26) (u2 : Value) (c : S26) (w : World) (h0 : IsT w u0 a) (h1 : IsT w u1 b) (h2 : IsT w u2 c) :
    Calls Try.prog 15 #[u0, u1, u2] w fun e w' => e = .returned (.bool true) ∧ Below w.heap.size w w' := by
  have T0 := Aside0.mk h0
  have T1 := Aside0.mk h1
  have T2 := Aside0.mk h2
  obtain ⟨A, ca, rfl, _, _⟩ := h0
  obtain ⟨B, cb, rfl, _, _⟩ := h1
  obtain ⟨C, cc, rfl, _, _⟩ := h2
  have dk : (checkI a == 0) = decide (checkI a = 0) := by by_cases h : checkI a = 0 <;> simp [h]
  have r0 := rel_refl 0 (by omega) a
  have r1 := rel_refl 1 (by omega) a
  have r2 := rel_refl 2 (by omega) a
  cases hab : relB 0 a b with
  | false =>
    cases ha : knownB a with
    | false => exact orders_no_k a b c w A ca B cb C cc T0 T1 T2 _ _ _ (.mk rfl) dk (.mk r0) (.mk r1) (.mk r2) (.mk rfl) (.mk hab) (.mk ha)
    | true =>
      cases hb : knownB b with
      | false => exact orders_no_ka a b c w A ca B cb C cc T0 T1 T2 _ _ _ (.mk rfl) dk (.mk r0) (.mk r1) (.mk r2) (.mk rfl) (.mk hab) (.mk ha) (.mk hb)
      | true => exact orders_no_ka_kb a b c w A ca B cb C cc T0 T1 T2 _ _ _ (.mk rfl) dk (.mk r0) (.mk r1) (.mk r2) (.mk rfl) (.mk hab) (.mk ha) (.mk hb) (.mk (rel_known ha hb)) (.mk (rel_known ha hb)) (.mk (rel_known ha hb))
  | true =>
    have hba := rel_anti hab
    cases hbc : relB 0 b c with
    | false =>
      cases ha : knownB a with
      | false => exact orders_ab_no_k a b c w A ca B cb C cc T0 T1 T2 _ _ _ (.mk rfl) dk (.mk r0) (.mk r1) (.mk r2) (.mk rfl) (.mk hab) (.mk hbc) (.mk hba) (.mk ha)
      | true =>
        cases hb : knownB b with
        | false => exact orders_ab_no_ka a b c w A ca B cb C cc T0 T1 T2 _ _ _ (.mk rfl) dk (.mk r0) (.mk r1) (.mk r2) (.mk rfl) (.mk hab) (.mk hbc) (.mk hba) (.mk ha) (.mk hb)
        | true => exact orders_ab_no_ka_kb a b c w A ca B cb C cc T0 T1 T2 _ _ _ (.mk rfl) dk (.mk r0) (.mk r1) (.mk r2) (.mk rfl) (.mk hab) (.mk hbc) (.mk hba) (.mk ha) (.mk hb) (.mk (rel_known ha hb)) (.mk (rel_known ha hb)) (.mk (rel_known ha hb))
    | true =>
      have hac := rel_trans hab hbc
      cases ha : knownB a with
      | false => exact orders_ab_bc_k a b c w A ca B cb C cc T0 T1 T2 _ _ _ (.mk rfl) dk (.mk r0) (.mk r1) (.mk r2) (.mk rfl) (.mk hab) (.mk hbc) (.mk hba) (.mk hac) (.mk ha)
      | true =>
        cases hb : knownB b with
        | false => exact orders_ab_bc_ka a b c w A ca B cb C cc T0 T1 T2 _ _ _ (.mk rfl) dk (.mk r0) (.mk r1) (.mk r2) (.mk rfl) (.mk hab) (.mk hbc) (.mk hba) (.mk hac) (.mk ha) (.mk hb)
        | true => exact orders_ab_bc_ka_kb a b c w A ca B cb C cc T0 T1 T2 _ _ _ (.mk rfl) dk (.mk r0) (.mk r1) (.mk r2) (.mk rfl) (.mk hab) (.mk hbc) (.mk hba) (.mk hac) (.mk ha) (.mk hb) (.mk (rel_known ha hb)) (.mk (rel_known ha hb)) (.mk (rel_known ha hb))
end Go.Proofs.Ytamhdpllmhafhaa.X
