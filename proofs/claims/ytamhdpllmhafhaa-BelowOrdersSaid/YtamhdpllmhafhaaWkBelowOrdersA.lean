/- The walk of the law BelowOrders: part A. -/
import Derived.Test.YtamhdpllmhafhaaHWakes8
import Derived.Test.YtamhdpllmhafhaaPureBelow3
namespace Go.Proofs.Ytamhdpllmhafhaa.X
open Go.RowKit Go.Proofs.YtamhdpllmhafhaaW.PrintWords Go.Proofs.YtamhdpllmhafhaaW.PrintLast Go.Proofs.YtamhdpllmhafhaaW.PrintMore
set_option linter.unusedVariables false
set_option linter.unusedSimpArgs false

set_option maxRecDepth 100000 in
set_option maxHeartbeats 3200000 in
theorem orders_no_k (a b c : S26) (w : World) (A : Option Addr) (ca : Nat) (B : Option Addr) (cb : Nat) (C : Option Addr) (cc : Nat) (T0 : Aside0 (IsT w (.agg #[.int .i8 a.f0, .slice A a.f1.length ca]) a)) (T1 : Aside0 (IsT w (.agg #[.int .i8 b.f0, .slice B b.f1.length cb]) b)) (T2 : Aside0 (IsT w (.agg #[.int .i8 c.f0, .slice C c.f1.length cc]) c))
    (ck : Int) (ok s : Bool) (CK : Aside0 (checkI a = ck)) (dk : (ck == 0) = ok) (RF0 : Aside0 (relB 0 a a = ok)) (RF1 : Aside0 (relB 1 a a = ok)) (RF2 : Aside0 (relB 2 a a = ok)) (SA : Aside0 (sameB a b = s)) (AB : Aside0 (relB 0 a b = false)) (KA : Aside0 (knownB a = false)) :
    Calls Try.prog 15 #[.agg #[.int .i8 a.f0, .slice A a.f1.length ca], .agg #[.int .i8 b.f0, .slice B b.f1.length cb], .agg #[.int .i8 c.f0, .slice C c.f1.length cc]] w fun e w' => e = .returned (.bool true) ∧ Below w.heap.size w w' := by
  go_enter Try.func15, Try.ntmps15
  go_wp2_with fail
  refine (Check_calls (T0.out.below (below3 ..))).mono ?_
  rw [CK.out]
  rintro e w1 ⟨rfl, hB⟩
  obtain ⟨b1, b2, b3, hB1⟩ := three_blocks hB
  have K1 := Aside0.mk b1
  have K2 := Aside0.mk b2
  have K3 := Aside0.mk b3
  have HB := Aside0.mk hB1
  replace T0 := Aside0.mk (IsT.below T0.out hB1)
  replace T1 := Aside0.mk (IsT.below T1.out hB1)
  replace T2 := Aside0.mk (IsT.below T2.out hB1)
  clear hB hB1 b1 b2 b3
  obtain ⟨e10, e11⟩ := c26_of K1.out (Below.refl _ _)
  obtain ⟨e20, e21⟩ := c26_of K2.out (Below.refl _ _)
  obtain ⟨e30, e31⟩ := c26_of K3.out (Below.refl _ _)
  have q1 := blk_lt K1.out
  have q2 := blk_lt K2.out
  have q3 := blk_lt K3.out
  go_wp2_with fail
  refine (Below_calls T0.out T0.out).mono ?_
  rw [RF0.out]
  rintro e w2 ⟨rfl, hB⟩
  replace K1 := Aside0.mk (blk_below K1.out hB)
  replace K2 := Aside0.mk (blk_below K2.out hB)
  replace K3 := Aside0.mk (blk_below K3.out hB)
  replace T0 := Aside0.mk (IsT.below T0.out hB)
  replace T1 := Aside0.mk (IsT.below T1.out hB)
  replace T2 := Aside0.mk (IsT.below T2.out hB)
  replace HB := Aside0.mk (below_then HB.out HB.out.size hB)
  clear hB e10 e11 e20 e21 e30 e31 q1 q2 q3
  obtain ⟨e10, e11⟩ := c26_of K1.out (Below.refl _ _)
  obtain ⟨e20, e21⟩ := c26_of K2.out (Below.refl _ _)
  obtain ⟨e30, e31⟩ := c26_of K3.out (Below.refl _ _)
  have q1 := blk_lt K1.out
  have q2 := blk_lt K2.out
  have q3 := blk_lt K3.out
  go_wp2_with fail
  refine (Pos_calls T0.out T0.out).mono ?_
  rw [RF1.out]
  rintro e w3 ⟨rfl, hB⟩
  replace K1 := Aside0.mk (blk_below K1.out hB)
  replace K2 := Aside0.mk (blk_below K2.out hB)
  replace K3 := Aside0.mk (blk_below K3.out hB)
  replace T0 := Aside0.mk (IsT.below T0.out hB)
  replace T1 := Aside0.mk (IsT.below T1.out hB)
  replace T2 := Aside0.mk (IsT.below T2.out hB)
  replace HB := Aside0.mk (below_then HB.out HB.out.size hB)
  clear hB e10 e11 e20 e21 e30 e31 q1 q2 q3
  obtain ⟨e10, e11⟩ := c26_of K1.out (Below.refl _ _)
  obtain ⟨e20, e21⟩ := c26_of K2.out (Below.refl _ _)
  obtain ⟨e30, e31⟩ := c26_of K3.out (Below.refl _ _)
  have q1 := blk_lt K1.out
  have q2 := blk_lt K2.out
  have q3 := blk_lt K3.out
  go_wp2_with fail
  refine (Neg_calls T0.out T0.out).mono ?_
  rw [RF2.out]
  rintro e w4 ⟨rfl, hB⟩
  replace K1 := Aside0.mk (blk_below K1.out hB)
  replace K2 := Aside0.mk (blk_below K2.out hB)
  replace K3 := Aside0.mk (blk_below K3.out hB)
  replace T0 := Aside0.mk (IsT.below T0.out hB)
  replace T1 := Aside0.mk (IsT.below T1.out hB)
  replace T2 := Aside0.mk (IsT.below T2.out hB)
  replace HB := Aside0.mk (below_then HB.out HB.out.size hB)
  clear hB e10 e11 e20 e21 e30 e31 q1 q2 q3
  obtain ⟨e10, e11⟩ := c26_of K1.out (Below.refl _ _)
  obtain ⟨e20, e21⟩ := c26_of K2.out (Below.refl _ _)
  obtain ⟨e30, e31⟩ := c26_of K3.out (Below.refl _ _)
  have q1 := blk_lt K1.out
  have q2 := blk_lt K2.out
  have q3 := blk_lt K3.out
  go_wp2_with fail
  have OK := Aside0.mk (fun w' (h : Below w4.heap.size w4 w') => (⟨c26_of K1.out h, c26_of K2.out h, c26_of K3.out h⟩ : ((w'.cell? ⟨w.heap.size, 0, none⟩ = some (.int .i8 a.f0) ∧ w'.cell? ⟨w.heap.size, 1, none⟩ = some (.slice A a.f1.length ca)) ∧ (w'.cell? ⟨(w.heap.size + 1), 0, none⟩ = some (.int .i8 b.f0) ∧ w'.cell? ⟨(w.heap.size + 1), 1, none⟩ = some (.slice B b.f1.length cb)) ∧ (w'.cell? ⟨(w.heap.size + 1 + 1), 0, none⟩ = some (.int .i8 c.f0) ∧ w'.cell? ⟨(w.heap.size + 1 + 1), 1, none⟩ = some (.slice C c.f1.length cc)))))
  have HBW := Aside0.mk (Below.refl w4.heap.size w4)
  clear e10 e11 e20 e21 e30 e31 q1 q2 q3
  refine wp_region_held_drew (S := (fun w' => ((w'.cell? ⟨w.heap.size, 0, none⟩ = some (.int .i8 a.f0) ∧ w'.cell? ⟨w.heap.size, 1, none⟩ = some (.slice A a.f1.length ca)) ∧ (w'.cell? ⟨(w.heap.size + 1), 0, none⟩ = some (.int .i8 b.f0) ∧ w'.cell? ⟨(w.heap.size + 1), 1, none⟩ = some (.slice B b.f1.length cb)) ∧ (w'.cell? ⟨(w.heap.size + 1 + 1), 0, none⟩ = some (.int .i8 c.f0) ∧ w'.cell? ⟨(w.heap.size + 1 + 1), 1, none⟩ = some (.slice C c.f1.length cc))))) (by kernel_rfl) (OK.out _ HBW.out.drew) (fun hHeld => ?_)
  refine takeH (d := some 31) (v := ?_) 0 rfl rfl (by kernel_rfl) (by kernel_rfl) (by kernel_rfl) (fun _ _ _ h => h) (by rfl) ?_ hHeld ?_
  rotate_left
  · intro w hSw
    try dsimp only at hSw
    go_simp <;> with_reducible rfl
  try simp only [Act.put, List.setIfInBounds_toArray, List.set_cons_zero, List.set_cons_succ]
  refine takeH (d := some 32) (v := ?_) 1 rfl rfl (by kernel_rfl) (by kernel_rfl) (by kernel_rfl) (fun _ _ _ h => h) (by rfl) ?_ hHeld ?_
  rotate_left
  · intro w hSw
    try dsimp only at hSw
    go_simp <;> with_reducible rfl
  try simp only [Act.put, List.setIfInBounds_toArray, List.set_cons_zero, List.set_cons_succ]
  refine wpAnyH_ready (rs := [2]) (by kernel_rfl) (by simp) ?_
  refine AllReadyH.cons rfl (fun K hK => ?_) AllReadyH.nil
  go_simp
  refine (Below_calls (T0.out.below HBW.out.drew) (T1.out.below HBW.out.drew)).mono ?_
  rw [AB.out]
  rintro e w5 ⟨rfl, hB⟩
  have H1 := Aside0.mk (below_then HBW.out.drew (HBW.out.drew).size hB)
  clear hB
  refine hK.out _ _ (OK.out _ H1.out) (fun hHeld => ?_)
  clear hK K
  try simp only [Act.put, List.setIfInBounds_toArray, List.set_cons_zero, List.set_cons_succ]
  refine takeH (d := some 34) (v := ?_) 3 rfl rfl (by kernel_rfl) (by kernel_rfl) (by kernel_rfl) (fun _ _ _ h => h) (by rfl) ?_ hHeld ?_
  rotate_left
  · intro w hSw
    try dsimp only at hSw
    go_simp <;> with_reducible rfl
  try simp only [Act.put, List.setIfInBounds_toArray, List.set_cons_zero, List.set_cons_succ]
  refine passH (d := some 35) 4 rfl rfl (by kernel_rfl) (by kernel_rfl) (by kernel_rfl) (fun _ _ _ h => h) (by rfl) hHeld ?_
  try simp only [Act.put, List.setIfInBounds_toArray, List.set_cons_zero, List.set_cons_succ]
  refine passH (d := some 36) 5 rfl rfl (by kernel_rfl) (by kernel_rfl) (by kernel_rfl) (fun _ _ _ h => h) (by rfl) hHeld ?_
  try simp only [Act.put, List.setIfInBounds_toArray, List.set_cons_zero, List.set_cons_succ]
  refine passH (d := some 37) 6 rfl rfl (by kernel_rfl) (by kernel_rfl) (by kernel_rfl) (fun _ _ _ h => h) (by rfl) hHeld ?_
  try simp only [Act.put, List.setIfInBounds_toArray, List.set_cons_zero, List.set_cons_succ]
  refine takeH (d := some 38) (v := ?_) 7 rfl rfl (by kernel_rfl) (by kernel_rfl) (by kernel_rfl) (fun _ _ _ h => h) (by rfl) ?_ hHeld ?_
  rotate_left
  · intro w hSw
    try dsimp only at hSw
    go_simp <;> with_reducible rfl
  try simp only [Act.put, List.setIfInBounds_toArray, List.set_cons_zero, List.set_cons_succ]
  refine takeH (d := some 39) (v := ?_) 8 rfl rfl (by kernel_rfl) (by kernel_rfl) (by kernel_rfl) (fun _ _ _ h => h) (by rfl) ?_ hHeld ?_
  rotate_left
  · intro w hSw
    try dsimp only at hSw
    go_simp <;> with_reducible rfl
  try simp only [Act.put, List.setIfInBounds_toArray, List.set_cons_zero, List.set_cons_succ]
  refine passH (d := some 40) 9 rfl rfl (by kernel_rfl) (by kernel_rfl) (by kernel_rfl) (fun _ _ _ h => h) (by rfl) hHeld ?_
  try simp only [Act.put, List.setIfInBounds_toArray, List.set_cons_zero, List.set_cons_succ]
  refine passH (d := some 41) 10 rfl rfl (by kernel_rfl) (by kernel_rfl) (by kernel_rfl) (fun _ _ _ h => h) (by rfl) hHeld ?_
  try simp only [Act.put, List.setIfInBounds_toArray, List.set_cons_zero, List.set_cons_succ]
  refine passH (d := some 42) 11 rfl rfl (by kernel_rfl) (by kernel_rfl) (by kernel_rfl) (fun _ _ _ h => h) (by rfl) hHeld ?_
  try simp only [Act.put, List.setIfInBounds_toArray, List.set_cons_zero, List.set_cons_succ]
  refine passH (d := some 43) 12 rfl rfl (by kernel_rfl) (by kernel_rfl) (by kernel_rfl) (fun _ _ _ h => h) (by rfl) hHeld ?_
  try simp only [Act.put, List.setIfInBounds_toArray, List.set_cons_zero, List.set_cons_succ]
  refine takeH (d := some 44) (v := ?_) 13 rfl rfl (by kernel_rfl) (by kernel_rfl) (by kernel_rfl) (fun _ _ _ h => h) (by rfl) ?_ hHeld ?_
  rotate_left
  · intro w hSw
    try dsimp only at hSw
    go_simp <;> with_reducible rfl
  try simp only [Act.put, List.setIfInBounds_toArray, List.set_cons_zero, List.set_cons_succ]
  refine takeH (d := some 45) (v := ?_) 14 rfl rfl (by kernel_rfl) (by kernel_rfl) (by kernel_rfl) (fun _ _ _ h => h) (by rfl) ?_ hHeld ?_
  rotate_left
  · intro w hSw
    try dsimp only at hSw
    go_simp <;> with_reducible rfl
  try simp only [Act.put, List.setIfInBounds_toArray, List.set_cons_zero, List.set_cons_succ]
  refine takeH (d := some 46) (v := ?_) 15 rfl rfl (by kernel_rfl) (by kernel_rfl) (by kernel_rfl) (fun _ _ _ h => h) (by rfl) ?_ hHeld ?_
  rotate_left
  · intro w hSw
    try dsimp only at hSw
    go_simp <;> with_reducible rfl
  try simp only [Act.put, List.setIfInBounds_toArray, List.set_cons_zero, List.set_cons_succ]
  refine takeH (d := some 47) (v := ?_) 16 rfl rfl (by kernel_rfl) (by kernel_rfl) (by kernel_rfl) (fun _ _ _ h => h) (by rfl) ?_ hHeld ?_
  rotate_left
  · intro w hSw
    try dsimp only at hSw
    go_simp <;> with_reducible rfl
  try simp only [Act.put, List.setIfInBounds_toArray, List.set_cons_zero, List.set_cons_succ]
  refine wpAnyH_ready (rs := [17]) (by kernel_rfl) (by simp) ?_
  refine AllReadyH.cons rfl (fun K hK => ?_) AllReadyH.nil
  go_simp
  refine (Below_calls (T0.out.below H1.out) (T1.out.below H1.out)).mono ?_
  rw [AB.out]
  rintro e w8 ⟨rfl, hB⟩
  have H4 := Aside0.mk (below_then H1.out (H1.out).size hB)
  clear hB
  refine hK.out _ _ (OK.out _ H4.out) (fun hHeld => ?_)
  clear hK K
  try simp only [Act.put, List.setIfInBounds_toArray, List.set_cons_zero, List.set_cons_succ]
  refine takeH (d := some 49) (v := ?_) 18 rfl rfl (by kernel_rfl) (by kernel_rfl) (by kernel_rfl) (fun _ _ _ h => h) (by rfl) ?_ hHeld ?_
  rotate_left
  · intro w hSw
    try dsimp only at hSw
    go_simp <;> with_reducible rfl
  try simp only [Act.put, List.setIfInBounds_toArray, List.set_cons_zero, List.set_cons_succ]
  refine passH (d := some 50) 19 rfl rfl (by kernel_rfl) (by kernel_rfl) (by kernel_rfl) (fun _ _ _ h => h) (by rfl) hHeld ?_
  try simp only [Act.put, List.setIfInBounds_toArray, List.set_cons_zero, List.set_cons_succ]
  refine passH (d := some 51) 20 rfl rfl (by kernel_rfl) (by kernel_rfl) (by kernel_rfl) (fun _ _ _ h => h) (by rfl) hHeld ?_
  try simp only [Act.put, List.setIfInBounds_toArray, List.set_cons_zero, List.set_cons_succ]
  refine passH (d := some 52) 21 rfl rfl (by kernel_rfl) (by kernel_rfl) (by kernel_rfl) (fun _ _ _ h => h) (by rfl) hHeld ?_
  try simp only [Act.put, List.setIfInBounds_toArray, List.set_cons_zero, List.set_cons_succ]
  refine passH (d := some 53) 22 rfl rfl (by kernel_rfl) (by kernel_rfl) (by kernel_rfl) (fun _ _ _ h => h) (by rfl) hHeld ?_
  try simp only [Act.put, List.setIfInBounds_toArray, List.set_cons_zero, List.set_cons_succ]
  refine passH (d := some 54) 23 rfl rfl (by kernel_rfl) (by kernel_rfl) (by kernel_rfl) (fun _ _ _ h => h) (by rfl) hHeld ?_
  try simp only [Act.put, List.setIfInBounds_toArray, List.set_cons_zero, List.set_cons_succ]
  refine passH (d := some 55) 24 rfl rfl (by kernel_rfl) (by kernel_rfl) (by kernel_rfl) (fun _ _ _ h => h) (by rfl) hHeld ?_
  try simp only [Act.put, List.setIfInBounds_toArray, List.set_cons_zero, List.set_cons_succ]
  refine passH (d := some 56) 25 rfl rfl (by kernel_rfl) (by kernel_rfl) (by kernel_rfl) (fun _ _ _ h => h) (by rfl) hHeld ?_
  try simp only [Act.put, List.setIfInBounds_toArray, List.set_cons_zero, List.set_cons_succ]
  refine takeH (d := some 57) (v := ?_) 26 rfl rfl (by kernel_rfl) (by kernel_rfl) (by kernel_rfl) (fun _ _ _ h => h) (by rfl) ?_ hHeld ?_
  rotate_left
  · intro w hSw
    try dsimp only at hSw
    go_simp <;> with_reducible rfl
  try simp only [Act.put, List.setIfInBounds_toArray, List.set_cons_zero, List.set_cons_succ]
  refine takeH (d := some 58) (v := ?_) 27 rfl rfl (by kernel_rfl) (by kernel_rfl) (by kernel_rfl) (fun _ _ _ h => h) (by rfl) ?_ hHeld ?_
  rotate_left
  · intro w hSw
    try dsimp only at hSw
    go_simp <;> with_reducible rfl
  try simp only [Act.put, List.setIfInBounds_toArray, List.set_cons_zero, List.set_cons_succ]
  refine wpAnyH_done (by kernel_rfl) ?_ _
  go_wp2_with fail
  replace K1 := Aside0.mk (blk_below K1.out H4.out)
  replace K2 := Aside0.mk (blk_below K2.out H4.out)
  replace K3 := Aside0.mk (blk_below K3.out H4.out)
  replace T0 := Aside0.mk (IsT.below T0.out H4.out)
  replace T1 := Aside0.mk (IsT.below T1.out H4.out)
  replace T2 := Aside0.mk (IsT.below T2.out H4.out)
  replace HB := Aside0.mk (below_then HB.out HB.out.size H4.out)
  clear OK HBW
  obtain ⟨e10, e11⟩ := c26_of K1.out (Below.refl _ _)
  obtain ⟨e20, e21⟩ := c26_of K2.out (Below.refl _ _)
  obtain ⟨e30, e31⟩ := c26_of K3.out (Below.refl _ _)
  have q1 := blk_lt K1.out
  have q2 := blk_lt K2.out
  have q3 := blk_lt K3.out
  go_wp2_with fail
  refine (Known_calls T0.out).mono ?_
  rw [KA.out]
  rintro e w11 ⟨rfl, hB⟩
  replace K1 := Aside0.mk (blk_below K1.out hB)
  replace K2 := Aside0.mk (blk_below K2.out hB)
  replace K3 := Aside0.mk (blk_below K3.out hB)
  replace T0 := Aside0.mk (IsT.below T0.out hB)
  replace T1 := Aside0.mk (IsT.below T1.out hB)
  replace T2 := Aside0.mk (IsT.below T2.out hB)
  replace HB := Aside0.mk (below_then HB.out HB.out.size hB)
  clear hB e10 e11 e20 e21 e30 e31 q1 q2 q3
  obtain ⟨e10, e11⟩ := c26_of K1.out (Below.refl _ _)
  obtain ⟨e20, e21⟩ := c26_of K2.out (Below.refl _ _)
  obtain ⟨e30, e31⟩ := c26_of K3.out (Below.refl _ _)
  have q1 := blk_lt K1.out
  have q2 := blk_lt K2.out
  have q3 := blk_lt K3.out
  go_wp2_with fail
  refine (wakes8_calls _).mono ?_
  rintro e wE ⟨rfl, hB⟩
  replace HB := Aside0.mk (below_then HB.out HB.out.size hB)
  clear hB e10 e11 e20 e21 e30 e31 q1 q2 q3
  go_wp2_with fail
  go_ret
  exact ⟨rfl, HB.out⟩
set_option maxRecDepth 100000 in
set_option maxHeartbeats 3200000 in
theorem orders_no_ka (a b c : S26) (w : World) (A : Option Addr) (ca : Nat) (B : Option Addr) (cb : Nat) (C : Option Addr) (cc : Nat) (T0 : Aside0 (IsT w (.agg #[.int .i8 a.f0, .slice A a.f1.length ca]) a)) (T1 : Aside0 (IsT w (.agg #[.int .i8 b.f0, .slice B b.f1.length cb]) b)) (T2 : Aside0 (IsT w (.agg #[.int .i8 c.f0, .slice C c.f1.length cc]) c))
    (ck : Int) (ok s : Bool) (CK : Aside0 (checkI a = ck)) (dk : (ck == 0) = ok) (RF0 : Aside0 (relB 0 a a = ok)) (RF1 : Aside0 (relB 1 a a = ok)) (RF2 : Aside0 (relB 2 a a = ok)) (SA : Aside0 (sameB a b = s)) (AB : Aside0 (relB 0 a b = false)) (KA : Aside0 (knownB a = true)) (KB : Aside0 (knownB b = false)) :
    Calls Try.prog 15 #[.agg #[.int .i8 a.f0, .slice A a.f1.length ca], .agg #[.int .i8 b.f0, .slice B b.f1.length cb], .agg #[.int .i8 c.f0, .slice C c.f1.length cc]] w fun e w' => e = .returned (.bool true) ∧ Below w.heap.size w w' := by
  go_enter Try.func15, Try.ntmps15
  go_wp2_with fail
  refine (Check_calls (T0.out.below (below3 ..))).mono ?_
  rw [CK.out]
  rintro e w1 ⟨rfl, hB⟩
  obtain ⟨b1, b2, b3, hB1⟩ := three_blocks hB
  have K1 := Aside0.mk b1
  have K2 := Aside0.mk b2
  have K3 := Aside0.mk b3
  have HB := Aside0.mk hB1
  replace T0 := Aside0.mk (IsT.below T0.out hB1)
  replace T1 := Aside0.mk (IsT.below T1.out hB1)
  replace T2 := Aside0.mk (IsT.below T2.out hB1)
  clear hB hB1 b1 b2 b3
  obtain ⟨e10, e11⟩ := c26_of K1.out (Below.refl _ _)
  obtain ⟨e20, e21⟩ := c26_of K2.out (Below.refl _ _)
  obtain ⟨e30, e31⟩ := c26_of K3.out (Below.refl _ _)
  have q1 := blk_lt K1.out
  have q2 := blk_lt K2.out
  have q3 := blk_lt K3.out
  go_wp2_with fail
  refine (Below_calls T0.out T0.out).mono ?_
  rw [RF0.out]
  rintro e w2 ⟨rfl, hB⟩
  replace K1 := Aside0.mk (blk_below K1.out hB)
  replace K2 := Aside0.mk (blk_below K2.out hB)
  replace K3 := Aside0.mk (blk_below K3.out hB)
  replace T0 := Aside0.mk (IsT.below T0.out hB)
  replace T1 := Aside0.mk (IsT.below T1.out hB)
  replace T2 := Aside0.mk (IsT.below T2.out hB)
  replace HB := Aside0.mk (below_then HB.out HB.out.size hB)
  clear hB e10 e11 e20 e21 e30 e31 q1 q2 q3
  obtain ⟨e10, e11⟩ := c26_of K1.out (Below.refl _ _)
  obtain ⟨e20, e21⟩ := c26_of K2.out (Below.refl _ _)
  obtain ⟨e30, e31⟩ := c26_of K3.out (Below.refl _ _)
  have q1 := blk_lt K1.out
  have q2 := blk_lt K2.out
  have q3 := blk_lt K3.out
  go_wp2_with fail
  refine (Pos_calls T0.out T0.out).mono ?_
  rw [RF1.out]
  rintro e w3 ⟨rfl, hB⟩
  replace K1 := Aside0.mk (blk_below K1.out hB)
  replace K2 := Aside0.mk (blk_below K2.out hB)
  replace K3 := Aside0.mk (blk_below K3.out hB)
  replace T0 := Aside0.mk (IsT.below T0.out hB)
  replace T1 := Aside0.mk (IsT.below T1.out hB)
  replace T2 := Aside0.mk (IsT.below T2.out hB)
  replace HB := Aside0.mk (below_then HB.out HB.out.size hB)
  clear hB e10 e11 e20 e21 e30 e31 q1 q2 q3
  obtain ⟨e10, e11⟩ := c26_of K1.out (Below.refl _ _)
  obtain ⟨e20, e21⟩ := c26_of K2.out (Below.refl _ _)
  obtain ⟨e30, e31⟩ := c26_of K3.out (Below.refl _ _)
  have q1 := blk_lt K1.out
  have q2 := blk_lt K2.out
  have q3 := blk_lt K3.out
  go_wp2_with fail
  refine (Neg_calls T0.out T0.out).mono ?_
  rw [RF2.out]
  rintro e w4 ⟨rfl, hB⟩
  replace K1 := Aside0.mk (blk_below K1.out hB)
  replace K2 := Aside0.mk (blk_below K2.out hB)
  replace K3 := Aside0.mk (blk_below K3.out hB)
  replace T0 := Aside0.mk (IsT.below T0.out hB)
  replace T1 := Aside0.mk (IsT.below T1.out hB)
  replace T2 := Aside0.mk (IsT.below T2.out hB)
  replace HB := Aside0.mk (below_then HB.out HB.out.size hB)
  clear hB e10 e11 e20 e21 e30 e31 q1 q2 q3
  obtain ⟨e10, e11⟩ := c26_of K1.out (Below.refl _ _)
  obtain ⟨e20, e21⟩ := c26_of K2.out (Below.refl _ _)
  obtain ⟨e30, e31⟩ := c26_of K3.out (Below.refl _ _)
  have q1 := blk_lt K1.out
  have q2 := blk_lt K2.out
  have q3 := blk_lt K3.out
  go_wp2_with fail
  have OK := Aside0.mk (fun w' (h : Below w4.heap.size w4 w') => (⟨c26_of K1.out h, c26_of K2.out h, c26_of K3.out h⟩ : ((w'.cell? ⟨w.heap.size, 0, none⟩ = some (.int .i8 a.f0) ∧ w'.cell? ⟨w.heap.size, 1, none⟩ = some (.slice A a.f1.length ca)) ∧ (w'.cell? ⟨(w.heap.size + 1), 0, none⟩ = some (.int .i8 b.f0) ∧ w'.cell? ⟨(w.heap.size + 1), 1, none⟩ = some (.slice B b.f1.length cb)) ∧ (w'.cell? ⟨(w.heap.size + 1 + 1), 0, none⟩ = some (.int .i8 c.f0) ∧ w'.cell? ⟨(w.heap.size + 1 + 1), 1, none⟩ = some (.slice C c.f1.length cc)))))
  have HBW := Aside0.mk (Below.refl w4.heap.size w4)
  clear e10 e11 e20 e21 e30 e31 q1 q2 q3
  refine wp_region_held_drew (S := (fun w' => ((w'.cell? ⟨w.heap.size, 0, none⟩ = some (.int .i8 a.f0) ∧ w'.cell? ⟨w.heap.size, 1, none⟩ = some (.slice A a.f1.length ca)) ∧ (w'.cell? ⟨(w.heap.size + 1), 0, none⟩ = some (.int .i8 b.f0) ∧ w'.cell? ⟨(w.heap.size + 1), 1, none⟩ = some (.slice B b.f1.length cb)) ∧ (w'.cell? ⟨(w.heap.size + 1 + 1), 0, none⟩ = some (.int .i8 c.f0) ∧ w'.cell? ⟨(w.heap.size + 1 + 1), 1, none⟩ = some (.slice C c.f1.length cc))))) (by kernel_rfl) (OK.out _ HBW.out.drew) (fun hHeld => ?_)
  refine takeH (d := some 31) (v := ?_) 0 rfl rfl (by kernel_rfl) (by kernel_rfl) (by kernel_rfl) (fun _ _ _ h => h) (by rfl) ?_ hHeld ?_
  rotate_left
  · intro w hSw
    try dsimp only at hSw
    go_simp <;> with_reducible rfl
  try simp only [Act.put, List.setIfInBounds_toArray, List.set_cons_zero, List.set_cons_succ]
  refine takeH (d := some 32) (v := ?_) 1 rfl rfl (by kernel_rfl) (by kernel_rfl) (by kernel_rfl) (fun _ _ _ h => h) (by rfl) ?_ hHeld ?_
  rotate_left
  · intro w hSw
    try dsimp only at hSw
    go_simp <;> with_reducible rfl
  try simp only [Act.put, List.setIfInBounds_toArray, List.set_cons_zero, List.set_cons_succ]
  refine wpAnyH_ready (rs := [2]) (by kernel_rfl) (by simp) ?_
  refine AllReadyH.cons rfl (fun K hK => ?_) AllReadyH.nil
  go_simp
  refine (Below_calls (T0.out.below HBW.out.drew) (T1.out.below HBW.out.drew)).mono ?_
  rw [AB.out]
  rintro e w5 ⟨rfl, hB⟩
  have H1 := Aside0.mk (below_then HBW.out.drew (HBW.out.drew).size hB)
  clear hB
  refine hK.out _ _ (OK.out _ H1.out) (fun hHeld => ?_)
  clear hK K
  try simp only [Act.put, List.setIfInBounds_toArray, List.set_cons_zero, List.set_cons_succ]
  refine takeH (d := some 34) (v := ?_) 3 rfl rfl (by kernel_rfl) (by kernel_rfl) (by kernel_rfl) (fun _ _ _ h => h) (by rfl) ?_ hHeld ?_
  rotate_left
  · intro w hSw
    try dsimp only at hSw
    go_simp <;> with_reducible rfl
  try simp only [Act.put, List.setIfInBounds_toArray, List.set_cons_zero, List.set_cons_succ]
  refine passH (d := some 35) 4 rfl rfl (by kernel_rfl) (by kernel_rfl) (by kernel_rfl) (fun _ _ _ h => h) (by rfl) hHeld ?_
  try simp only [Act.put, List.setIfInBounds_toArray, List.set_cons_zero, List.set_cons_succ]
  refine passH (d := some 36) 5 rfl rfl (by kernel_rfl) (by kernel_rfl) (by kernel_rfl) (fun _ _ _ h => h) (by rfl) hHeld ?_
  try simp only [Act.put, List.setIfInBounds_toArray, List.set_cons_zero, List.set_cons_succ]
  refine passH (d := some 37) 6 rfl rfl (by kernel_rfl) (by kernel_rfl) (by kernel_rfl) (fun _ _ _ h => h) (by rfl) hHeld ?_
  try simp only [Act.put, List.setIfInBounds_toArray, List.set_cons_zero, List.set_cons_succ]
  refine takeH (d := some 38) (v := ?_) 7 rfl rfl (by kernel_rfl) (by kernel_rfl) (by kernel_rfl) (fun _ _ _ h => h) (by rfl) ?_ hHeld ?_
  rotate_left
  · intro w hSw
    try dsimp only at hSw
    go_simp <;> with_reducible rfl
  try simp only [Act.put, List.setIfInBounds_toArray, List.set_cons_zero, List.set_cons_succ]
  refine takeH (d := some 39) (v := ?_) 8 rfl rfl (by kernel_rfl) (by kernel_rfl) (by kernel_rfl) (fun _ _ _ h => h) (by rfl) ?_ hHeld ?_
  rotate_left
  · intro w hSw
    try dsimp only at hSw
    go_simp <;> with_reducible rfl
  try simp only [Act.put, List.setIfInBounds_toArray, List.set_cons_zero, List.set_cons_succ]
  refine passH (d := some 40) 9 rfl rfl (by kernel_rfl) (by kernel_rfl) (by kernel_rfl) (fun _ _ _ h => h) (by rfl) hHeld ?_
  try simp only [Act.put, List.setIfInBounds_toArray, List.set_cons_zero, List.set_cons_succ]
  refine passH (d := some 41) 10 rfl rfl (by kernel_rfl) (by kernel_rfl) (by kernel_rfl) (fun _ _ _ h => h) (by rfl) hHeld ?_
  try simp only [Act.put, List.setIfInBounds_toArray, List.set_cons_zero, List.set_cons_succ]
  refine passH (d := some 42) 11 rfl rfl (by kernel_rfl) (by kernel_rfl) (by kernel_rfl) (fun _ _ _ h => h) (by rfl) hHeld ?_
  try simp only [Act.put, List.setIfInBounds_toArray, List.set_cons_zero, List.set_cons_succ]
  refine passH (d := some 43) 12 rfl rfl (by kernel_rfl) (by kernel_rfl) (by kernel_rfl) (fun _ _ _ h => h) (by rfl) hHeld ?_
  try simp only [Act.put, List.setIfInBounds_toArray, List.set_cons_zero, List.set_cons_succ]
  refine takeH (d := some 44) (v := ?_) 13 rfl rfl (by kernel_rfl) (by kernel_rfl) (by kernel_rfl) (fun _ _ _ h => h) (by rfl) ?_ hHeld ?_
  rotate_left
  · intro w hSw
    try dsimp only at hSw
    go_simp <;> with_reducible rfl
  try simp only [Act.put, List.setIfInBounds_toArray, List.set_cons_zero, List.set_cons_succ]
  refine takeH (d := some 45) (v := ?_) 14 rfl rfl (by kernel_rfl) (by kernel_rfl) (by kernel_rfl) (fun _ _ _ h => h) (by rfl) ?_ hHeld ?_
  rotate_left
  · intro w hSw
    try dsimp only at hSw
    go_simp <;> with_reducible rfl
  try simp only [Act.put, List.setIfInBounds_toArray, List.set_cons_zero, List.set_cons_succ]
  refine takeH (d := some 46) (v := ?_) 15 rfl rfl (by kernel_rfl) (by kernel_rfl) (by kernel_rfl) (fun _ _ _ h => h) (by rfl) ?_ hHeld ?_
  rotate_left
  · intro w hSw
    try dsimp only at hSw
    go_simp <;> with_reducible rfl
  try simp only [Act.put, List.setIfInBounds_toArray, List.set_cons_zero, List.set_cons_succ]
  refine takeH (d := some 47) (v := ?_) 16 rfl rfl (by kernel_rfl) (by kernel_rfl) (by kernel_rfl) (fun _ _ _ h => h) (by rfl) ?_ hHeld ?_
  rotate_left
  · intro w hSw
    try dsimp only at hSw
    go_simp <;> with_reducible rfl
  try simp only [Act.put, List.setIfInBounds_toArray, List.set_cons_zero, List.set_cons_succ]
  refine wpAnyH_ready (rs := [17]) (by kernel_rfl) (by simp) ?_
  refine AllReadyH.cons rfl (fun K hK => ?_) AllReadyH.nil
  go_simp
  refine (Below_calls (T0.out.below H1.out) (T1.out.below H1.out)).mono ?_
  rw [AB.out]
  rintro e w8 ⟨rfl, hB⟩
  have H4 := Aside0.mk (below_then H1.out (H1.out).size hB)
  clear hB
  refine hK.out _ _ (OK.out _ H4.out) (fun hHeld => ?_)
  clear hK K
  try simp only [Act.put, List.setIfInBounds_toArray, List.set_cons_zero, List.set_cons_succ]
  refine takeH (d := some 49) (v := ?_) 18 rfl rfl (by kernel_rfl) (by kernel_rfl) (by kernel_rfl) (fun _ _ _ h => h) (by rfl) ?_ hHeld ?_
  rotate_left
  · intro w hSw
    try dsimp only at hSw
    go_simp <;> with_reducible rfl
  try simp only [Act.put, List.setIfInBounds_toArray, List.set_cons_zero, List.set_cons_succ]
  refine passH (d := some 50) 19 rfl rfl (by kernel_rfl) (by kernel_rfl) (by kernel_rfl) (fun _ _ _ h => h) (by rfl) hHeld ?_
  try simp only [Act.put, List.setIfInBounds_toArray, List.set_cons_zero, List.set_cons_succ]
  refine passH (d := some 51) 20 rfl rfl (by kernel_rfl) (by kernel_rfl) (by kernel_rfl) (fun _ _ _ h => h) (by rfl) hHeld ?_
  try simp only [Act.put, List.setIfInBounds_toArray, List.set_cons_zero, List.set_cons_succ]
  refine passH (d := some 52) 21 rfl rfl (by kernel_rfl) (by kernel_rfl) (by kernel_rfl) (fun _ _ _ h => h) (by rfl) hHeld ?_
  try simp only [Act.put, List.setIfInBounds_toArray, List.set_cons_zero, List.set_cons_succ]
  refine passH (d := some 53) 22 rfl rfl (by kernel_rfl) (by kernel_rfl) (by kernel_rfl) (fun _ _ _ h => h) (by rfl) hHeld ?_
  try simp only [Act.put, List.setIfInBounds_toArray, List.set_cons_zero, List.set_cons_succ]
  refine passH (d := some 54) 23 rfl rfl (by kernel_rfl) (by kernel_rfl) (by kernel_rfl) (fun _ _ _ h => h) (by rfl) hHeld ?_
  try simp only [Act.put, List.setIfInBounds_toArray, List.set_cons_zero, List.set_cons_succ]
  refine passH (d := some 55) 24 rfl rfl (by kernel_rfl) (by kernel_rfl) (by kernel_rfl) (fun _ _ _ h => h) (by rfl) hHeld ?_
  try simp only [Act.put, List.setIfInBounds_toArray, List.set_cons_zero, List.set_cons_succ]
  refine passH (d := some 56) 25 rfl rfl (by kernel_rfl) (by kernel_rfl) (by kernel_rfl) (fun _ _ _ h => h) (by rfl) hHeld ?_
  try simp only [Act.put, List.setIfInBounds_toArray, List.set_cons_zero, List.set_cons_succ]
  refine takeH (d := some 57) (v := ?_) 26 rfl rfl (by kernel_rfl) (by kernel_rfl) (by kernel_rfl) (fun _ _ _ h => h) (by rfl) ?_ hHeld ?_
  rotate_left
  · intro w hSw
    try dsimp only at hSw
    go_simp <;> with_reducible rfl
  try simp only [Act.put, List.setIfInBounds_toArray, List.set_cons_zero, List.set_cons_succ]
  refine takeH (d := some 58) (v := ?_) 27 rfl rfl (by kernel_rfl) (by kernel_rfl) (by kernel_rfl) (fun _ _ _ h => h) (by rfl) ?_ hHeld ?_
  rotate_left
  · intro w hSw
    try dsimp only at hSw
    go_simp <;> with_reducible rfl
  try simp only [Act.put, List.setIfInBounds_toArray, List.set_cons_zero, List.set_cons_succ]
  refine wpAnyH_done (by kernel_rfl) ?_ _
  go_wp2_with fail
  replace K1 := Aside0.mk (blk_below K1.out H4.out)
  replace K2 := Aside0.mk (blk_below K2.out H4.out)
  replace K3 := Aside0.mk (blk_below K3.out H4.out)
  replace T0 := Aside0.mk (IsT.below T0.out H4.out)
  replace T1 := Aside0.mk (IsT.below T1.out H4.out)
  replace T2 := Aside0.mk (IsT.below T2.out H4.out)
  replace HB := Aside0.mk (below_then HB.out HB.out.size H4.out)
  clear OK HBW
  obtain ⟨e10, e11⟩ := c26_of K1.out (Below.refl _ _)
  obtain ⟨e20, e21⟩ := c26_of K2.out (Below.refl _ _)
  obtain ⟨e30, e31⟩ := c26_of K3.out (Below.refl _ _)
  have q1 := blk_lt K1.out
  have q2 := blk_lt K2.out
  have q3 := blk_lt K3.out
  go_wp2_with fail
  refine (Known_calls T0.out).mono ?_
  rw [KA.out]
  rintro e w11 ⟨rfl, hB⟩
  replace K1 := Aside0.mk (blk_below K1.out hB)
  replace K2 := Aside0.mk (blk_below K2.out hB)
  replace K3 := Aside0.mk (blk_below K3.out hB)
  replace T0 := Aside0.mk (IsT.below T0.out hB)
  replace T1 := Aside0.mk (IsT.below T1.out hB)
  replace T2 := Aside0.mk (IsT.below T2.out hB)
  replace HB := Aside0.mk (below_then HB.out HB.out.size hB)
  clear hB e10 e11 e20 e21 e30 e31 q1 q2 q3
  obtain ⟨e10, e11⟩ := c26_of K1.out (Below.refl _ _)
  obtain ⟨e20, e21⟩ := c26_of K2.out (Below.refl _ _)
  obtain ⟨e30, e31⟩ := c26_of K3.out (Below.refl _ _)
  have q1 := blk_lt K1.out
  have q2 := blk_lt K2.out
  have q3 := blk_lt K3.out
  go_wp2_with fail
  refine (Known_calls T1.out).mono ?_
  rw [KB.out]
  rintro e w12 ⟨rfl, hB⟩
  replace K1 := Aside0.mk (blk_below K1.out hB)
  replace K2 := Aside0.mk (blk_below K2.out hB)
  replace K3 := Aside0.mk (blk_below K3.out hB)
  replace T0 := Aside0.mk (IsT.below T0.out hB)
  replace T1 := Aside0.mk (IsT.below T1.out hB)
  replace T2 := Aside0.mk (IsT.below T2.out hB)
  replace HB := Aside0.mk (below_then HB.out HB.out.size hB)
  clear hB e10 e11 e20 e21 e30 e31 q1 q2 q3
  obtain ⟨e10, e11⟩ := c26_of K1.out (Below.refl _ _)
  obtain ⟨e20, e21⟩ := c26_of K2.out (Below.refl _ _)
  obtain ⟨e30, e31⟩ := c26_of K3.out (Below.refl _ _)
  have q1 := blk_lt K1.out
  have q2 := blk_lt K2.out
  have q3 := blk_lt K3.out
  go_wp2_with fail
  refine (wakes8_calls _).mono ?_
  rintro e wE ⟨rfl, hB⟩
  replace HB := Aside0.mk (below_then HB.out HB.out.size hB)
  clear hB e10 e11 e20 e21 e30 e31 q1 q2 q3
  go_wp2_with fail
  go_ret
  exact ⟨rfl, HB.out⟩
set_option maxRecDepth 100000 in
set_option maxHeartbeats 3200000 in
theorem orders_no_ka_kb (a b c : S26) (w : World) (A : Option Addr) (ca : Nat) (B : Option Addr) (cb : Nat) (C : Option Addr) (cc : Nat) (T0 : Aside0 (IsT w (.agg #[.int .i8 a.f0, .slice A a.f1.length ca]) a)) (T1 : Aside0 (IsT w (.agg #[.int .i8 b.f0, .slice B b.f1.length cb]) b)) (T2 : Aside0 (IsT w (.agg #[.int .i8 c.f0, .slice C c.f1.length cc]) c))
    (ck : Int) (ok s : Bool) (CK : Aside0 (checkI a = ck)) (dk : (ck == 0) = ok) (RF0 : Aside0 (relB 0 a a = ok)) (RF1 : Aside0 (relB 1 a a = ok)) (RF2 : Aside0 (relB 2 a a = ok)) (SA : Aside0 (sameB a b = s)) (AB : Aside0 (relB 0 a b = false)) (KA : Aside0 (knownB a = true)) (KB : Aside0 (knownB b = true)) (AS0 : Aside0 (relB 0 a b = s)) (AS1 : Aside0 (relB 1 a b = s)) (AS2 : Aside0 (relB 2 a b = s)) :
    Calls Try.prog 15 #[.agg #[.int .i8 a.f0, .slice A a.f1.length ca], .agg #[.int .i8 b.f0, .slice B b.f1.length cb], .agg #[.int .i8 c.f0, .slice C c.f1.length cc]] w fun e w' => e = .returned (.bool true) ∧ Below w.heap.size w w' := by
  go_enter Try.func15, Try.ntmps15
  go_wp2_with fail
  refine (Check_calls (T0.out.below (below3 ..))).mono ?_
  rw [CK.out]
  rintro e w1 ⟨rfl, hB⟩
  obtain ⟨b1, b2, b3, hB1⟩ := three_blocks hB
  have K1 := Aside0.mk b1
  have K2 := Aside0.mk b2
  have K3 := Aside0.mk b3
  have HB := Aside0.mk hB1
  replace T0 := Aside0.mk (IsT.below T0.out hB1)
  replace T1 := Aside0.mk (IsT.below T1.out hB1)
  replace T2 := Aside0.mk (IsT.below T2.out hB1)
  clear hB hB1 b1 b2 b3
  obtain ⟨e10, e11⟩ := c26_of K1.out (Below.refl _ _)
  obtain ⟨e20, e21⟩ := c26_of K2.out (Below.refl _ _)
  obtain ⟨e30, e31⟩ := c26_of K3.out (Below.refl _ _)
  have q1 := blk_lt K1.out
  have q2 := blk_lt K2.out
  have q3 := blk_lt K3.out
  go_wp2_with fail
  refine (Below_calls T0.out T0.out).mono ?_
  rw [RF0.out]
  rintro e w2 ⟨rfl, hB⟩
  replace K1 := Aside0.mk (blk_below K1.out hB)
  replace K2 := Aside0.mk (blk_below K2.out hB)
  replace K3 := Aside0.mk (blk_below K3.out hB)
  replace T0 := Aside0.mk (IsT.below T0.out hB)
  replace T1 := Aside0.mk (IsT.below T1.out hB)
  replace T2 := Aside0.mk (IsT.below T2.out hB)
  replace HB := Aside0.mk (below_then HB.out HB.out.size hB)
  clear hB e10 e11 e20 e21 e30 e31 q1 q2 q3
  obtain ⟨e10, e11⟩ := c26_of K1.out (Below.refl _ _)
  obtain ⟨e20, e21⟩ := c26_of K2.out (Below.refl _ _)
  obtain ⟨e30, e31⟩ := c26_of K3.out (Below.refl _ _)
  have q1 := blk_lt K1.out
  have q2 := blk_lt K2.out
  have q3 := blk_lt K3.out
  go_wp2_with fail
  refine (Pos_calls T0.out T0.out).mono ?_
  rw [RF1.out]
  rintro e w3 ⟨rfl, hB⟩
  replace K1 := Aside0.mk (blk_below K1.out hB)
  replace K2 := Aside0.mk (blk_below K2.out hB)
  replace K3 := Aside0.mk (blk_below K3.out hB)
  replace T0 := Aside0.mk (IsT.below T0.out hB)
  replace T1 := Aside0.mk (IsT.below T1.out hB)
  replace T2 := Aside0.mk (IsT.below T2.out hB)
  replace HB := Aside0.mk (below_then HB.out HB.out.size hB)
  clear hB e10 e11 e20 e21 e30 e31 q1 q2 q3
  obtain ⟨e10, e11⟩ := c26_of K1.out (Below.refl _ _)
  obtain ⟨e20, e21⟩ := c26_of K2.out (Below.refl _ _)
  obtain ⟨e30, e31⟩ := c26_of K3.out (Below.refl _ _)
  have q1 := blk_lt K1.out
  have q2 := blk_lt K2.out
  have q3 := blk_lt K3.out
  go_wp2_with fail
  refine (Neg_calls T0.out T0.out).mono ?_
  rw [RF2.out]
  rintro e w4 ⟨rfl, hB⟩
  replace K1 := Aside0.mk (blk_below K1.out hB)
  replace K2 := Aside0.mk (blk_below K2.out hB)
  replace K3 := Aside0.mk (blk_below K3.out hB)
  replace T0 := Aside0.mk (IsT.below T0.out hB)
  replace T1 := Aside0.mk (IsT.below T1.out hB)
  replace T2 := Aside0.mk (IsT.below T2.out hB)
  replace HB := Aside0.mk (below_then HB.out HB.out.size hB)
  clear hB e10 e11 e20 e21 e30 e31 q1 q2 q3
  obtain ⟨e10, e11⟩ := c26_of K1.out (Below.refl _ _)
  obtain ⟨e20, e21⟩ := c26_of K2.out (Below.refl _ _)
  obtain ⟨e30, e31⟩ := c26_of K3.out (Below.refl _ _)
  have q1 := blk_lt K1.out
  have q2 := blk_lt K2.out
  have q3 := blk_lt K3.out
  go_wp2_with fail
  have OK := Aside0.mk (fun w' (h : Below w4.heap.size w4 w') => (⟨c26_of K1.out h, c26_of K2.out h, c26_of K3.out h⟩ : ((w'.cell? ⟨w.heap.size, 0, none⟩ = some (.int .i8 a.f0) ∧ w'.cell? ⟨w.heap.size, 1, none⟩ = some (.slice A a.f1.length ca)) ∧ (w'.cell? ⟨(w.heap.size + 1), 0, none⟩ = some (.int .i8 b.f0) ∧ w'.cell? ⟨(w.heap.size + 1), 1, none⟩ = some (.slice B b.f1.length cb)) ∧ (w'.cell? ⟨(w.heap.size + 1 + 1), 0, none⟩ = some (.int .i8 c.f0) ∧ w'.cell? ⟨(w.heap.size + 1 + 1), 1, none⟩ = some (.slice C c.f1.length cc)))))
  have HBW := Aside0.mk (Below.refl w4.heap.size w4)
  clear e10 e11 e20 e21 e30 e31 q1 q2 q3
  refine wp_region_held_drew (S := (fun w' => ((w'.cell? ⟨w.heap.size, 0, none⟩ = some (.int .i8 a.f0) ∧ w'.cell? ⟨w.heap.size, 1, none⟩ = some (.slice A a.f1.length ca)) ∧ (w'.cell? ⟨(w.heap.size + 1), 0, none⟩ = some (.int .i8 b.f0) ∧ w'.cell? ⟨(w.heap.size + 1), 1, none⟩ = some (.slice B b.f1.length cb)) ∧ (w'.cell? ⟨(w.heap.size + 1 + 1), 0, none⟩ = some (.int .i8 c.f0) ∧ w'.cell? ⟨(w.heap.size + 1 + 1), 1, none⟩ = some (.slice C c.f1.length cc))))) (by kernel_rfl) (OK.out _ HBW.out.drew) (fun hHeld => ?_)
  refine takeH (d := some 31) (v := ?_) 0 rfl rfl (by kernel_rfl) (by kernel_rfl) (by kernel_rfl) (fun _ _ _ h => h) (by rfl) ?_ hHeld ?_
  rotate_left
  · intro w hSw
    try dsimp only at hSw
    go_simp <;> with_reducible rfl
  try simp only [Act.put, List.setIfInBounds_toArray, List.set_cons_zero, List.set_cons_succ]
  refine takeH (d := some 32) (v := ?_) 1 rfl rfl (by kernel_rfl) (by kernel_rfl) (by kernel_rfl) (fun _ _ _ h => h) (by rfl) ?_ hHeld ?_
  rotate_left
  · intro w hSw
    try dsimp only at hSw
    go_simp <;> with_reducible rfl
  try simp only [Act.put, List.setIfInBounds_toArray, List.set_cons_zero, List.set_cons_succ]
  refine wpAnyH_ready (rs := [2]) (by kernel_rfl) (by simp) ?_
  refine AllReadyH.cons rfl (fun K hK => ?_) AllReadyH.nil
  go_simp
  refine (Below_calls (T0.out.below HBW.out.drew) (T1.out.below HBW.out.drew)).mono ?_
  rw [AB.out]
  rintro e w5 ⟨rfl, hB⟩
  have H1 := Aside0.mk (below_then HBW.out.drew (HBW.out.drew).size hB)
  clear hB
  refine hK.out _ _ (OK.out _ H1.out) (fun hHeld => ?_)
  clear hK K
  try simp only [Act.put, List.setIfInBounds_toArray, List.set_cons_zero, List.set_cons_succ]
  refine takeH (d := some 34) (v := ?_) 3 rfl rfl (by kernel_rfl) (by kernel_rfl) (by kernel_rfl) (fun _ _ _ h => h) (by rfl) ?_ hHeld ?_
  rotate_left
  · intro w hSw
    try dsimp only at hSw
    go_simp <;> with_reducible rfl
  try simp only [Act.put, List.setIfInBounds_toArray, List.set_cons_zero, List.set_cons_succ]
  refine passH (d := some 35) 4 rfl rfl (by kernel_rfl) (by kernel_rfl) (by kernel_rfl) (fun _ _ _ h => h) (by rfl) hHeld ?_
  try simp only [Act.put, List.setIfInBounds_toArray, List.set_cons_zero, List.set_cons_succ]
  refine passH (d := some 36) 5 rfl rfl (by kernel_rfl) (by kernel_rfl) (by kernel_rfl) (fun _ _ _ h => h) (by rfl) hHeld ?_
  try simp only [Act.put, List.setIfInBounds_toArray, List.set_cons_zero, List.set_cons_succ]
  refine passH (d := some 37) 6 rfl rfl (by kernel_rfl) (by kernel_rfl) (by kernel_rfl) (fun _ _ _ h => h) (by rfl) hHeld ?_
  try simp only [Act.put, List.setIfInBounds_toArray, List.set_cons_zero, List.set_cons_succ]
  refine takeH (d := some 38) (v := ?_) 7 rfl rfl (by kernel_rfl) (by kernel_rfl) (by kernel_rfl) (fun _ _ _ h => h) (by rfl) ?_ hHeld ?_
  rotate_left
  · intro w hSw
    try dsimp only at hSw
    go_simp <;> with_reducible rfl
  try simp only [Act.put, List.setIfInBounds_toArray, List.set_cons_zero, List.set_cons_succ]
  refine takeH (d := some 39) (v := ?_) 8 rfl rfl (by kernel_rfl) (by kernel_rfl) (by kernel_rfl) (fun _ _ _ h => h) (by rfl) ?_ hHeld ?_
  rotate_left
  · intro w hSw
    try dsimp only at hSw
    go_simp <;> with_reducible rfl
  try simp only [Act.put, List.setIfInBounds_toArray, List.set_cons_zero, List.set_cons_succ]
  refine passH (d := some 40) 9 rfl rfl (by kernel_rfl) (by kernel_rfl) (by kernel_rfl) (fun _ _ _ h => h) (by rfl) hHeld ?_
  try simp only [Act.put, List.setIfInBounds_toArray, List.set_cons_zero, List.set_cons_succ]
  refine passH (d := some 41) 10 rfl rfl (by kernel_rfl) (by kernel_rfl) (by kernel_rfl) (fun _ _ _ h => h) (by rfl) hHeld ?_
  try simp only [Act.put, List.setIfInBounds_toArray, List.set_cons_zero, List.set_cons_succ]
  refine passH (d := some 42) 11 rfl rfl (by kernel_rfl) (by kernel_rfl) (by kernel_rfl) (fun _ _ _ h => h) (by rfl) hHeld ?_
  try simp only [Act.put, List.setIfInBounds_toArray, List.set_cons_zero, List.set_cons_succ]
  refine passH (d := some 43) 12 rfl rfl (by kernel_rfl) (by kernel_rfl) (by kernel_rfl) (fun _ _ _ h => h) (by rfl) hHeld ?_
  try simp only [Act.put, List.setIfInBounds_toArray, List.set_cons_zero, List.set_cons_succ]
  refine takeH (d := some 44) (v := ?_) 13 rfl rfl (by kernel_rfl) (by kernel_rfl) (by kernel_rfl) (fun _ _ _ h => h) (by rfl) ?_ hHeld ?_
  rotate_left
  · intro w hSw
    try dsimp only at hSw
    go_simp <;> with_reducible rfl
  try simp only [Act.put, List.setIfInBounds_toArray, List.set_cons_zero, List.set_cons_succ]
  refine takeH (d := some 45) (v := ?_) 14 rfl rfl (by kernel_rfl) (by kernel_rfl) (by kernel_rfl) (fun _ _ _ h => h) (by rfl) ?_ hHeld ?_
  rotate_left
  · intro w hSw
    try dsimp only at hSw
    go_simp <;> with_reducible rfl
  try simp only [Act.put, List.setIfInBounds_toArray, List.set_cons_zero, List.set_cons_succ]
  refine takeH (d := some 46) (v := ?_) 15 rfl rfl (by kernel_rfl) (by kernel_rfl) (by kernel_rfl) (fun _ _ _ h => h) (by rfl) ?_ hHeld ?_
  rotate_left
  · intro w hSw
    try dsimp only at hSw
    go_simp <;> with_reducible rfl
  try simp only [Act.put, List.setIfInBounds_toArray, List.set_cons_zero, List.set_cons_succ]
  refine takeH (d := some 47) (v := ?_) 16 rfl rfl (by kernel_rfl) (by kernel_rfl) (by kernel_rfl) (fun _ _ _ h => h) (by rfl) ?_ hHeld ?_
  rotate_left
  · intro w hSw
    try dsimp only at hSw
    go_simp <;> with_reducible rfl
  try simp only [Act.put, List.setIfInBounds_toArray, List.set_cons_zero, List.set_cons_succ]
  refine wpAnyH_ready (rs := [17]) (by kernel_rfl) (by simp) ?_
  refine AllReadyH.cons rfl (fun K hK => ?_) AllReadyH.nil
  go_simp
  refine (Below_calls (T0.out.below H1.out) (T1.out.below H1.out)).mono ?_
  rw [AB.out]
  rintro e w8 ⟨rfl, hB⟩
  have H4 := Aside0.mk (below_then H1.out (H1.out).size hB)
  clear hB
  refine hK.out _ _ (OK.out _ H4.out) (fun hHeld => ?_)
  clear hK K
  try simp only [Act.put, List.setIfInBounds_toArray, List.set_cons_zero, List.set_cons_succ]
  refine takeH (d := some 49) (v := ?_) 18 rfl rfl (by kernel_rfl) (by kernel_rfl) (by kernel_rfl) (fun _ _ _ h => h) (by rfl) ?_ hHeld ?_
  rotate_left
  · intro w hSw
    try dsimp only at hSw
    go_simp <;> with_reducible rfl
  try simp only [Act.put, List.setIfInBounds_toArray, List.set_cons_zero, List.set_cons_succ]
  refine passH (d := some 50) 19 rfl rfl (by kernel_rfl) (by kernel_rfl) (by kernel_rfl) (fun _ _ _ h => h) (by rfl) hHeld ?_
  try simp only [Act.put, List.setIfInBounds_toArray, List.set_cons_zero, List.set_cons_succ]
  refine passH (d := some 51) 20 rfl rfl (by kernel_rfl) (by kernel_rfl) (by kernel_rfl) (fun _ _ _ h => h) (by rfl) hHeld ?_
  try simp only [Act.put, List.setIfInBounds_toArray, List.set_cons_zero, List.set_cons_succ]
  refine passH (d := some 52) 21 rfl rfl (by kernel_rfl) (by kernel_rfl) (by kernel_rfl) (fun _ _ _ h => h) (by rfl) hHeld ?_
  try simp only [Act.put, List.setIfInBounds_toArray, List.set_cons_zero, List.set_cons_succ]
  refine passH (d := some 53) 22 rfl rfl (by kernel_rfl) (by kernel_rfl) (by kernel_rfl) (fun _ _ _ h => h) (by rfl) hHeld ?_
  try simp only [Act.put, List.setIfInBounds_toArray, List.set_cons_zero, List.set_cons_succ]
  refine passH (d := some 54) 23 rfl rfl (by kernel_rfl) (by kernel_rfl) (by kernel_rfl) (fun _ _ _ h => h) (by rfl) hHeld ?_
  try simp only [Act.put, List.setIfInBounds_toArray, List.set_cons_zero, List.set_cons_succ]
  refine passH (d := some 55) 24 rfl rfl (by kernel_rfl) (by kernel_rfl) (by kernel_rfl) (fun _ _ _ h => h) (by rfl) hHeld ?_
  try simp only [Act.put, List.setIfInBounds_toArray, List.set_cons_zero, List.set_cons_succ]
  refine passH (d := some 56) 25 rfl rfl (by kernel_rfl) (by kernel_rfl) (by kernel_rfl) (fun _ _ _ h => h) (by rfl) hHeld ?_
  try simp only [Act.put, List.setIfInBounds_toArray, List.set_cons_zero, List.set_cons_succ]
  refine takeH (d := some 57) (v := ?_) 26 rfl rfl (by kernel_rfl) (by kernel_rfl) (by kernel_rfl) (fun _ _ _ h => h) (by rfl) ?_ hHeld ?_
  rotate_left
  · intro w hSw
    try dsimp only at hSw
    go_simp <;> with_reducible rfl
  try simp only [Act.put, List.setIfInBounds_toArray, List.set_cons_zero, List.set_cons_succ]
  refine takeH (d := some 58) (v := ?_) 27 rfl rfl (by kernel_rfl) (by kernel_rfl) (by kernel_rfl) (fun _ _ _ h => h) (by rfl) ?_ hHeld ?_
  rotate_left
  · intro w hSw
    try dsimp only at hSw
    go_simp <;> with_reducible rfl
  try simp only [Act.put, List.setIfInBounds_toArray, List.set_cons_zero, List.set_cons_succ]
  refine wpAnyH_done (by kernel_rfl) ?_ _
  go_wp2_with fail
  replace K1 := Aside0.mk (blk_below K1.out H4.out)
  replace K2 := Aside0.mk (blk_below K2.out H4.out)
  replace K3 := Aside0.mk (blk_below K3.out H4.out)
  replace T0 := Aside0.mk (IsT.below T0.out H4.out)
  replace T1 := Aside0.mk (IsT.below T1.out H4.out)
  replace T2 := Aside0.mk (IsT.below T2.out H4.out)
  replace HB := Aside0.mk (below_then HB.out HB.out.size H4.out)
  clear OK HBW
  obtain ⟨e10, e11⟩ := c26_of K1.out (Below.refl _ _)
  obtain ⟨e20, e21⟩ := c26_of K2.out (Below.refl _ _)
  obtain ⟨e30, e31⟩ := c26_of K3.out (Below.refl _ _)
  have q1 := blk_lt K1.out
  have q2 := blk_lt K2.out
  have q3 := blk_lt K3.out
  go_wp2_with fail
  refine (Known_calls T0.out).mono ?_
  rw [KA.out]
  rintro e w11 ⟨rfl, hB⟩
  replace K1 := Aside0.mk (blk_below K1.out hB)
  replace K2 := Aside0.mk (blk_below K2.out hB)
  replace K3 := Aside0.mk (blk_below K3.out hB)
  replace T0 := Aside0.mk (IsT.below T0.out hB)
  replace T1 := Aside0.mk (IsT.below T1.out hB)
  replace T2 := Aside0.mk (IsT.below T2.out hB)
  replace HB := Aside0.mk (below_then HB.out HB.out.size hB)
  clear hB e10 e11 e20 e21 e30 e31 q1 q2 q3
  obtain ⟨e10, e11⟩ := c26_of K1.out (Below.refl _ _)
  obtain ⟨e20, e21⟩ := c26_of K2.out (Below.refl _ _)
  obtain ⟨e30, e31⟩ := c26_of K3.out (Below.refl _ _)
  have q1 := blk_lt K1.out
  have q2 := blk_lt K2.out
  have q3 := blk_lt K3.out
  go_wp2_with fail
  refine (Known_calls T1.out).mono ?_
  rw [KB.out]
  rintro e w12 ⟨rfl, hB⟩
  replace K1 := Aside0.mk (blk_below K1.out hB)
  replace K2 := Aside0.mk (blk_below K2.out hB)
  replace K3 := Aside0.mk (blk_below K3.out hB)
  replace T0 := Aside0.mk (IsT.below T0.out hB)
  replace T1 := Aside0.mk (IsT.below T1.out hB)
  replace T2 := Aside0.mk (IsT.below T2.out hB)
  replace HB := Aside0.mk (below_then HB.out HB.out.size hB)
  clear hB e10 e11 e20 e21 e30 e31 q1 q2 q3
  obtain ⟨e10, e11⟩ := c26_of K1.out (Below.refl _ _)
  obtain ⟨e20, e21⟩ := c26_of K2.out (Below.refl _ _)
  obtain ⟨e30, e31⟩ := c26_of K3.out (Below.refl _ _)
  have q1 := blk_lt K1.out
  have q2 := blk_lt K2.out
  have q3 := blk_lt K3.out
  go_wp2_with fail
  refine (Same_calls T0.out T1.out).mono ?_
  rw [SA.out]
  rintro e w13 ⟨rfl, hB⟩
  replace K1 := Aside0.mk (blk_below K1.out hB)
  replace K2 := Aside0.mk (blk_below K2.out hB)
  replace K3 := Aside0.mk (blk_below K3.out hB)
  replace T0 := Aside0.mk (IsT.below T0.out hB)
  replace T1 := Aside0.mk (IsT.below T1.out hB)
  replace T2 := Aside0.mk (IsT.below T2.out hB)
  replace HB := Aside0.mk (below_then HB.out HB.out.size hB)
  clear hB e10 e11 e20 e21 e30 e31 q1 q2 q3
  obtain ⟨e10, e11⟩ := c26_of K1.out (Below.refl _ _)
  obtain ⟨e20, e21⟩ := c26_of K2.out (Below.refl _ _)
  obtain ⟨e30, e31⟩ := c26_of K3.out (Below.refl _ _)
  have q1 := blk_lt K1.out
  have q2 := blk_lt K2.out
  have q3 := blk_lt K3.out
  go_wp2_with fail
  refine (Below_calls T0.out T1.out).mono ?_
  rw [AS0.out]
  rintro e w14 ⟨rfl, hB⟩
  replace K1 := Aside0.mk (blk_below K1.out hB)
  replace K2 := Aside0.mk (blk_below K2.out hB)
  replace K3 := Aside0.mk (blk_below K3.out hB)
  replace T0 := Aside0.mk (IsT.below T0.out hB)
  replace T1 := Aside0.mk (IsT.below T1.out hB)
  replace T2 := Aside0.mk (IsT.below T2.out hB)
  replace HB := Aside0.mk (below_then HB.out HB.out.size hB)
  clear hB e10 e11 e20 e21 e30 e31 q1 q2 q3
  obtain ⟨e10, e11⟩ := c26_of K1.out (Below.refl _ _)
  obtain ⟨e20, e21⟩ := c26_of K2.out (Below.refl _ _)
  obtain ⟨e30, e31⟩ := c26_of K3.out (Below.refl _ _)
  have q1 := blk_lt K1.out
  have q2 := blk_lt K2.out
  have q3 := blk_lt K3.out
  go_wp2_with fail
  refine (Pos_calls T0.out T1.out).mono ?_
  rw [AS1.out]
  rintro e w15 ⟨rfl, hB⟩
  replace K1 := Aside0.mk (blk_below K1.out hB)
  replace K2 := Aside0.mk (blk_below K2.out hB)
  replace K3 := Aside0.mk (blk_below K3.out hB)
  replace T0 := Aside0.mk (IsT.below T0.out hB)
  replace T1 := Aside0.mk (IsT.below T1.out hB)
  replace T2 := Aside0.mk (IsT.below T2.out hB)
  replace HB := Aside0.mk (below_then HB.out HB.out.size hB)
  clear hB e10 e11 e20 e21 e30 e31 q1 q2 q3
  obtain ⟨e10, e11⟩ := c26_of K1.out (Below.refl _ _)
  obtain ⟨e20, e21⟩ := c26_of K2.out (Below.refl _ _)
  obtain ⟨e30, e31⟩ := c26_of K3.out (Below.refl _ _)
  have q1 := blk_lt K1.out
  have q2 := blk_lt K2.out
  have q3 := blk_lt K3.out
  go_wp2_with fail
  refine (Neg_calls T0.out T1.out).mono ?_
  rw [AS2.out]
  rintro e w16 ⟨rfl, hB⟩
  replace K1 := Aside0.mk (blk_below K1.out hB)
  replace K2 := Aside0.mk (blk_below K2.out hB)
  replace K3 := Aside0.mk (blk_below K3.out hB)
  replace T0 := Aside0.mk (IsT.below T0.out hB)
  replace T1 := Aside0.mk (IsT.below T1.out hB)
  replace T2 := Aside0.mk (IsT.below T2.out hB)
  replace HB := Aside0.mk (below_then HB.out HB.out.size hB)
  clear hB e10 e11 e20 e21 e30 e31 q1 q2 q3
  obtain ⟨e10, e11⟩ := c26_of K1.out (Below.refl _ _)
  obtain ⟨e20, e21⟩ := c26_of K2.out (Below.refl _ _)
  obtain ⟨e30, e31⟩ := c26_of K3.out (Below.refl _ _)
  have q1 := blk_lt K1.out
  have q2 := blk_lt K2.out
  have q3 := blk_lt K3.out
  go_wp2_with fail
  refine (wakes8_calls _).mono ?_
  rintro e wE ⟨rfl, hB⟩
  replace HB := Aside0.mk (below_then HB.out HB.out.size hB)
  clear hB e10 e11 e20 e21 e30 e31 q1 q2 q3
  go_wp2_with fail
  go_ret
  exact ⟨rfl, HB.out⟩
end Go.Proofs.Ytamhdpllmhafhaa.X
