/- The walk of the law AgreeGoes: the first is known. -/
import Derived.Test.YtamhdpllmhafhaaHWakes6
import Derived.Test.YtamhdpllmhafhaaHTake
import Derived.Test.YtamhdpllmhafhaaHOpened
import Derived.Test.YtamhdpllmhafhaaHSmall
namespace Go.Proofs.Ytamhdpllmhafhaa.X
open Go.RowKit Go.Proofs.YtamhdpllmhafhaaW.PrintWords Go.Proofs.YtamhdpllmhafhaaW.PrintLast Go.Proofs.YtamhdpllmhafhaaW.PrintMore
set_option linter.unusedVariables false
set_option linter.unusedSimpArgs false

set_option maxRecDepth 100000 in
set_option maxHeartbeats 1600000 in
theorem agreeGoes_b_no (kb : Bool) (t0 t1 : S26) (spot : Int) (w : World) (A0 : Option Addr) (c0 : Nat) (A1 : Option Addr) (c1 : Nat) (T0 : Aside0 (IsT w (.agg #[.int .i8 t0.f0, .slice A0 t0.f1.length c0]) t0)) (T1 : Aside0 (IsT w (.agg #[.int .i8 t1.f0, .slice A1 t1.f1.length c1]) t1))
    (S0 : Aside0 (smallB t0 = true)) (S1 : Aside0 (smallB t1 = true)) (CK : Aside0 (checkI t0 = 0)) (RT : Aside0 (rightB t0 = true)) (AG : Aside0 (agreeB t0 t1 = false)) (AGS : Aside0 (agreeB t1 t0 = false)) (AR : Aside0 (agreeB t0 t0 = true)) (AZ : Aside0 (agreeB t0 z26 = true)) (KA : Aside0 (knownB t0 = true)) (KB : Aside0 (knownB t1 = false))  :
    Calls Try.prog 9 #[.agg #[.int .i8 t0.f0, .slice A0 t0.f1.length c0], .agg #[.int .i8 t1.f0, .slice A1 t1.f1.length c1], .int .i64 spot] w fun e w' => e = .returned (.bool true) ∧ Below w.heap.size w w' := by
  go_enter Try.func9, Try.ntmps9
  go_wp2_with fail
  refine (Small_calls (T0.out.below (below2 ..))).mono ?_
  rw [S0.out]
  rintro e w1 ⟨rfl, hB⟩
  obtain ⟨b1, b2, hB1⟩ := two_blocks hB
  have HB1 := Aside0.mk hB1
  have K1 := Aside0.mk b1
  have K2 := Aside0.mk b2
  replace T0 := Aside0.mk (IsT.below T0.out hB1)
  replace T1 := Aside0.mk (IsT.below T1.out hB1)
  clear hB hB1 b1 b2
  obtain ⟨e10, e11⟩ := c26_of K1.out (Below.refl _ _)
  have q1 := blk_lt K1.out
  obtain ⟨e20, e21⟩ := c26_of K2.out (Below.refl _ _)
  have q2 := blk_lt K2.out
  go_wp2_with fail
  refine (Small_calls T1.out).mono ?_
  rw [S1.out]
  rintro e w2 ⟨rfl, hB⟩
  replace K1 := Aside0.mk (blk_below K1.out hB)
  replace K2 := Aside0.mk (blk_below K2.out hB)
  replace T0 := Aside0.mk (IsT.below T0.out hB)
  replace T1 := Aside0.mk (IsT.below T1.out hB)
  have HB2 := Aside0.mk (below_then HB1.out HB1.out.size hB)
  clear e10 e11 e20 e21 q1 q2 hB HB1
  obtain ⟨e10, e11⟩ := c26_of K1.out (Below.refl _ _)
  have q1 := blk_lt K1.out
  go_wp2_with fail
  refine (Check_calls T0.out).mono ?_
  rw [CK.out]
  rintro e w3 ⟨rfl, hB⟩
  replace K1 := Aside0.mk (blk_below K1.out hB)
  replace K2 := Aside0.mk (blk_below K2.out hB)
  replace T0 := Aside0.mk (IsT.below T0.out hB)
  replace T1 := Aside0.mk (IsT.below T1.out hB)
  have HB3 := Aside0.mk (below_then HB2.out HB2.out.size hB)
  clear e10 e11 q1 hB HB2 S0 S1
  go_wp2_with fail
  have OK := Aside0.mk (fun w' (h : Below w3.heap.size w3 w') => (⟨c26_of K1.out h, c26_of K2.out h⟩ : (w'.cell? ⟨w.heap.size, 0, none⟩ = some (.int .i8 t0.f0) ∧ w'.cell? ⟨w.heap.size, 1, none⟩ = some (.slice A0 t0.f1.length c0)) ∧ (w'.cell? ⟨(w.heap.size + 1), 0, none⟩ = some (.int .i8 t1.f0) ∧ w'.cell? ⟨(w.heap.size + 1), 1, none⟩ = some (.slice A1 t1.f1.length c1))))
  have HBW := Aside0.mk (Below.refl w3.heap.size w3)
  have tok1 : True := trivial
  have tok2 : True := trivial
  have tok3 : True := trivial
  go_region_held3 (fun w' => (w'.cell? ⟨w.heap.size, 0, none⟩ = some (.int .i8 t0.f0) ∧ w'.cell? ⟨w.heap.size, 1, none⟩ = some (.slice A0 t0.f1.length c0)) ∧ (w'.cell? ⟨(w.heap.size + 1), 0, none⟩ = some (.int .i8 t1.f0) ∧ w'.cell? ⟨(w.heap.size + 1), 1, none⟩ = some (.slice A1 t1.f1.length c1)))
    (first | exact OK.out _ HBW.out | exact OK.out _ HBW.out.drew | exact OK.out _ HB4.out | exact OK.out _ HB5.out | exact OK.out _ HB6.out | exact OK.out _ HB7.out)
    (first
      | (go_at_call 24; have _t := tok1; refine (Agree_calls (T0.out.below HBW.out.drew) (T1.out.below HBW.out.drew)).mono ?_; rw [AG.out]; rintro e w4 ⟨rfl, hB⟩; clear tok1; have HB4 := Aside0.mk (below_then HBW.out.drew HBW.out.drew.size hB); clear hB)
      | (go_at_call 24; have _t := tok2; refine (Agree_calls (T1.out.below HB4.out) (T0.out.below HB4.out)).mono ?_; rw [AGS.out]; rintro e w5 ⟨rfl, hB⟩; clear tok2; have HB5 := Aside0.mk (below_then HB4.out HB4.out.size hB); clear hB)
      | (go_at_call 24; have _t := tok3; refine (Agree_calls (T0.out.below HB5.out) (T0.out.below HB5.out)).mono ?_; rw [AR.out]; rintro e w6 ⟨rfl, hB⟩; clear tok3; have HB6 := Aside0.mk (below_then HB5.out HB5.out.size hB); clear hB)
      | (go_at_call 24; refine (Agree_calls (T0.out.below HB6.out) (IsT.zero _)).mono ?_; rw [AZ.out]; rintro e w7 ⟨rfl, hB⟩; have HB7 := Aside0.mk (below_then HB6.out HB6.out.size hB); clear hB))
  go_wp2_with fail
  replace HB3 := Aside0.mk (below_then HB3.out HB3.out.size HB7.out)
  replace K1 := Aside0.mk (blk_below K1.out HB7.out)
  replace K2 := Aside0.mk (blk_below K2.out HB7.out)
  replace T0 := Aside0.mk (IsT.below T0.out HB7.out)
  replace T1 := Aside0.mk (IsT.below T1.out HB7.out)
  clear OK HBW HB4 HB5 HB6 HB7
  have OK := Aside0.mk (fun w' (h : Below w7.heap.size w7 w') => (⟨c26_of K1.out h, c26_of K2.out h⟩ : (w'.cell? ⟨w.heap.size, 0, none⟩ = some (.int .i8 t0.f0) ∧ w'.cell? ⟨w.heap.size, 1, none⟩ = some (.slice A0 t0.f1.length c0)) ∧ (w'.cell? ⟨(w.heap.size + 1), 0, none⟩ = some (.int .i8 t1.f0) ∧ w'.cell? ⟨(w.heap.size + 1), 1, none⟩ = some (.slice A1 t1.f1.length c1))))
  have HBW := Aside0.mk (Below.refl w7.heap.size w7)
  refine wp_region_held_drew (S := (fun w' => (w'.cell? ⟨w.heap.size, 0, none⟩ = some (.int .i8 t0.f0) ∧ w'.cell? ⟨w.heap.size, 1, none⟩ = some (.slice A0 t0.f1.length c0)) ∧ (w'.cell? ⟨(w.heap.size + 1), 0, none⟩ = some (.int .i8 t1.f0) ∧ w'.cell? ⟨(w.heap.size + 1), 1, none⟩ = some (.slice A1 t1.f1.length c1)))) (by kernel_rfl) (OK.out _ HBW.out.drew) (fun hHeld => ?_)
  refine takeH (d := some 43) (v := ?_) 0 rfl rfl (by kernel_rfl) (by kernel_rfl) (by kernel_rfl) (fun _ _ _ h => h) (by rfl) ?_ hHeld ?_
  rotate_left
  · intro w hSw
    try dsimp only at hSw
    go_simp <;> with_reducible rfl
  try simp only [Act.put, List.setIfInBounds_toArray, List.set_cons_zero, List.set_cons_succ]
  refine wpAnyH_ready (rs := [1]) (by kernel_rfl) (by simp) ?_
  refine AllReadyH.cons rfl (fun K hK => ?_) AllReadyH.nil
  go_simp
  refine (Known_calls (T0.out.below HBW.out.drew)).mono ?_
  rw [KA.out]
  rintro e w8 ⟨rfl, hB⟩
  have HB8 := Aside0.mk (below_then HBW.out.drew HBW.out.drew.size hB)
  clear hB
  refine hK.out _ _ (OK.out _ HB8.out) (fun hHeld => ?_)
  clear hK K
  try simp only [Act.put, List.setIfInBounds_toArray, List.set_cons_zero, List.set_cons_succ]
  refine takeH (d := some 45) (v := ?_) 2 rfl rfl (by kernel_rfl) (by kernel_rfl) (by kernel_rfl) (fun _ _ _ h => h) (by rfl) ?_ hHeld ?_
  rotate_left
  · intro w hSw
    try dsimp only at hSw
    go_simp <;> with_reducible rfl
  try simp only [Act.put, List.setIfInBounds_toArray, List.set_cons_zero, List.set_cons_succ]
  refine takeH (d := some 46) (v := ?_) 3 rfl rfl (by kernel_rfl) (by kernel_rfl) (by kernel_rfl) (fun _ _ _ h => h) (by rfl) ?_ hHeld ?_
  rotate_left
  · intro w hSw
    try dsimp only at hSw
    go_simp <;> with_reducible rfl
  try simp only [Act.put, List.setIfInBounds_toArray, List.set_cons_zero, List.set_cons_succ]
  refine wpAnyH_ready (rs := [4]) (by kernel_rfl) (by simp) ?_
  refine AllReadyH.cons rfl (fun K hK => ?_) AllReadyH.nil
  go_simp
  refine (Known_calls (T1.out.below HB8.out)).mono ?_
  rw [KB.out]
  rintro e w9 ⟨rfl, hB⟩
  have HB9 := Aside0.mk (below_then HB8.out HB8.out.size hB)
  clear hB
  refine hK.out _ _ (OK.out _ HB9.out) (fun hHeld => ?_)
  clear hK K
  try simp only [Act.put, List.setIfInBounds_toArray, List.set_cons_zero, List.set_cons_succ]
  refine takeH (d := some 48) (v := ?_) 5 rfl rfl (by kernel_rfl) (by kernel_rfl) (by kernel_rfl) (fun _ _ _ h => h) (by rfl) ?_ hHeld ?_
  rotate_left
  · intro w hSw
    try dsimp only at hSw
    go_simp <;> with_reducible rfl
  try simp only [Act.put, List.setIfInBounds_toArray, List.set_cons_zero, List.set_cons_succ]
  refine takeH (d := some 49) (v := ?_) 6 rfl rfl (by kernel_rfl) (by kernel_rfl) (by kernel_rfl) (fun _ _ _ h => h) (by rfl) ?_ hHeld ?_
  rotate_left
  · intro w hSw
    try dsimp only at hSw
    go_simp <;> with_reducible rfl
  try simp only [Act.put, List.setIfInBounds_toArray, List.set_cons_zero, List.set_cons_succ]
  refine passH (d := some 50) 7 rfl rfl (by kernel_rfl) (by kernel_rfl) (by kernel_rfl) (fun _ _ _ h => h) (by rfl) hHeld ?_
  try simp only [Act.put, List.setIfInBounds_toArray, List.set_cons_zero, List.set_cons_succ]
  refine passH (d := some 51) 8 rfl rfl (by kernel_rfl) (by kernel_rfl) (by kernel_rfl) (fun _ _ _ h => h) (by rfl) hHeld ?_
  try simp only [Act.put, List.setIfInBounds_toArray, List.set_cons_zero, List.set_cons_succ]
  refine passH (d := some 52) 9 rfl rfl (by kernel_rfl) (by kernel_rfl) (by kernel_rfl) (fun _ _ _ h => h) (by rfl) hHeld ?_
  try simp only [Act.put, List.setIfInBounds_toArray, List.set_cons_zero, List.set_cons_succ]
  refine passH (d := some 53) 10 rfl rfl (by kernel_rfl) (by kernel_rfl) (by kernel_rfl) (fun _ _ _ h => h) (by rfl) hHeld ?_
  try simp only [Act.put, List.setIfInBounds_toArray, List.set_cons_zero, List.set_cons_succ]
  refine passH (d := some 54) 11 rfl rfl (by kernel_rfl) (by kernel_rfl) (by kernel_rfl) (fun _ _ _ h => h) (by rfl) hHeld ?_
  try simp only [Act.put, List.setIfInBounds_toArray, List.set_cons_zero, List.set_cons_succ]
  refine passH (d := some 55) 12 rfl rfl (by kernel_rfl) (by kernel_rfl) (by kernel_rfl) (fun _ _ _ h => h) (by rfl) hHeld ?_
  try simp only [Act.put, List.setIfInBounds_toArray, List.set_cons_zero, List.set_cons_succ]
  refine passH (d := some 56) 13 rfl rfl (by kernel_rfl) (by kernel_rfl) (by kernel_rfl) (fun _ _ _ h => h) (by rfl) hHeld ?_
  try simp only [Act.put, List.setIfInBounds_toArray, List.set_cons_zero, List.set_cons_succ]
  refine takeH (d := some 57) (v := ?_) 14 rfl rfl (by kernel_rfl) (by kernel_rfl) (by kernel_rfl) (fun _ _ _ h => h) (by rfl) ?_ hHeld ?_
  rotate_left
  · intro w hSw
    try dsimp only at hSw
    go_simp <;> with_reducible rfl
  try simp only [Act.put, List.setIfInBounds_toArray, List.set_cons_zero, List.set_cons_succ]
  refine wpAnyH_done (by kernel_rfl) ?_ _
  go_wp2_with fail
  replace HB3 := Aside0.mk (below_then HB3.out HB3.out.size HB9.out)
  replace K1 := Aside0.mk (blk_below K1.out HB9.out)
  replace K2 := Aside0.mk (blk_below K2.out HB9.out)
  replace T0 := Aside0.mk (IsT.below T0.out HB9.out)
  replace T1 := Aside0.mk (IsT.below T1.out HB9.out)
  clear OK HBW
  obtain ⟨e10, e11⟩ := c26_of K1.out (Below.refl _ _)
  have q1 := blk_lt K1.out
  obtain ⟨e20, e21⟩ := c26_of K2.out (Below.refl _ _)
  have q2 := blk_lt K2.out
  go_wp2_with fail
  refine (Agree_calls T0.out T1.out).mono ?_
  rw [AG.out]
  rintro e wA ⟨rfl, hB⟩
  replace HB3 := Aside0.mk (below_then HB3.out HB3.out.size hB)
  replace K1 := Aside0.mk (blk_below K1.out hB)
  replace K2 := Aside0.mk (blk_below K2.out hB)
  replace T0 := Aside0.mk (IsT.below T0.out hB)
  replace T1 := Aside0.mk (IsT.below T1.out hB)
  clear hB e10 e11 e20 e21 q1 q2
  have HBE := HB3
  go_wp2_with fail
  refine (wakes6_calls _).mono ?_
  rintro e wE ⟨rfl, hB⟩
  go_wp2_with fail
  go_ret
  exact ⟨rfl, below_then HBE.out HBE.out.size hB⟩
set_option maxRecDepth 100000 in
set_option maxHeartbeats 1600000 in
theorem agreeGoes_b_yes (kb : Bool) (t0 t1 : S26) (spot : Int) (w : World) (A0 : Option Addr) (c0 : Nat) (A1 : Option Addr) (c1 : Nat) (T0 : Aside0 (IsT w (.agg #[.int .i8 t0.f0, .slice A0 t0.f1.length c0]) t0)) (T1 : Aside0 (IsT w (.agg #[.int .i8 t1.f0, .slice A1 t1.f1.length c1]) t1))
    (S0 : Aside0 (smallB t0 = true)) (S1 : Aside0 (smallB t1 = true)) (CK : Aside0 (checkI t0 = 0)) (RT : Aside0 (rightB t0 = true)) (AG : Aside0 (agreeB t0 t1 = true)) (AGS : Aside0 (agreeB t1 t0 = true)) (AR : Aside0 (agreeB t0 t0 = true)) (AZ : Aside0 (agreeB t0 z26 = true)) (KA : Aside0 (knownB t0 = true)) (KB : Aside0 (knownB t1 = false))  :
    Calls Try.prog 9 #[.agg #[.int .i8 t0.f0, .slice A0 t0.f1.length c0], .agg #[.int .i8 t1.f0, .slice A1 t1.f1.length c1], .int .i64 spot] w fun e w' => e = .returned (.bool true) ∧ Below w.heap.size w w' := by
  go_enter Try.func9, Try.ntmps9
  go_wp2_with fail
  refine (Small_calls (T0.out.below (below2 ..))).mono ?_
  rw [S0.out]
  rintro e w1 ⟨rfl, hB⟩
  obtain ⟨b1, b2, hB1⟩ := two_blocks hB
  have HB1 := Aside0.mk hB1
  have K1 := Aside0.mk b1
  have K2 := Aside0.mk b2
  replace T0 := Aside0.mk (IsT.below T0.out hB1)
  replace T1 := Aside0.mk (IsT.below T1.out hB1)
  clear hB hB1 b1 b2
  obtain ⟨e10, e11⟩ := c26_of K1.out (Below.refl _ _)
  have q1 := blk_lt K1.out
  obtain ⟨e20, e21⟩ := c26_of K2.out (Below.refl _ _)
  have q2 := blk_lt K2.out
  go_wp2_with fail
  refine (Small_calls T1.out).mono ?_
  rw [S1.out]
  rintro e w2 ⟨rfl, hB⟩
  replace K1 := Aside0.mk (blk_below K1.out hB)
  replace K2 := Aside0.mk (blk_below K2.out hB)
  replace T0 := Aside0.mk (IsT.below T0.out hB)
  replace T1 := Aside0.mk (IsT.below T1.out hB)
  have HB2 := Aside0.mk (below_then HB1.out HB1.out.size hB)
  clear e10 e11 e20 e21 q1 q2 hB HB1
  obtain ⟨e10, e11⟩ := c26_of K1.out (Below.refl _ _)
  have q1 := blk_lt K1.out
  go_wp2_with fail
  refine (Check_calls T0.out).mono ?_
  rw [CK.out]
  rintro e w3 ⟨rfl, hB⟩
  replace K1 := Aside0.mk (blk_below K1.out hB)
  replace K2 := Aside0.mk (blk_below K2.out hB)
  replace T0 := Aside0.mk (IsT.below T0.out hB)
  replace T1 := Aside0.mk (IsT.below T1.out hB)
  have HB3 := Aside0.mk (below_then HB2.out HB2.out.size hB)
  clear e10 e11 q1 hB HB2 S0 S1
  go_wp2_with fail
  have OK := Aside0.mk (fun w' (h : Below w3.heap.size w3 w') => (⟨c26_of K1.out h, c26_of K2.out h⟩ : (w'.cell? ⟨w.heap.size, 0, none⟩ = some (.int .i8 t0.f0) ∧ w'.cell? ⟨w.heap.size, 1, none⟩ = some (.slice A0 t0.f1.length c0)) ∧ (w'.cell? ⟨(w.heap.size + 1), 0, none⟩ = some (.int .i8 t1.f0) ∧ w'.cell? ⟨(w.heap.size + 1), 1, none⟩ = some (.slice A1 t1.f1.length c1))))
  have HBW := Aside0.mk (Below.refl w3.heap.size w3)
  have tok1 : True := trivial
  have tok2 : True := trivial
  have tok3 : True := trivial
  go_region_held3 (fun w' => (w'.cell? ⟨w.heap.size, 0, none⟩ = some (.int .i8 t0.f0) ∧ w'.cell? ⟨w.heap.size, 1, none⟩ = some (.slice A0 t0.f1.length c0)) ∧ (w'.cell? ⟨(w.heap.size + 1), 0, none⟩ = some (.int .i8 t1.f0) ∧ w'.cell? ⟨(w.heap.size + 1), 1, none⟩ = some (.slice A1 t1.f1.length c1)))
    (first | exact OK.out _ HBW.out | exact OK.out _ HBW.out.drew | exact OK.out _ HB4.out | exact OK.out _ HB5.out | exact OK.out _ HB6.out | exact OK.out _ HB7.out)
    (first
      | (go_at_call 24; have _t := tok1; refine (Agree_calls (T0.out.below HBW.out.drew) (T1.out.below HBW.out.drew)).mono ?_; rw [AG.out]; rintro e w4 ⟨rfl, hB⟩; clear tok1; have HB4 := Aside0.mk (below_then HBW.out.drew HBW.out.drew.size hB); clear hB)
      | (go_at_call 24; have _t := tok2; refine (Agree_calls (T1.out.below HB4.out) (T0.out.below HB4.out)).mono ?_; rw [AGS.out]; rintro e w5 ⟨rfl, hB⟩; clear tok2; have HB5 := Aside0.mk (below_then HB4.out HB4.out.size hB); clear hB)
      | (go_at_call 24; have _t := tok3; refine (Agree_calls (T0.out.below HB5.out) (T0.out.below HB5.out)).mono ?_; rw [AR.out]; rintro e w6 ⟨rfl, hB⟩; clear tok3; have HB6 := Aside0.mk (below_then HB5.out HB5.out.size hB); clear hB)
      | (go_at_call 24; refine (Agree_calls (T0.out.below HB6.out) (IsT.zero _)).mono ?_; rw [AZ.out]; rintro e w7 ⟨rfl, hB⟩; have HB7 := Aside0.mk (below_then HB6.out HB6.out.size hB); clear hB))
  go_wp2_with fail
  replace HB3 := Aside0.mk (below_then HB3.out HB3.out.size HB7.out)
  replace K1 := Aside0.mk (blk_below K1.out HB7.out)
  replace K2 := Aside0.mk (blk_below K2.out HB7.out)
  replace T0 := Aside0.mk (IsT.below T0.out HB7.out)
  replace T1 := Aside0.mk (IsT.below T1.out HB7.out)
  clear OK HBW HB4 HB5 HB6 HB7
  have OK := Aside0.mk (fun w' (h : Below w7.heap.size w7 w') => (⟨c26_of K1.out h, c26_of K2.out h⟩ : (w'.cell? ⟨w.heap.size, 0, none⟩ = some (.int .i8 t0.f0) ∧ w'.cell? ⟨w.heap.size, 1, none⟩ = some (.slice A0 t0.f1.length c0)) ∧ (w'.cell? ⟨(w.heap.size + 1), 0, none⟩ = some (.int .i8 t1.f0) ∧ w'.cell? ⟨(w.heap.size + 1), 1, none⟩ = some (.slice A1 t1.f1.length c1))))
  have HBW := Aside0.mk (Below.refl w7.heap.size w7)
  refine wp_region_held_drew (S := (fun w' => (w'.cell? ⟨w.heap.size, 0, none⟩ = some (.int .i8 t0.f0) ∧ w'.cell? ⟨w.heap.size, 1, none⟩ = some (.slice A0 t0.f1.length c0)) ∧ (w'.cell? ⟨(w.heap.size + 1), 0, none⟩ = some (.int .i8 t1.f0) ∧ w'.cell? ⟨(w.heap.size + 1), 1, none⟩ = some (.slice A1 t1.f1.length c1)))) (by kernel_rfl) (OK.out _ HBW.out.drew) (fun hHeld => ?_)
  refine takeH (d := some 43) (v := ?_) 0 rfl rfl (by kernel_rfl) (by kernel_rfl) (by kernel_rfl) (fun _ _ _ h => h) (by rfl) ?_ hHeld ?_
  rotate_left
  · intro w hSw
    try dsimp only at hSw
    go_simp <;> with_reducible rfl
  try simp only [Act.put, List.setIfInBounds_toArray, List.set_cons_zero, List.set_cons_succ]
  refine wpAnyH_ready (rs := [1]) (by kernel_rfl) (by simp) ?_
  refine AllReadyH.cons rfl (fun K hK => ?_) AllReadyH.nil
  go_simp
  refine (Known_calls (T0.out.below HBW.out.drew)).mono ?_
  rw [KA.out]
  rintro e w8 ⟨rfl, hB⟩
  have HB8 := Aside0.mk (below_then HBW.out.drew HBW.out.drew.size hB)
  clear hB
  refine hK.out _ _ (OK.out _ HB8.out) (fun hHeld => ?_)
  clear hK K
  try simp only [Act.put, List.setIfInBounds_toArray, List.set_cons_zero, List.set_cons_succ]
  refine takeH (d := some 45) (v := ?_) 2 rfl rfl (by kernel_rfl) (by kernel_rfl) (by kernel_rfl) (fun _ _ _ h => h) (by rfl) ?_ hHeld ?_
  rotate_left
  · intro w hSw
    try dsimp only at hSw
    go_simp <;> with_reducible rfl
  try simp only [Act.put, List.setIfInBounds_toArray, List.set_cons_zero, List.set_cons_succ]
  refine takeH (d := some 46) (v := ?_) 3 rfl rfl (by kernel_rfl) (by kernel_rfl) (by kernel_rfl) (fun _ _ _ h => h) (by rfl) ?_ hHeld ?_
  rotate_left
  · intro w hSw
    try dsimp only at hSw
    go_simp <;> with_reducible rfl
  try simp only [Act.put, List.setIfInBounds_toArray, List.set_cons_zero, List.set_cons_succ]
  refine wpAnyH_ready (rs := [4]) (by kernel_rfl) (by simp) ?_
  refine AllReadyH.cons rfl (fun K hK => ?_) AllReadyH.nil
  go_simp
  refine (Known_calls (T1.out.below HB8.out)).mono ?_
  rw [KB.out]
  rintro e w9 ⟨rfl, hB⟩
  have HB9 := Aside0.mk (below_then HB8.out HB8.out.size hB)
  clear hB
  refine hK.out _ _ (OK.out _ HB9.out) (fun hHeld => ?_)
  clear hK K
  try simp only [Act.put, List.setIfInBounds_toArray, List.set_cons_zero, List.set_cons_succ]
  refine takeH (d := some 48) (v := ?_) 5 rfl rfl (by kernel_rfl) (by kernel_rfl) (by kernel_rfl) (fun _ _ _ h => h) (by rfl) ?_ hHeld ?_
  rotate_left
  · intro w hSw
    try dsimp only at hSw
    go_simp <;> with_reducible rfl
  try simp only [Act.put, List.setIfInBounds_toArray, List.set_cons_zero, List.set_cons_succ]
  refine takeH (d := some 49) (v := ?_) 6 rfl rfl (by kernel_rfl) (by kernel_rfl) (by kernel_rfl) (fun _ _ _ h => h) (by rfl) ?_ hHeld ?_
  rotate_left
  · intro w hSw
    try dsimp only at hSw
    go_simp <;> with_reducible rfl
  try simp only [Act.put, List.setIfInBounds_toArray, List.set_cons_zero, List.set_cons_succ]
  refine passH (d := some 50) 7 rfl rfl (by kernel_rfl) (by kernel_rfl) (by kernel_rfl) (fun _ _ _ h => h) (by rfl) hHeld ?_
  try simp only [Act.put, List.setIfInBounds_toArray, List.set_cons_zero, List.set_cons_succ]
  refine passH (d := some 51) 8 rfl rfl (by kernel_rfl) (by kernel_rfl) (by kernel_rfl) (fun _ _ _ h => h) (by rfl) hHeld ?_
  try simp only [Act.put, List.setIfInBounds_toArray, List.set_cons_zero, List.set_cons_succ]
  refine passH (d := some 52) 9 rfl rfl (by kernel_rfl) (by kernel_rfl) (by kernel_rfl) (fun _ _ _ h => h) (by rfl) hHeld ?_
  try simp only [Act.put, List.setIfInBounds_toArray, List.set_cons_zero, List.set_cons_succ]
  refine passH (d := some 53) 10 rfl rfl (by kernel_rfl) (by kernel_rfl) (by kernel_rfl) (fun _ _ _ h => h) (by rfl) hHeld ?_
  try simp only [Act.put, List.setIfInBounds_toArray, List.set_cons_zero, List.set_cons_succ]
  refine passH (d := some 54) 11 rfl rfl (by kernel_rfl) (by kernel_rfl) (by kernel_rfl) (fun _ _ _ h => h) (by rfl) hHeld ?_
  try simp only [Act.put, List.setIfInBounds_toArray, List.set_cons_zero, List.set_cons_succ]
  refine passH (d := some 55) 12 rfl rfl (by kernel_rfl) (by kernel_rfl) (by kernel_rfl) (fun _ _ _ h => h) (by rfl) hHeld ?_
  try simp only [Act.put, List.setIfInBounds_toArray, List.set_cons_zero, List.set_cons_succ]
  refine passH (d := some 56) 13 rfl rfl (by kernel_rfl) (by kernel_rfl) (by kernel_rfl) (fun _ _ _ h => h) (by rfl) hHeld ?_
  try simp only [Act.put, List.setIfInBounds_toArray, List.set_cons_zero, List.set_cons_succ]
  refine takeH (d := some 57) (v := ?_) 14 rfl rfl (by kernel_rfl) (by kernel_rfl) (by kernel_rfl) (fun _ _ _ h => h) (by rfl) ?_ hHeld ?_
  rotate_left
  · intro w hSw
    try dsimp only at hSw
    go_simp <;> with_reducible rfl
  try simp only [Act.put, List.setIfInBounds_toArray, List.set_cons_zero, List.set_cons_succ]
  refine wpAnyH_done (by kernel_rfl) ?_ _
  go_wp2_with fail
  replace HB3 := Aside0.mk (below_then HB3.out HB3.out.size HB9.out)
  replace K1 := Aside0.mk (blk_below K1.out HB9.out)
  replace K2 := Aside0.mk (blk_below K2.out HB9.out)
  replace T0 := Aside0.mk (IsT.below T0.out HB9.out)
  replace T1 := Aside0.mk (IsT.below T1.out HB9.out)
  clear OK HBW
  obtain ⟨e10, e11⟩ := c26_of K1.out (Below.refl _ _)
  have q1 := blk_lt K1.out
  obtain ⟨e20, e21⟩ := c26_of K2.out (Below.refl _ _)
  have q2 := blk_lt K2.out
  go_wp2_with fail
  refine (Agree_calls T0.out T1.out).mono ?_
  rw [AG.out]
  rintro e wA ⟨rfl, hB⟩
  replace HB3 := Aside0.mk (below_then HB3.out HB3.out.size hB)
  replace K1 := Aside0.mk (blk_below K1.out hB)
  replace K2 := Aside0.mk (blk_below K2.out hB)
  replace T0 := Aside0.mk (IsT.below T0.out hB)
  replace T1 := Aside0.mk (IsT.below T1.out hB)
  clear hB e10 e11 e20 e21 q1 q2
  obtain ⟨e10, e11⟩ := c26_of K1.out (Below.refl _ _)
  have q1 := blk_lt K1.out
  obtain ⟨e20, e21⟩ := c26_of K2.out (Below.refl _ _)
  have q2 := blk_lt K2.out
  go_wp2_with fail
  refine (opened_calls _ t0 (Nat.lt_succ_self _) RT.out _ _ spot T0.out).mono ?_
  rintro e wB ⟨vc, c, m, rfl, hc, ho, hB⟩
  have AC1 := Aside0.mk ((ho.agree CK.out).2 AG.out)
  have AC2 := Aside0.mk (ho.agree (b := t1) CK.out).1
  obtain ⟨Ac, cc, rfl, hlc, hcc⟩ := hc
  have TC := Aside0.mk (IsT.mk (k := c.f0) hlc hcc)
  rw [S26.eta] at TC
  replace HB3 := Aside0.mk (below_then HB3.out HB3.out.size hB)
  replace K1 := Aside0.mk (blk_below K1.out hB)
  replace K2 := Aside0.mk (blk_below K2.out hB)
  replace T0 := Aside0.mk (IsT.below T0.out hB)
  replace T1 := Aside0.mk (IsT.below T1.out hB)
  clear hB e10 e11 e20 e21 q1 q2 hlc hcc ho
  obtain ⟨e10, e11⟩ := c26_of K1.out (Below.refl _ _)
  have q1 := blk_lt K1.out
  obtain ⟨e20, e21⟩ := c26_of K2.out (Below.refl _ _)
  have q2 := blk_lt K2.out
  go_wp2_with fail
  have hW := below1 wB #[.int .i8 c.f0, .slice Ac c.f1.length cc] 26
  have K3 := Aside0.mk (heap_alloc_new wB (.cells #[.int .i8 c.f0, .slice Ac c.f1.length cc] 26))
  refine (Agree_calls (TC.out.below hW) (T1.out.below hW)).mono ?_
  rw [AC1.out]
  rintro e wC ⟨rfl, hB⟩
  replace K1 := Aside0.mk (blk_below K1.out hW)
  replace K2 := Aside0.mk (blk_below K2.out hW)
  replace T0 := Aside0.mk (IsT.below T0.out hW)
  replace T1 := Aside0.mk (IsT.below T1.out hW)
  replace TC := Aside0.mk (IsT.below TC.out hW)
  replace HB3 := Aside0.mk (below_then HB3.out HB3.out.size hW)
  replace K1 := Aside0.mk (blk_below K1.out hB)
  replace K2 := Aside0.mk (blk_below K2.out hB)
  replace K3 := Aside0.mk (blk_below K3.out hB)
  replace T0 := Aside0.mk (IsT.below T0.out hB)
  replace T1 := Aside0.mk (IsT.below T1.out hB)
  replace TC := Aside0.mk (IsT.below TC.out hB)
  replace HB3 := Aside0.mk (below_then HB3.out HB3.out.size hB)
  clear hB hW e10 e11 e20 e21 q1 q2
  obtain ⟨e10, e11⟩ := c26_of K1.out (Below.refl _ _)
  have q1 := blk_lt K1.out
  obtain ⟨e30, e31⟩ := c26_of K3.out (Below.refl _ _)
  go_wp2_with fail
  refine (Agree_calls T0.out TC.out).mono ?_
  rw [AC2.out]
  rintro e wD ⟨rfl, hB⟩
  have HBE := Aside0.mk (below_then HB3.out HB3.out.size hB)
  clear hB e10 e11 e30 e31 q1
  go_wp2_with fail
  refine (wakes6_calls _).mono ?_
  rintro e wE ⟨rfl, hB⟩
  go_wp2_with fail
  go_ret
  exact ⟨rfl, below_then HBE.out HBE.out.size hB⟩
set_option maxRecDepth 100000 in
set_option maxHeartbeats 1600000 in
theorem agreeGoes_ab_no (kb : Bool) (t0 t1 : S26) (spot : Int) (w : World) (A0 : Option Addr) (c0 : Nat) (A1 : Option Addr) (c1 : Nat) (T0 : Aside0 (IsT w (.agg #[.int .i8 t0.f0, .slice A0 t0.f1.length c0]) t0)) (T1 : Aside0 (IsT w (.agg #[.int .i8 t1.f0, .slice A1 t1.f1.length c1]) t1))
    (S0 : Aside0 (smallB t0 = true)) (S1 : Aside0 (smallB t1 = true)) (CK : Aside0 (checkI t0 = 0)) (RT : Aside0 (rightB t0 = true)) (AG : Aside0 (agreeB t0 t1 = false)) (AGS : Aside0 (agreeB t1 t0 = false)) (AR : Aside0 (agreeB t0 t0 = true)) (AZ : Aside0 (agreeB t0 z26 = true)) (KA : Aside0 (knownB t0 = true)) (KB : Aside0 (knownB t1 = true)) (SA : Aside0 (sameB t0 t1 = false)) :
    Calls Try.prog 9 #[.agg #[.int .i8 t0.f0, .slice A0 t0.f1.length c0], .agg #[.int .i8 t1.f0, .slice A1 t1.f1.length c1], .int .i64 spot] w fun e w' => e = .returned (.bool true) ∧ Below w.heap.size w w' := by
  go_enter Try.func9, Try.ntmps9
  go_wp2_with fail
  refine (Small_calls (T0.out.below (below2 ..))).mono ?_
  rw [S0.out]
  rintro e w1 ⟨rfl, hB⟩
  obtain ⟨b1, b2, hB1⟩ := two_blocks hB
  have HB1 := Aside0.mk hB1
  have K1 := Aside0.mk b1
  have K2 := Aside0.mk b2
  replace T0 := Aside0.mk (IsT.below T0.out hB1)
  replace T1 := Aside0.mk (IsT.below T1.out hB1)
  clear hB hB1 b1 b2
  obtain ⟨e10, e11⟩ := c26_of K1.out (Below.refl _ _)
  have q1 := blk_lt K1.out
  obtain ⟨e20, e21⟩ := c26_of K2.out (Below.refl _ _)
  have q2 := blk_lt K2.out
  go_wp2_with fail
  refine (Small_calls T1.out).mono ?_
  rw [S1.out]
  rintro e w2 ⟨rfl, hB⟩
  replace K1 := Aside0.mk (blk_below K1.out hB)
  replace K2 := Aside0.mk (blk_below K2.out hB)
  replace T0 := Aside0.mk (IsT.below T0.out hB)
  replace T1 := Aside0.mk (IsT.below T1.out hB)
  have HB2 := Aside0.mk (below_then HB1.out HB1.out.size hB)
  clear e10 e11 e20 e21 q1 q2 hB HB1
  obtain ⟨e10, e11⟩ := c26_of K1.out (Below.refl _ _)
  have q1 := blk_lt K1.out
  go_wp2_with fail
  refine (Check_calls T0.out).mono ?_
  rw [CK.out]
  rintro e w3 ⟨rfl, hB⟩
  replace K1 := Aside0.mk (blk_below K1.out hB)
  replace K2 := Aside0.mk (blk_below K2.out hB)
  replace T0 := Aside0.mk (IsT.below T0.out hB)
  replace T1 := Aside0.mk (IsT.below T1.out hB)
  have HB3 := Aside0.mk (below_then HB2.out HB2.out.size hB)
  clear e10 e11 q1 hB HB2 S0 S1
  go_wp2_with fail
  have OK := Aside0.mk (fun w' (h : Below w3.heap.size w3 w') => (⟨c26_of K1.out h, c26_of K2.out h⟩ : (w'.cell? ⟨w.heap.size, 0, none⟩ = some (.int .i8 t0.f0) ∧ w'.cell? ⟨w.heap.size, 1, none⟩ = some (.slice A0 t0.f1.length c0)) ∧ (w'.cell? ⟨(w.heap.size + 1), 0, none⟩ = some (.int .i8 t1.f0) ∧ w'.cell? ⟨(w.heap.size + 1), 1, none⟩ = some (.slice A1 t1.f1.length c1))))
  have HBW := Aside0.mk (Below.refl w3.heap.size w3)
  have tok1 : True := trivial
  have tok2 : True := trivial
  have tok3 : True := trivial
  go_region_held3 (fun w' => (w'.cell? ⟨w.heap.size, 0, none⟩ = some (.int .i8 t0.f0) ∧ w'.cell? ⟨w.heap.size, 1, none⟩ = some (.slice A0 t0.f1.length c0)) ∧ (w'.cell? ⟨(w.heap.size + 1), 0, none⟩ = some (.int .i8 t1.f0) ∧ w'.cell? ⟨(w.heap.size + 1), 1, none⟩ = some (.slice A1 t1.f1.length c1)))
    (first | exact OK.out _ HBW.out | exact OK.out _ HBW.out.drew | exact OK.out _ HB4.out | exact OK.out _ HB5.out | exact OK.out _ HB6.out | exact OK.out _ HB7.out)
    (first
      | (go_at_call 24; have _t := tok1; refine (Agree_calls (T0.out.below HBW.out.drew) (T1.out.below HBW.out.drew)).mono ?_; rw [AG.out]; rintro e w4 ⟨rfl, hB⟩; clear tok1; have HB4 := Aside0.mk (below_then HBW.out.drew HBW.out.drew.size hB); clear hB)
      | (go_at_call 24; have _t := tok2; refine (Agree_calls (T1.out.below HB4.out) (T0.out.below HB4.out)).mono ?_; rw [AGS.out]; rintro e w5 ⟨rfl, hB⟩; clear tok2; have HB5 := Aside0.mk (below_then HB4.out HB4.out.size hB); clear hB)
      | (go_at_call 24; have _t := tok3; refine (Agree_calls (T0.out.below HB5.out) (T0.out.below HB5.out)).mono ?_; rw [AR.out]; rintro e w6 ⟨rfl, hB⟩; clear tok3; have HB6 := Aside0.mk (below_then HB5.out HB5.out.size hB); clear hB)
      | (go_at_call 24; refine (Agree_calls (T0.out.below HB6.out) (IsT.zero _)).mono ?_; rw [AZ.out]; rintro e w7 ⟨rfl, hB⟩; have HB7 := Aside0.mk (below_then HB6.out HB6.out.size hB); clear hB))
  go_wp2_with fail
  replace HB3 := Aside0.mk (below_then HB3.out HB3.out.size HB7.out)
  replace K1 := Aside0.mk (blk_below K1.out HB7.out)
  replace K2 := Aside0.mk (blk_below K2.out HB7.out)
  replace T0 := Aside0.mk (IsT.below T0.out HB7.out)
  replace T1 := Aside0.mk (IsT.below T1.out HB7.out)
  clear OK HBW HB4 HB5 HB6 HB7
  have OK := Aside0.mk (fun w' (h : Below w7.heap.size w7 w') => (⟨c26_of K1.out h, c26_of K2.out h⟩ : (w'.cell? ⟨w.heap.size, 0, none⟩ = some (.int .i8 t0.f0) ∧ w'.cell? ⟨w.heap.size, 1, none⟩ = some (.slice A0 t0.f1.length c0)) ∧ (w'.cell? ⟨(w.heap.size + 1), 0, none⟩ = some (.int .i8 t1.f0) ∧ w'.cell? ⟨(w.heap.size + 1), 1, none⟩ = some (.slice A1 t1.f1.length c1))))
  have HBW := Aside0.mk (Below.refl w7.heap.size w7)
  refine wp_region_held_drew (S := (fun w' => (w'.cell? ⟨w.heap.size, 0, none⟩ = some (.int .i8 t0.f0) ∧ w'.cell? ⟨w.heap.size, 1, none⟩ = some (.slice A0 t0.f1.length c0)) ∧ (w'.cell? ⟨(w.heap.size + 1), 0, none⟩ = some (.int .i8 t1.f0) ∧ w'.cell? ⟨(w.heap.size + 1), 1, none⟩ = some (.slice A1 t1.f1.length c1)))) (by kernel_rfl) (OK.out _ HBW.out.drew) (fun hHeld => ?_)
  refine takeH (d := some 43) (v := ?_) 0 rfl rfl (by kernel_rfl) (by kernel_rfl) (by kernel_rfl) (fun _ _ _ h => h) (by rfl) ?_ hHeld ?_
  rotate_left
  · intro w hSw
    try dsimp only at hSw
    go_simp <;> with_reducible rfl
  try simp only [Act.put, List.setIfInBounds_toArray, List.set_cons_zero, List.set_cons_succ]
  refine wpAnyH_ready (rs := [1]) (by kernel_rfl) (by simp) ?_
  refine AllReadyH.cons rfl (fun K hK => ?_) AllReadyH.nil
  go_simp
  refine (Known_calls (T0.out.below HBW.out.drew)).mono ?_
  rw [KA.out]
  rintro e w8 ⟨rfl, hB⟩
  have HB8 := Aside0.mk (below_then HBW.out.drew HBW.out.drew.size hB)
  clear hB
  refine hK.out _ _ (OK.out _ HB8.out) (fun hHeld => ?_)
  clear hK K
  try simp only [Act.put, List.setIfInBounds_toArray, List.set_cons_zero, List.set_cons_succ]
  refine takeH (d := some 45) (v := ?_) 2 rfl rfl (by kernel_rfl) (by kernel_rfl) (by kernel_rfl) (fun _ _ _ h => h) (by rfl) ?_ hHeld ?_
  rotate_left
  · intro w hSw
    try dsimp only at hSw
    go_simp <;> with_reducible rfl
  try simp only [Act.put, List.setIfInBounds_toArray, List.set_cons_zero, List.set_cons_succ]
  refine takeH (d := some 46) (v := ?_) 3 rfl rfl (by kernel_rfl) (by kernel_rfl) (by kernel_rfl) (fun _ _ _ h => h) (by rfl) ?_ hHeld ?_
  rotate_left
  · intro w hSw
    try dsimp only at hSw
    go_simp <;> with_reducible rfl
  try simp only [Act.put, List.setIfInBounds_toArray, List.set_cons_zero, List.set_cons_succ]
  refine wpAnyH_ready (rs := [4]) (by kernel_rfl) (by simp) ?_
  refine AllReadyH.cons rfl (fun K hK => ?_) AllReadyH.nil
  go_simp
  refine (Known_calls (T1.out.below HB8.out)).mono ?_
  rw [KB.out]
  rintro e w9 ⟨rfl, hB⟩
  have HB9 := Aside0.mk (below_then HB8.out HB8.out.size hB)
  clear hB
  refine hK.out _ _ (OK.out _ HB9.out) (fun hHeld => ?_)
  clear hK K
  try simp only [Act.put, List.setIfInBounds_toArray, List.set_cons_zero, List.set_cons_succ]
  refine takeH (d := some 48) (v := ?_) 5 rfl rfl (by kernel_rfl) (by kernel_rfl) (by kernel_rfl) (fun _ _ _ h => h) (by rfl) ?_ hHeld ?_
  rotate_left
  · intro w hSw
    try dsimp only at hSw
    go_simp <;> with_reducible rfl
  try simp only [Act.put, List.setIfInBounds_toArray, List.set_cons_zero, List.set_cons_succ]
  refine takeH (d := some 49) (v := ?_) 6 rfl rfl (by kernel_rfl) (by kernel_rfl) (by kernel_rfl) (fun _ _ _ h => h) (by rfl) ?_ hHeld ?_
  rotate_left
  · intro w hSw
    try dsimp only at hSw
    go_simp <;> with_reducible rfl
  try simp only [Act.put, List.setIfInBounds_toArray, List.set_cons_zero, List.set_cons_succ]
  refine takeH (d := some 50) (v := ?_) 7 rfl rfl (by kernel_rfl) (by kernel_rfl) (by kernel_rfl) (fun _ _ _ h => h) (by rfl) ?_ hHeld ?_
  rotate_left
  · intro w hSw
    try dsimp only at hSw
    go_simp <;> with_reducible rfl
  try simp only [Act.put, List.setIfInBounds_toArray, List.set_cons_zero, List.set_cons_succ]
  refine takeH (d := some 51) (v := ?_) 8 rfl rfl (by kernel_rfl) (by kernel_rfl) (by kernel_rfl) (fun _ _ _ h => h) (by rfl) ?_ hHeld ?_
  rotate_left
  · intro w hSw
    try dsimp only at hSw
    go_simp <;> with_reducible rfl
  try simp only [Act.put, List.setIfInBounds_toArray, List.set_cons_zero, List.set_cons_succ]
  refine takeH (d := some 53) (v := ?_) 10 rfl rfl (by kernel_rfl) (by kernel_rfl) (by kernel_rfl) (fun _ _ _ h => h) (by rfl) ?_ hHeld ?_
  rotate_left
  · intro w hSw
    try dsimp only at hSw
    go_simp <;> with_reducible rfl
  try simp only [Act.put, List.setIfInBounds_toArray, List.set_cons_zero, List.set_cons_succ]
  refine takeH (d := some 54) (v := ?_) 11 rfl rfl (by kernel_rfl) (by kernel_rfl) (by kernel_rfl) (fun _ _ _ h => h) (by rfl) ?_ hHeld ?_
  rotate_left
  · intro w hSw
    try dsimp only at hSw
    go_simp <;> with_reducible rfl
  try simp only [Act.put, List.setIfInBounds_toArray, List.set_cons_zero, List.set_cons_succ]
  refine wpAnyH_ready (rs := [9]) (by kernel_rfl) (by simp) ?_
  refine AllReadyH.cons rfl (fun K hK => ?_) AllReadyH.nil
  go_simp
  refine (Agree_calls (T0.out.below HB9.out) (T1.out.below HB9.out)).mono ?_
  rw [AG.out]
  rintro e w10 ⟨rfl, hB⟩
  have HB10 := Aside0.mk (below_then HB9.out HB9.out.size hB)
  clear hB
  refine hK.out _ _ (OK.out _ HB10.out) (fun hHeld => ?_)
  clear hK K
  try simp only [Act.put, List.setIfInBounds_toArray, List.set_cons_zero, List.set_cons_succ]
  refine wpAnyH_ready (rs := [12]) (by kernel_rfl) (by simp) ?_
  refine AllReadyH.cons rfl (fun K hK => ?_) AllReadyH.nil
  go_simp
  refine (Same_calls (T0.out.below HB10.out) (T1.out.below HB10.out)).mono ?_
  rw [SA.out]
  rintro e w11 ⟨rfl, hB⟩
  have HB11 := Aside0.mk (below_then HB10.out HB10.out.size hB)
  clear hB
  refine hK.out _ _ (OK.out _ HB11.out) (fun hHeld => ?_)
  clear hK K
  try simp only [Act.put, List.setIfInBounds_toArray, List.set_cons_zero, List.set_cons_succ]
  refine takeH (d := some 56) (v := ?_) 13 rfl rfl (by kernel_rfl) (by kernel_rfl) (by kernel_rfl) (fun _ _ _ h => h) (by rfl) ?_ hHeld ?_
  rotate_left
  · intro w hSw
    try dsimp only at hSw
    go_simp <;> with_reducible rfl
  try simp only [Act.put, List.setIfInBounds_toArray, List.set_cons_zero, List.set_cons_succ]
  refine takeH (d := some 57) (v := ?_) 14 rfl rfl (by kernel_rfl) (by kernel_rfl) (by kernel_rfl) (fun _ _ _ h => h) (by rfl) ?_ hHeld ?_
  rotate_left
  · intro w hSw
    try dsimp only at hSw
    go_simp <;> with_reducible rfl
  try simp only [Act.put, List.setIfInBounds_toArray, List.set_cons_zero, List.set_cons_succ]
  refine wpAnyH_done (by kernel_rfl) ?_ _
  go_wp2_with fail
  replace HB3 := Aside0.mk (below_then HB3.out HB3.out.size HB11.out)
  replace K1 := Aside0.mk (blk_below K1.out HB11.out)
  replace K2 := Aside0.mk (blk_below K2.out HB11.out)
  replace T0 := Aside0.mk (IsT.below T0.out HB11.out)
  replace T1 := Aside0.mk (IsT.below T1.out HB11.out)
  clear OK HBW
  obtain ⟨e10, e11⟩ := c26_of K1.out (Below.refl _ _)
  have q1 := blk_lt K1.out
  obtain ⟨e20, e21⟩ := c26_of K2.out (Below.refl _ _)
  have q2 := blk_lt K2.out
  go_wp2_with fail
  refine (Agree_calls T0.out T1.out).mono ?_
  rw [AG.out]
  rintro e wA ⟨rfl, hB⟩
  replace HB3 := Aside0.mk (below_then HB3.out HB3.out.size hB)
  replace K1 := Aside0.mk (blk_below K1.out hB)
  replace K2 := Aside0.mk (blk_below K2.out hB)
  replace T0 := Aside0.mk (IsT.below T0.out hB)
  replace T1 := Aside0.mk (IsT.below T1.out hB)
  clear hB e10 e11 e20 e21 q1 q2
  have HBE := HB3
  go_wp2_with fail
  refine (wakes6_calls _).mono ?_
  rintro e wE ⟨rfl, hB⟩
  go_wp2_with fail
  go_ret
  exact ⟨rfl, below_then HBE.out HBE.out.size hB⟩
set_option maxRecDepth 100000 in
set_option maxHeartbeats 1600000 in
theorem agreeGoes_ab_yes (kb : Bool) (t0 t1 : S26) (spot : Int) (w : World) (A0 : Option Addr) (c0 : Nat) (A1 : Option Addr) (c1 : Nat) (T0 : Aside0 (IsT w (.agg #[.int .i8 t0.f0, .slice A0 t0.f1.length c0]) t0)) (T1 : Aside0 (IsT w (.agg #[.int .i8 t1.f0, .slice A1 t1.f1.length c1]) t1))
    (S0 : Aside0 (smallB t0 = true)) (S1 : Aside0 (smallB t1 = true)) (CK : Aside0 (checkI t0 = 0)) (RT : Aside0 (rightB t0 = true)) (AG : Aside0 (agreeB t0 t1 = true)) (AGS : Aside0 (agreeB t1 t0 = true)) (AR : Aside0 (agreeB t0 t0 = true)) (AZ : Aside0 (agreeB t0 z26 = true)) (KA : Aside0 (knownB t0 = true)) (KB : Aside0 (knownB t1 = true)) (SA : Aside0 (sameB t0 t1 = true)) :
    Calls Try.prog 9 #[.agg #[.int .i8 t0.f0, .slice A0 t0.f1.length c0], .agg #[.int .i8 t1.f0, .slice A1 t1.f1.length c1], .int .i64 spot] w fun e w' => e = .returned (.bool true) ∧ Below w.heap.size w w' := by
  go_enter Try.func9, Try.ntmps9
  go_wp2_with fail
  refine (Small_calls (T0.out.below (below2 ..))).mono ?_
  rw [S0.out]
  rintro e w1 ⟨rfl, hB⟩
  obtain ⟨b1, b2, hB1⟩ := two_blocks hB
  have HB1 := Aside0.mk hB1
  have K1 := Aside0.mk b1
  have K2 := Aside0.mk b2
  replace T0 := Aside0.mk (IsT.below T0.out hB1)
  replace T1 := Aside0.mk (IsT.below T1.out hB1)
  clear hB hB1 b1 b2
  obtain ⟨e10, e11⟩ := c26_of K1.out (Below.refl _ _)
  have q1 := blk_lt K1.out
  obtain ⟨e20, e21⟩ := c26_of K2.out (Below.refl _ _)
  have q2 := blk_lt K2.out
  go_wp2_with fail
  refine (Small_calls T1.out).mono ?_
  rw [S1.out]
  rintro e w2 ⟨rfl, hB⟩
  replace K1 := Aside0.mk (blk_below K1.out hB)
  replace K2 := Aside0.mk (blk_below K2.out hB)
  replace T0 := Aside0.mk (IsT.below T0.out hB)
  replace T1 := Aside0.mk (IsT.below T1.out hB)
  have HB2 := Aside0.mk (below_then HB1.out HB1.out.size hB)
  clear e10 e11 e20 e21 q1 q2 hB HB1
  obtain ⟨e10, e11⟩ := c26_of K1.out (Below.refl _ _)
  have q1 := blk_lt K1.out
  go_wp2_with fail
  refine (Check_calls T0.out).mono ?_
  rw [CK.out]
  rintro e w3 ⟨rfl, hB⟩
  replace K1 := Aside0.mk (blk_below K1.out hB)
  replace K2 := Aside0.mk (blk_below K2.out hB)
  replace T0 := Aside0.mk (IsT.below T0.out hB)
  replace T1 := Aside0.mk (IsT.below T1.out hB)
  have HB3 := Aside0.mk (below_then HB2.out HB2.out.size hB)
  clear e10 e11 q1 hB HB2 S0 S1
  go_wp2_with fail
  have OK := Aside0.mk (fun w' (h : Below w3.heap.size w3 w') => (⟨c26_of K1.out h, c26_of K2.out h⟩ : (w'.cell? ⟨w.heap.size, 0, none⟩ = some (.int .i8 t0.f0) ∧ w'.cell? ⟨w.heap.size, 1, none⟩ = some (.slice A0 t0.f1.length c0)) ∧ (w'.cell? ⟨(w.heap.size + 1), 0, none⟩ = some (.int .i8 t1.f0) ∧ w'.cell? ⟨(w.heap.size + 1), 1, none⟩ = some (.slice A1 t1.f1.length c1))))
  have HBW := Aside0.mk (Below.refl w3.heap.size w3)
  have tok1 : True := trivial
  have tok2 : True := trivial
  have tok3 : True := trivial
  go_region_held3 (fun w' => (w'.cell? ⟨w.heap.size, 0, none⟩ = some (.int .i8 t0.f0) ∧ w'.cell? ⟨w.heap.size, 1, none⟩ = some (.slice A0 t0.f1.length c0)) ∧ (w'.cell? ⟨(w.heap.size + 1), 0, none⟩ = some (.int .i8 t1.f0) ∧ w'.cell? ⟨(w.heap.size + 1), 1, none⟩ = some (.slice A1 t1.f1.length c1)))
    (first | exact OK.out _ HBW.out | exact OK.out _ HBW.out.drew | exact OK.out _ HB4.out | exact OK.out _ HB5.out | exact OK.out _ HB6.out | exact OK.out _ HB7.out)
    (first
      | (go_at_call 24; have _t := tok1; refine (Agree_calls (T0.out.below HBW.out.drew) (T1.out.below HBW.out.drew)).mono ?_; rw [AG.out]; rintro e w4 ⟨rfl, hB⟩; clear tok1; have HB4 := Aside0.mk (below_then HBW.out.drew HBW.out.drew.size hB); clear hB)
      | (go_at_call 24; have _t := tok2; refine (Agree_calls (T1.out.below HB4.out) (T0.out.below HB4.out)).mono ?_; rw [AGS.out]; rintro e w5 ⟨rfl, hB⟩; clear tok2; have HB5 := Aside0.mk (below_then HB4.out HB4.out.size hB); clear hB)
      | (go_at_call 24; have _t := tok3; refine (Agree_calls (T0.out.below HB5.out) (T0.out.below HB5.out)).mono ?_; rw [AR.out]; rintro e w6 ⟨rfl, hB⟩; clear tok3; have HB6 := Aside0.mk (below_then HB5.out HB5.out.size hB); clear hB)
      | (go_at_call 24; refine (Agree_calls (T0.out.below HB6.out) (IsT.zero _)).mono ?_; rw [AZ.out]; rintro e w7 ⟨rfl, hB⟩; have HB7 := Aside0.mk (below_then HB6.out HB6.out.size hB); clear hB))
  go_wp2_with fail
  replace HB3 := Aside0.mk (below_then HB3.out HB3.out.size HB7.out)
  replace K1 := Aside0.mk (blk_below K1.out HB7.out)
  replace K2 := Aside0.mk (blk_below K2.out HB7.out)
  replace T0 := Aside0.mk (IsT.below T0.out HB7.out)
  replace T1 := Aside0.mk (IsT.below T1.out HB7.out)
  clear OK HBW HB4 HB5 HB6 HB7
  have OK := Aside0.mk (fun w' (h : Below w7.heap.size w7 w') => (⟨c26_of K1.out h, c26_of K2.out h⟩ : (w'.cell? ⟨w.heap.size, 0, none⟩ = some (.int .i8 t0.f0) ∧ w'.cell? ⟨w.heap.size, 1, none⟩ = some (.slice A0 t0.f1.length c0)) ∧ (w'.cell? ⟨(w.heap.size + 1), 0, none⟩ = some (.int .i8 t1.f0) ∧ w'.cell? ⟨(w.heap.size + 1), 1, none⟩ = some (.slice A1 t1.f1.length c1))))
  have HBW := Aside0.mk (Below.refl w7.heap.size w7)
  refine wp_region_held_drew (S := (fun w' => (w'.cell? ⟨w.heap.size, 0, none⟩ = some (.int .i8 t0.f0) ∧ w'.cell? ⟨w.heap.size, 1, none⟩ = some (.slice A0 t0.f1.length c0)) ∧ (w'.cell? ⟨(w.heap.size + 1), 0, none⟩ = some (.int .i8 t1.f0) ∧ w'.cell? ⟨(w.heap.size + 1), 1, none⟩ = some (.slice A1 t1.f1.length c1)))) (by kernel_rfl) (OK.out _ HBW.out.drew) (fun hHeld => ?_)
  refine takeH (d := some 43) (v := ?_) 0 rfl rfl (by kernel_rfl) (by kernel_rfl) (by kernel_rfl) (fun _ _ _ h => h) (by rfl) ?_ hHeld ?_
  rotate_left
  · intro w hSw
    try dsimp only at hSw
    go_simp <;> with_reducible rfl
  try simp only [Act.put, List.setIfInBounds_toArray, List.set_cons_zero, List.set_cons_succ]
  refine wpAnyH_ready (rs := [1]) (by kernel_rfl) (by simp) ?_
  refine AllReadyH.cons rfl (fun K hK => ?_) AllReadyH.nil
  go_simp
  refine (Known_calls (T0.out.below HBW.out.drew)).mono ?_
  rw [KA.out]
  rintro e w8 ⟨rfl, hB⟩
  have HB8 := Aside0.mk (below_then HBW.out.drew HBW.out.drew.size hB)
  clear hB
  refine hK.out _ _ (OK.out _ HB8.out) (fun hHeld => ?_)
  clear hK K
  try simp only [Act.put, List.setIfInBounds_toArray, List.set_cons_zero, List.set_cons_succ]
  refine takeH (d := some 45) (v := ?_) 2 rfl rfl (by kernel_rfl) (by kernel_rfl) (by kernel_rfl) (fun _ _ _ h => h) (by rfl) ?_ hHeld ?_
  rotate_left
  · intro w hSw
    try dsimp only at hSw
    go_simp <;> with_reducible rfl
  try simp only [Act.put, List.setIfInBounds_toArray, List.set_cons_zero, List.set_cons_succ]
  refine takeH (d := some 46) (v := ?_) 3 rfl rfl (by kernel_rfl) (by kernel_rfl) (by kernel_rfl) (fun _ _ _ h => h) (by rfl) ?_ hHeld ?_
  rotate_left
  · intro w hSw
    try dsimp only at hSw
    go_simp <;> with_reducible rfl
  try simp only [Act.put, List.setIfInBounds_toArray, List.set_cons_zero, List.set_cons_succ]
  refine wpAnyH_ready (rs := [4]) (by kernel_rfl) (by simp) ?_
  refine AllReadyH.cons rfl (fun K hK => ?_) AllReadyH.nil
  go_simp
  refine (Known_calls (T1.out.below HB8.out)).mono ?_
  rw [KB.out]
  rintro e w9 ⟨rfl, hB⟩
  have HB9 := Aside0.mk (below_then HB8.out HB8.out.size hB)
  clear hB
  refine hK.out _ _ (OK.out _ HB9.out) (fun hHeld => ?_)
  clear hK K
  try simp only [Act.put, List.setIfInBounds_toArray, List.set_cons_zero, List.set_cons_succ]
  refine takeH (d := some 48) (v := ?_) 5 rfl rfl (by kernel_rfl) (by kernel_rfl) (by kernel_rfl) (fun _ _ _ h => h) (by rfl) ?_ hHeld ?_
  rotate_left
  · intro w hSw
    try dsimp only at hSw
    go_simp <;> with_reducible rfl
  try simp only [Act.put, List.setIfInBounds_toArray, List.set_cons_zero, List.set_cons_succ]
  refine takeH (d := some 49) (v := ?_) 6 rfl rfl (by kernel_rfl) (by kernel_rfl) (by kernel_rfl) (fun _ _ _ h => h) (by rfl) ?_ hHeld ?_
  rotate_left
  · intro w hSw
    try dsimp only at hSw
    go_simp <;> with_reducible rfl
  try simp only [Act.put, List.setIfInBounds_toArray, List.set_cons_zero, List.set_cons_succ]
  refine takeH (d := some 50) (v := ?_) 7 rfl rfl (by kernel_rfl) (by kernel_rfl) (by kernel_rfl) (fun _ _ _ h => h) (by rfl) ?_ hHeld ?_
  rotate_left
  · intro w hSw
    try dsimp only at hSw
    go_simp <;> with_reducible rfl
  try simp only [Act.put, List.setIfInBounds_toArray, List.set_cons_zero, List.set_cons_succ]
  refine takeH (d := some 51) (v := ?_) 8 rfl rfl (by kernel_rfl) (by kernel_rfl) (by kernel_rfl) (fun _ _ _ h => h) (by rfl) ?_ hHeld ?_
  rotate_left
  · intro w hSw
    try dsimp only at hSw
    go_simp <;> with_reducible rfl
  try simp only [Act.put, List.setIfInBounds_toArray, List.set_cons_zero, List.set_cons_succ]
  refine takeH (d := some 53) (v := ?_) 10 rfl rfl (by kernel_rfl) (by kernel_rfl) (by kernel_rfl) (fun _ _ _ h => h) (by rfl) ?_ hHeld ?_
  rotate_left
  · intro w hSw
    try dsimp only at hSw
    go_simp <;> with_reducible rfl
  try simp only [Act.put, List.setIfInBounds_toArray, List.set_cons_zero, List.set_cons_succ]
  refine takeH (d := some 54) (v := ?_) 11 rfl rfl (by kernel_rfl) (by kernel_rfl) (by kernel_rfl) (fun _ _ _ h => h) (by rfl) ?_ hHeld ?_
  rotate_left
  · intro w hSw
    try dsimp only at hSw
    go_simp <;> with_reducible rfl
  try simp only [Act.put, List.setIfInBounds_toArray, List.set_cons_zero, List.set_cons_succ]
  refine wpAnyH_ready (rs := [9]) (by kernel_rfl) (by simp) ?_
  refine AllReadyH.cons rfl (fun K hK => ?_) AllReadyH.nil
  go_simp
  refine (Agree_calls (T0.out.below HB9.out) (T1.out.below HB9.out)).mono ?_
  rw [AG.out]
  rintro e w10 ⟨rfl, hB⟩
  have HB10 := Aside0.mk (below_then HB9.out HB9.out.size hB)
  clear hB
  refine hK.out _ _ (OK.out _ HB10.out) (fun hHeld => ?_)
  clear hK K
  try simp only [Act.put, List.setIfInBounds_toArray, List.set_cons_zero, List.set_cons_succ]
  refine wpAnyH_ready (rs := [12]) (by kernel_rfl) (by simp) ?_
  refine AllReadyH.cons rfl (fun K hK => ?_) AllReadyH.nil
  go_simp
  refine (Same_calls (T0.out.below HB10.out) (T1.out.below HB10.out)).mono ?_
  rw [SA.out]
  rintro e w11 ⟨rfl, hB⟩
  have HB11 := Aside0.mk (below_then HB10.out HB10.out.size hB)
  clear hB
  refine hK.out _ _ (OK.out _ HB11.out) (fun hHeld => ?_)
  clear hK K
  try simp only [Act.put, List.setIfInBounds_toArray, List.set_cons_zero, List.set_cons_succ]
  refine takeH (d := some 56) (v := ?_) 13 rfl rfl (by kernel_rfl) (by kernel_rfl) (by kernel_rfl) (fun _ _ _ h => h) (by rfl) ?_ hHeld ?_
  rotate_left
  · intro w hSw
    try dsimp only at hSw
    go_simp <;> with_reducible rfl
  try simp only [Act.put, List.setIfInBounds_toArray, List.set_cons_zero, List.set_cons_succ]
  refine takeH (d := some 57) (v := ?_) 14 rfl rfl (by kernel_rfl) (by kernel_rfl) (by kernel_rfl) (fun _ _ _ h => h) (by rfl) ?_ hHeld ?_
  rotate_left
  · intro w hSw
    try dsimp only at hSw
    go_simp <;> with_reducible rfl
  try simp only [Act.put, List.setIfInBounds_toArray, List.set_cons_zero, List.set_cons_succ]
  refine wpAnyH_done (by kernel_rfl) ?_ _
  go_wp2_with fail
  replace HB3 := Aside0.mk (below_then HB3.out HB3.out.size HB11.out)
  replace K1 := Aside0.mk (blk_below K1.out HB11.out)
  replace K2 := Aside0.mk (blk_below K2.out HB11.out)
  replace T0 := Aside0.mk (IsT.below T0.out HB11.out)
  replace T1 := Aside0.mk (IsT.below T1.out HB11.out)
  clear OK HBW
  obtain ⟨e10, e11⟩ := c26_of K1.out (Below.refl _ _)
  have q1 := blk_lt K1.out
  obtain ⟨e20, e21⟩ := c26_of K2.out (Below.refl _ _)
  have q2 := blk_lt K2.out
  go_wp2_with fail
  refine (Agree_calls T0.out T1.out).mono ?_
  rw [AG.out]
  rintro e wA ⟨rfl, hB⟩
  replace HB3 := Aside0.mk (below_then HB3.out HB3.out.size hB)
  replace K1 := Aside0.mk (blk_below K1.out hB)
  replace K2 := Aside0.mk (blk_below K2.out hB)
  replace T0 := Aside0.mk (IsT.below T0.out hB)
  replace T1 := Aside0.mk (IsT.below T1.out hB)
  clear hB e10 e11 e20 e21 q1 q2
  obtain ⟨e10, e11⟩ := c26_of K1.out (Below.refl _ _)
  have q1 := blk_lt K1.out
  obtain ⟨e20, e21⟩ := c26_of K2.out (Below.refl _ _)
  have q2 := blk_lt K2.out
  go_wp2_with fail
  refine (opened_calls _ t0 (Nat.lt_succ_self _) RT.out _ _ spot T0.out).mono ?_
  rintro e wB ⟨vc, c, m, rfl, hc, ho, hB⟩
  have AC1 := Aside0.mk ((ho.agree CK.out).2 AG.out)
  have AC2 := Aside0.mk (ho.agree (b := t1) CK.out).1
  obtain ⟨Ac, cc, rfl, hlc, hcc⟩ := hc
  have TC := Aside0.mk (IsT.mk (k := c.f0) hlc hcc)
  rw [S26.eta] at TC
  replace HB3 := Aside0.mk (below_then HB3.out HB3.out.size hB)
  replace K1 := Aside0.mk (blk_below K1.out hB)
  replace K2 := Aside0.mk (blk_below K2.out hB)
  replace T0 := Aside0.mk (IsT.below T0.out hB)
  replace T1 := Aside0.mk (IsT.below T1.out hB)
  clear hB e10 e11 e20 e21 q1 q2 hlc hcc ho
  obtain ⟨e10, e11⟩ := c26_of K1.out (Below.refl _ _)
  have q1 := blk_lt K1.out
  obtain ⟨e20, e21⟩ := c26_of K2.out (Below.refl _ _)
  have q2 := blk_lt K2.out
  go_wp2_with fail
  have hW := below1 wB #[.int .i8 c.f0, .slice Ac c.f1.length cc] 26
  have K3 := Aside0.mk (heap_alloc_new wB (.cells #[.int .i8 c.f0, .slice Ac c.f1.length cc] 26))
  refine (Agree_calls (TC.out.below hW) (T1.out.below hW)).mono ?_
  rw [AC1.out]
  rintro e wC ⟨rfl, hB⟩
  replace K1 := Aside0.mk (blk_below K1.out hW)
  replace K2 := Aside0.mk (blk_below K2.out hW)
  replace T0 := Aside0.mk (IsT.below T0.out hW)
  replace T1 := Aside0.mk (IsT.below T1.out hW)
  replace TC := Aside0.mk (IsT.below TC.out hW)
  replace HB3 := Aside0.mk (below_then HB3.out HB3.out.size hW)
  replace K1 := Aside0.mk (blk_below K1.out hB)
  replace K2 := Aside0.mk (blk_below K2.out hB)
  replace K3 := Aside0.mk (blk_below K3.out hB)
  replace T0 := Aside0.mk (IsT.below T0.out hB)
  replace T1 := Aside0.mk (IsT.below T1.out hB)
  replace TC := Aside0.mk (IsT.below TC.out hB)
  replace HB3 := Aside0.mk (below_then HB3.out HB3.out.size hB)
  clear hB hW e10 e11 e20 e21 q1 q2
  obtain ⟨e10, e11⟩ := c26_of K1.out (Below.refl _ _)
  have q1 := blk_lt K1.out
  obtain ⟨e30, e31⟩ := c26_of K3.out (Below.refl _ _)
  go_wp2_with fail
  refine (Agree_calls T0.out TC.out).mono ?_
  rw [AC2.out]
  rintro e wD ⟨rfl, hB⟩
  have HBE := Aside0.mk (below_then HB3.out HB3.out.size hB)
  clear hB e10 e11 e30 e31 q1
  go_wp2_with fail
  refine (wakes6_calls _).mono ?_
  rintro e wE ⟨rfl, hB⟩
  go_wp2_with fail
  go_ret
  exact ⟨rfl, below_then HBE.out HBE.out.size hB⟩
end Go.Proofs.Ytamhdpllmhafhaa.X
