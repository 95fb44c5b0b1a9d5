/- The walk of the law BelowBoth. -/
import Derived.Test.YtamhdpllmhafhaaHWakes8
import Derived.Test.YtamhdpllmhafhaaHLess
namespace Go.Proofs.Ytamhdpllmhafhaa.X
open Go.RowKit Go.Proofs.YtamhdpllmhafhaaW.PrintWords Go.Proofs.YtamhdpllmhafhaaW.PrintLast Go.Proofs.YtamhdpllmhafhaaW.PrintMore
set_option linter.unusedVariables false
set_option linter.unusedSimpArgs false

set_option maxRecDepth 100000 in
set_option maxHeartbeats 3200000 in
theorem both_no (a b : S26) (q q2 : Bool) (w : World) (A : Option Addr) (ca : Nat) (B : Option Addr) (cb : Nat) (T0 : Aside0 (IsT w (.agg #[.int .i8 a.f0, .slice A a.f1.length ca]) a)) (T1 : Aside0 (IsT w (.agg #[.int .i8 b.f0, .slice B b.f1.length cb]) b)) (P : Aside0 (relB 1 a b = false)) (BL : Aside0 (relB 0 a b = false)) (LS : Aside0 (lessR b a = false)) :
    Calls Try.prog 14 #[.agg #[.int .i8 a.f0, .slice A a.f1.length ca], .agg #[.int .i8 b.f0, .slice B b.f1.length cb]] w fun e w' => e = .returned (.bool true) ∧ Below w.heap.size w w' := by
  go_enter Try.func14, Try.ntmps14
  go_wp2_with fail
  have hW := below2 w #[.int .i8 a.f0, .slice A a.f1.length ca] #[.int .i8 b.f0, .slice B b.f1.length cb] 26 26
  have K1 := Aside0.mk (blk_alloc (heap_alloc_new w (.cells #[.int .i8 a.f0, .slice A a.f1.length ca] 26)) (.cells #[.int .i8 b.f0, .slice B b.f1.length cb] 26))
  have K2 := Aside0.mk (new2 w (.cells #[.int .i8 a.f0, .slice A a.f1.length ca] 26) #[.int .i8 b.f0, .slice B b.f1.length cb] 26)
  generalize (w.alloc (.cells #[.int .i8 a.f0, .slice A a.f1.length ca] 26)).alloc (.cells #[.int .i8 b.f0, .slice B b.f1.length cb] 26) = W at *
  replace T0 := Aside0.mk (IsT.below T0.out hW)
  replace T1 := Aside0.mk (IsT.below T1.out hW)
  have HB := Aside0.mk hW
  clear hW
  have OK := Aside0.mk (fun w' (h : Below W.heap.size W w') => (⟨c26_of K1.out h, c26_of K2.out h⟩ : ((w'.cell? ⟨w.heap.size, 0, none⟩ = some (.int .i8 a.f0) ∧ w'.cell? ⟨w.heap.size, 1, none⟩ = some (.slice A a.f1.length ca)) ∧ (w'.cell? ⟨(w.heap.size + 1), 0, none⟩ = some (.int .i8 b.f0) ∧ w'.cell? ⟨(w.heap.size + 1), 1, none⟩ = some (.slice B b.f1.length cb)))))
  have HBW := Aside0.mk (Below.refl W.heap.size W)
  refine wp_region_held_drew (S := (fun w' => ((w'.cell? ⟨w.heap.size, 0, none⟩ = some (.int .i8 a.f0) ∧ w'.cell? ⟨w.heap.size, 1, none⟩ = some (.slice A a.f1.length ca)) ∧ (w'.cell? ⟨(w.heap.size + 1), 0, none⟩ = some (.int .i8 b.f0) ∧ w'.cell? ⟨(w.heap.size + 1), 1, none⟩ = some (.slice B b.f1.length cb))))) (by kernel_rfl) (OK.out _ HBW.out.drew) (fun hHeld => ?_)
  refine takeH (d := some 5) (v := ?_) 0 rfl rfl (by kernel_rfl) (by kernel_rfl) (by kernel_rfl) (fun _ _ _ h => h) (by rfl) ?_ hHeld ?_
  rotate_left
  · intro w hSw
    try dsimp only at hSw
    go_simp <;> with_reducible rfl
  try simp only [Act.put, List.setIfInBounds_toArray, List.set_cons_zero, List.set_cons_succ]
  refine takeH (d := some 6) (v := ?_) 1 rfl rfl (by kernel_rfl) (by kernel_rfl) (by kernel_rfl) (fun _ _ _ h => h) (by rfl) ?_ hHeld ?_
  rotate_left
  · intro w hSw
    try dsimp only at hSw
    go_simp <;> with_reducible rfl
  try simp only [Act.put, List.setIfInBounds_toArray, List.set_cons_zero, List.set_cons_succ]
  refine takeH (d := some 8) (v := ?_) 3 rfl rfl (by kernel_rfl) (by kernel_rfl) (by kernel_rfl) (fun _ _ _ h => h) (by rfl) ?_ hHeld ?_
  rotate_left
  · intro w hSw
    try dsimp only at hSw
    go_simp <;> with_reducible rfl
  try simp only [Act.put, List.setIfInBounds_toArray, List.set_cons_zero, List.set_cons_succ]
  refine takeH (d := some 9) (v := ?_) 4 rfl rfl (by kernel_rfl) (by kernel_rfl) (by kernel_rfl) (fun _ _ _ h => h) (by rfl) ?_ hHeld ?_
  rotate_left
  · intro w hSw
    try dsimp only at hSw
    go_simp <;> with_reducible rfl
  try simp only [Act.put, List.setIfInBounds_toArray, List.set_cons_zero, List.set_cons_succ]
  refine wpAnyH_ready (rs := [2]) (by kernel_rfl) (by simp) ?_
  refine AllReadyH.cons rfl (fun K hK => ?_) AllReadyH.nil
  go_simp
  refine (Below_calls (T0.out.below HBW.out.drew) (T1.out.below HBW.out.drew)).mono ?_
  rw [BL.out]
  rintro e w1 ⟨rfl, hB⟩
  have H1 := Aside0.mk (below_then HBW.out.drew (HBW.out.drew).size hB)
  clear hB
  refine hK.out _ _ (OK.out _ H1.out) (fun hHeld => ?_)
  clear hK K
  try simp only [Act.put, List.setIfInBounds_toArray, List.set_cons_zero, List.set_cons_succ]
  refine wpAnyH_ready (rs := [5]) (by kernel_rfl) (by simp) ?_
  refine AllReadyH.cons rfl (fun K hK => ?_) AllReadyH.nil
  go_simp
  refine (Pos_calls (T0.out.below H1.out) (T1.out.below H1.out)).mono ?_
  rw [P.out]
  rintro e w2 ⟨rfl, hB⟩
  have H2 := Aside0.mk (below_then H1.out (H1.out).size hB)
  clear hB
  refine hK.out _ _ (OK.out _ H2.out) (fun hHeld => ?_)
  clear hK K
  try simp only [Act.put, List.setIfInBounds_toArray, List.set_cons_zero, List.set_cons_succ]
  refine takeH (d := some 11) (v := ?_) 6 rfl rfl (by kernel_rfl) (by kernel_rfl) (by kernel_rfl) (fun _ _ _ h => h) (by rfl) ?_ hHeld ?_
  rotate_left
  · intro w hSw
    try dsimp only at hSw
    go_simp <;> with_reducible rfl
  try simp only [Act.put, List.setIfInBounds_toArray, List.set_cons_zero, List.set_cons_succ]
  refine passH (d := some 12) 7 rfl rfl (by kernel_rfl) (by kernel_rfl) (by kernel_rfl) (fun _ _ _ h => h) (by rfl) hHeld ?_
  try simp only [Act.put, List.setIfInBounds_toArray, List.set_cons_zero, List.set_cons_succ]
  refine passH (d := some 13) 8 rfl rfl (by kernel_rfl) (by kernel_rfl) (by kernel_rfl) (fun _ _ _ h => h) (by rfl) hHeld ?_
  try simp only [Act.put, List.setIfInBounds_toArray, List.set_cons_zero, List.set_cons_succ]
  refine passH (d := some 14) 9 rfl rfl (by kernel_rfl) (by kernel_rfl) (by kernel_rfl) (fun _ _ _ h => h) (by rfl) hHeld ?_
  try simp only [Act.put, List.setIfInBounds_toArray, List.set_cons_zero, List.set_cons_succ]
  refine takeH (d := some 15) (v := ?_) 10 rfl rfl (by kernel_rfl) (by kernel_rfl) (by kernel_rfl) (fun _ _ _ h => h) (by rfl) ?_ hHeld ?_
  rotate_left
  · intro w hSw
    try dsimp only at hSw
    go_simp <;> with_reducible rfl
  try simp only [Act.put, List.setIfInBounds_toArray, List.set_cons_zero, List.set_cons_succ]
  refine takeH (d := some 16) (v := ?_) 11 rfl rfl (by kernel_rfl) (by kernel_rfl) (by kernel_rfl) (fun _ _ _ h => h) (by rfl) ?_ hHeld ?_
  rotate_left
  · intro w hSw
    try dsimp only at hSw
    go_simp <;> with_reducible rfl
  try simp only [Act.put, List.setIfInBounds_toArray, List.set_cons_zero, List.set_cons_succ]
  refine wpAnyH_done (by kernel_rfl) ?_ _
  go_wp2_with fail
  replace K1 := Aside0.mk (blk_below K1.out H2.out)
  replace K2 := Aside0.mk (blk_below K2.out H2.out)
  replace T0 := Aside0.mk (IsT.below T0.out H2.out)
  replace T1 := Aside0.mk (IsT.below T1.out H2.out)
  replace HB := Aside0.mk (below_then HB.out HB.out.size H2.out)
  clear OK HBW
  have OK := Aside0.mk (fun w' (h : Below w2.heap.size w2 w') => (⟨c26_of K1.out h, c26_of K2.out h⟩ : ((w'.cell? ⟨w.heap.size, 0, none⟩ = some (.int .i8 a.f0) ∧ w'.cell? ⟨w.heap.size, 1, none⟩ = some (.slice A a.f1.length ca)) ∧ (w'.cell? ⟨(w.heap.size + 1), 0, none⟩ = some (.int .i8 b.f0) ∧ w'.cell? ⟨(w.heap.size + 1), 1, none⟩ = some (.slice B b.f1.length cb)))))
  have HBW := Aside0.mk (Below.refl w2.heap.size w2)
  refine wp_region_held_drew (S := (fun w' => ((w'.cell? ⟨w.heap.size, 0, none⟩ = some (.int .i8 a.f0) ∧ w'.cell? ⟨w.heap.size, 1, none⟩ = some (.slice A a.f1.length ca)) ∧ (w'.cell? ⟨(w.heap.size + 1), 0, none⟩ = some (.int .i8 b.f0) ∧ w'.cell? ⟨(w.heap.size + 1), 1, none⟩ = some (.slice B b.f1.length cb))))) (by kernel_rfl) (OK.out _ HBW.out.drew) (fun hHeld => ?_)
  refine takeH (d := some 17) (v := ?_) 0 rfl rfl (by kernel_rfl) (by kernel_rfl) (by kernel_rfl) (fun _ _ _ h => h) (by rfl) ?_ hHeld ?_
  rotate_left
  · intro w hSw
    try dsimp only at hSw
    go_simp <;> with_reducible rfl
  try simp only [Act.put, List.setIfInBounds_toArray, List.set_cons_zero, List.set_cons_succ]
  refine takeH (d := some 18) (v := ?_) 1 rfl rfl (by kernel_rfl) (by kernel_rfl) (by kernel_rfl) (fun _ _ _ h => h) (by rfl) ?_ hHeld ?_
  rotate_left
  · intro w hSw
    try dsimp only at hSw
    go_simp <;> with_reducible rfl
  try simp only [Act.put, List.setIfInBounds_toArray, List.set_cons_zero, List.set_cons_succ]
  refine takeH (d := some 20) (v := ?_) 3 rfl rfl (by kernel_rfl) (by kernel_rfl) (by kernel_rfl) (fun _ _ _ h => h) (by rfl) ?_ hHeld ?_
  rotate_left
  · intro w hSw
    try dsimp only at hSw
    go_simp <;> with_reducible rfl
  try simp only [Act.put, List.setIfInBounds_toArray, List.set_cons_zero, List.set_cons_succ]
  refine takeH (d := some 21) (v := ?_) 4 rfl rfl (by kernel_rfl) (by kernel_rfl) (by kernel_rfl) (fun _ _ _ h => h) (by rfl) ?_ hHeld ?_
  rotate_left
  · intro w hSw
    try dsimp only at hSw
    go_simp <;> with_reducible rfl
  try simp only [Act.put, List.setIfInBounds_toArray, List.set_cons_zero, List.set_cons_succ]
  refine wpAnyH_ready (rs := [2]) (by kernel_rfl) (by simp) ?_
  refine AllReadyH.cons rfl (fun K hK => ?_) AllReadyH.nil
  go_simp
  refine (Less_calls (T1.out.below HBW.out.drew) (T0.out.below HBW.out.drew)).mono ?_
  rw [LS.out]
  rintro e w4 ⟨rfl, hB⟩
  have J1 := Aside0.mk (below_then HBW.out.drew (HBW.out.drew).size hB)
  clear hB
  refine hK.out _ _ (OK.out _ J1.out) (fun hHeld => ?_)
  clear hK K
  try simp only [Act.put, List.setIfInBounds_toArray, List.set_cons_zero, List.set_cons_succ]
  refine wpAnyH_ready (rs := [5]) (by kernel_rfl) (by simp) ?_
  refine AllReadyH.cons rfl (fun K hK => ?_) AllReadyH.nil
  go_simp
  refine (Pos_calls (T0.out.below J1.out) (T1.out.below J1.out)).mono ?_
  rw [P.out]
  rintro e w5 ⟨rfl, hB⟩
  have J2 := Aside0.mk (below_then J1.out (J1.out).size hB)
  clear hB
  refine hK.out _ _ (OK.out _ J2.out) (fun hHeld => ?_)
  clear hK K
  try simp only [Act.put, List.setIfInBounds_toArray, List.set_cons_zero, List.set_cons_succ]
  refine takeH (d := some 23) (v := ?_) 6 rfl rfl (by kernel_rfl) (by kernel_rfl) (by kernel_rfl) (fun _ _ _ h => h) (by rfl) ?_ hHeld ?_
  rotate_left
  · intro w hSw
    try dsimp only at hSw
    go_simp <;> with_reducible rfl
  try simp only [Act.put, List.setIfInBounds_toArray, List.set_cons_zero, List.set_cons_succ]
  refine passH (d := some 24) 7 rfl rfl (by kernel_rfl) (by kernel_rfl) (by kernel_rfl) (fun _ _ _ h => h) (by rfl) hHeld ?_
  try simp only [Act.put, List.setIfInBounds_toArray, List.set_cons_zero, List.set_cons_succ]
  refine passH (d := some 25) 8 rfl rfl (by kernel_rfl) (by kernel_rfl) (by kernel_rfl) (fun _ _ _ h => h) (by rfl) hHeld ?_
  try simp only [Act.put, List.setIfInBounds_toArray, List.set_cons_zero, List.set_cons_succ]
  refine passH (d := some 26) 9 rfl rfl (by kernel_rfl) (by kernel_rfl) (by kernel_rfl) (fun _ _ _ h => h) (by rfl) hHeld ?_
  try simp only [Act.put, List.setIfInBounds_toArray, List.set_cons_zero, List.set_cons_succ]
  refine takeH (d := some 27) (v := ?_) 10 rfl rfl (by kernel_rfl) (by kernel_rfl) (by kernel_rfl) (fun _ _ _ h => h) (by rfl) ?_ hHeld ?_
  rotate_left
  · intro w hSw
    try dsimp only at hSw
    go_simp <;> with_reducible rfl
  try simp only [Act.put, List.setIfInBounds_toArray, List.set_cons_zero, List.set_cons_succ]
  refine takeH (d := some 28) (v := ?_) 11 rfl rfl (by kernel_rfl) (by kernel_rfl) (by kernel_rfl) (fun _ _ _ h => h) (by rfl) ?_ hHeld ?_
  rotate_left
  · intro w hSw
    try dsimp only at hSw
    go_simp <;> with_reducible rfl
  try simp only [Act.put, List.setIfInBounds_toArray, List.set_cons_zero, List.set_cons_succ]
  refine takeH (d := some 29) (v := ?_) 12 rfl rfl (by kernel_rfl) (by kernel_rfl) (by kernel_rfl) (fun _ _ _ h => h) (by rfl) ?_ hHeld ?_
  rotate_left
  · intro w hSw
    try dsimp only at hSw
    go_simp <;> with_reducible rfl
  try simp only [Act.put, List.setIfInBounds_toArray, List.set_cons_zero, List.set_cons_succ]
  refine wpAnyH_ready (rs := [13]) (by kernel_rfl) (by simp) ?_
  refine AllReadyH.cons rfl (fun K hK => ?_) AllReadyH.nil
  go_simp
  refine (wakes8_calls _).mono ?_
  rintro e w7 ⟨rfl, hB⟩
  have J4 := Aside0.mk (below_then J2.out J2.out.size hB)
  clear hB
  refine hK.out _ _ (OK.out _ J4.out) (fun hHeld => ?_)
  clear hK K
  try simp only [Act.put, List.setIfInBounds_toArray, List.set_cons_zero, List.set_cons_succ]
  refine takeH (d := some 31) (v := ?_) 14 rfl rfl (by kernel_rfl) (by kernel_rfl) (by kernel_rfl) (fun _ _ _ h => h) (by rfl) ?_ hHeld ?_
  rotate_left
  · intro w hSw
    try dsimp only at hSw
    go_simp <;> with_reducible rfl
  try simp only [Act.put, List.setIfInBounds_toArray, List.set_cons_zero, List.set_cons_succ]
  refine takeH (d := some 4) (v := ?_) 15 rfl rfl (by kernel_rfl) (by kernel_rfl) (by kernel_rfl) (fun _ _ _ h => h) (by rfl) ?_ hHeld ?_
  rotate_left
  · intro w hSw
    try dsimp only at hSw
    go_simp <;> with_reducible rfl
  try simp only [Act.put, List.setIfInBounds_toArray, List.set_cons_zero, List.set_cons_succ]
  refine wpAnyH_done (by kernel_rfl) ?_ _
  go_wp2_with fail
  go_ret
  exact ⟨rfl, below_then HB.out HB.out.size J4.out⟩
set_option maxRecDepth 100000 in
set_option maxHeartbeats 3200000 in
theorem both_yes (a b : S26) (q q2 : Bool) (w : World) (A : Option Addr) (ca : Nat) (B : Option Addr) (cb : Nat) (T0 : Aside0 (IsT w (.agg #[.int .i8 a.f0, .slice A a.f1.length ca]) a)) (T1 : Aside0 (IsT w (.agg #[.int .i8 b.f0, .slice B b.f1.length cb]) b)) (P : Aside0 (relB 1 a b = true)) (BL : Aside0 (relB 0 a b = q)) (LS : Aside0 (lessR b a = q2)) (N : Aside0 (relB 2 a b = q)) (N2 : Aside0 (relB 2 b a = q2)) :
    Calls Try.prog 14 #[.agg #[.int .i8 a.f0, .slice A a.f1.length ca], .agg #[.int .i8 b.f0, .slice B b.f1.length cb]] w fun e w' => e = .returned (.bool true) ∧ Below w.heap.size w w' := by
  go_enter Try.func14, Try.ntmps14
  go_wp2_with fail
  have hW := below2 w #[.int .i8 a.f0, .slice A a.f1.length ca] #[.int .i8 b.f0, .slice B b.f1.length cb] 26 26
  have K1 := Aside0.mk (blk_alloc (heap_alloc_new w (.cells #[.int .i8 a.f0, .slice A a.f1.length ca] 26)) (.cells #[.int .i8 b.f0, .slice B b.f1.length cb] 26))
  have K2 := Aside0.mk (new2 w (.cells #[.int .i8 a.f0, .slice A a.f1.length ca] 26) #[.int .i8 b.f0, .slice B b.f1.length cb] 26)
  generalize (w.alloc (.cells #[.int .i8 a.f0, .slice A a.f1.length ca] 26)).alloc (.cells #[.int .i8 b.f0, .slice B b.f1.length cb] 26) = W at *
  replace T0 := Aside0.mk (IsT.below T0.out hW)
  replace T1 := Aside0.mk (IsT.below T1.out hW)
  have HB := Aside0.mk hW
  clear hW
  have OK := Aside0.mk (fun w' (h : Below W.heap.size W w') => (⟨c26_of K1.out h, c26_of K2.out h⟩ : ((w'.cell? ⟨w.heap.size, 0, none⟩ = some (.int .i8 a.f0) ∧ w'.cell? ⟨w.heap.size, 1, none⟩ = some (.slice A a.f1.length ca)) ∧ (w'.cell? ⟨(w.heap.size + 1), 0, none⟩ = some (.int .i8 b.f0) ∧ w'.cell? ⟨(w.heap.size + 1), 1, none⟩ = some (.slice B b.f1.length cb)))))
  have HBW := Aside0.mk (Below.refl W.heap.size W)
  refine wp_region_held_drew (S := (fun w' => ((w'.cell? ⟨w.heap.size, 0, none⟩ = some (.int .i8 a.f0) ∧ w'.cell? ⟨w.heap.size, 1, none⟩ = some (.slice A a.f1.length ca)) ∧ (w'.cell? ⟨(w.heap.size + 1), 0, none⟩ = some (.int .i8 b.f0) ∧ w'.cell? ⟨(w.heap.size + 1), 1, none⟩ = some (.slice B b.f1.length cb))))) (by kernel_rfl) (OK.out _ HBW.out.drew) (fun hHeld => ?_)
  refine takeH (d := some 5) (v := ?_) 0 rfl rfl (by kernel_rfl) (by kernel_rfl) (by kernel_rfl) (fun _ _ _ h => h) (by rfl) ?_ hHeld ?_
  rotate_left
  · intro w hSw
    try dsimp only at hSw
    go_simp <;> with_reducible rfl
  try simp only [Act.put, List.setIfInBounds_toArray, List.set_cons_zero, List.set_cons_succ]
  refine takeH (d := some 6) (v := ?_) 1 rfl rfl (by kernel_rfl) (by kernel_rfl) (by kernel_rfl) (fun _ _ _ h => h) (by rfl) ?_ hHeld ?_
  rotate_left
  · intro w hSw
    try dsimp only at hSw
    go_simp <;> with_reducible rfl
  try simp only [Act.put, List.setIfInBounds_toArray, List.set_cons_zero, List.set_cons_succ]
  refine takeH (d := some 8) (v := ?_) 3 rfl rfl (by kernel_rfl) (by kernel_rfl) (by kernel_rfl) (fun _ _ _ h => h) (by rfl) ?_ hHeld ?_
  rotate_left
  · intro w hSw
    try dsimp only at hSw
    go_simp <;> with_reducible rfl
  try simp only [Act.put, List.setIfInBounds_toArray, List.set_cons_zero, List.set_cons_succ]
  refine takeH (d := some 9) (v := ?_) 4 rfl rfl (by kernel_rfl) (by kernel_rfl) (by kernel_rfl) (fun _ _ _ h => h) (by rfl) ?_ hHeld ?_
  rotate_left
  · intro w hSw
    try dsimp only at hSw
    go_simp <;> with_reducible rfl
  try simp only [Act.put, List.setIfInBounds_toArray, List.set_cons_zero, List.set_cons_succ]
  refine wpAnyH_ready (rs := [2]) (by kernel_rfl) (by simp) ?_
  refine AllReadyH.cons rfl (fun K hK => ?_) AllReadyH.nil
  go_simp
  refine (Below_calls (T0.out.below HBW.out.drew) (T1.out.below HBW.out.drew)).mono ?_
  rw [BL.out]
  rintro e w1 ⟨rfl, hB⟩
  have H1 := Aside0.mk (below_then HBW.out.drew (HBW.out.drew).size hB)
  clear hB
  refine hK.out _ _ (OK.out _ H1.out) (fun hHeld => ?_)
  clear hK K
  try simp only [Act.put, List.setIfInBounds_toArray, List.set_cons_zero, List.set_cons_succ]
  refine wpAnyH_ready (rs := [5]) (by kernel_rfl) (by simp) ?_
  refine AllReadyH.cons rfl (fun K hK => ?_) AllReadyH.nil
  go_simp
  refine (Pos_calls (T0.out.below H1.out) (T1.out.below H1.out)).mono ?_
  rw [P.out]
  rintro e w2 ⟨rfl, hB⟩
  have H2 := Aside0.mk (below_then H1.out (H1.out).size hB)
  clear hB
  refine hK.out _ _ (OK.out _ H2.out) (fun hHeld => ?_)
  clear hK K
  try simp only [Act.put, List.setIfInBounds_toArray, List.set_cons_zero, List.set_cons_succ]
  refine takeH (d := some 11) (v := ?_) 6 rfl rfl (by kernel_rfl) (by kernel_rfl) (by kernel_rfl) (fun _ _ _ h => h) (by rfl) ?_ hHeld ?_
  rotate_left
  · intro w hSw
    try dsimp only at hSw
    go_simp <;> with_reducible rfl
  try simp only [Act.put, List.setIfInBounds_toArray, List.set_cons_zero, List.set_cons_succ]
  refine takeH (d := some 12) (v := ?_) 7 rfl rfl (by kernel_rfl) (by kernel_rfl) (by kernel_rfl) (fun _ _ _ h => h) (by rfl) ?_ hHeld ?_
  rotate_left
  · intro w hSw
    try dsimp only at hSw
    go_simp <;> with_reducible rfl
  try simp only [Act.put, List.setIfInBounds_toArray, List.set_cons_zero, List.set_cons_succ]
  refine takeH (d := some 13) (v := ?_) 8 rfl rfl (by kernel_rfl) (by kernel_rfl) (by kernel_rfl) (fun _ _ _ h => h) (by rfl) ?_ hHeld ?_
  rotate_left
  · intro w hSw
    try dsimp only at hSw
    go_simp <;> with_reducible rfl
  try simp only [Act.put, List.setIfInBounds_toArray, List.set_cons_zero, List.set_cons_succ]
  refine wpAnyH_ready (rs := [9]) (by kernel_rfl) (by simp) ?_
  refine AllReadyH.cons rfl (fun K hK => ?_) AllReadyH.nil
  go_simp
  refine (Neg_calls (T0.out.below H2.out) (T1.out.below H2.out)).mono ?_
  rw [N.out]
  rintro e w3 ⟨rfl, hB⟩
  have H3 := Aside0.mk (below_then H2.out (H2.out).size hB)
  clear hB
  refine hK.out _ _ (OK.out _ H3.out) (fun hHeld => ?_)
  clear hK K
  try simp only [Act.put, List.setIfInBounds_toArray, List.set_cons_zero, List.set_cons_succ]
  refine takeH (d := some 15) (v := ?_) 10 rfl rfl (by kernel_rfl) (by kernel_rfl) (by kernel_rfl) (fun _ _ _ h => h) (by rfl) ?_ hHeld ?_
  rotate_left
  · intro w hSw
    try dsimp only at hSw
    go_simp <;> with_reducible rfl
  try simp only [Act.put, List.setIfInBounds_toArray, List.set_cons_zero, List.set_cons_succ]
  refine takeH (d := some 16) (v := ?_) 11 rfl rfl (by kernel_rfl) (by kernel_rfl) (by kernel_rfl) (fun _ _ _ h => h) (by rfl) ?_ hHeld ?_
  rotate_left
  · intro w hSw
    try dsimp only at hSw
    go_simp <;> with_reducible rfl
  try simp only [Act.put, List.setIfInBounds_toArray, List.set_cons_zero, List.set_cons_succ]
  refine wpAnyH_done (by kernel_rfl) ?_ _
  go_wp2_with fail
  replace K1 := Aside0.mk (blk_below K1.out H3.out)
  replace K2 := Aside0.mk (blk_below K2.out H3.out)
  replace T0 := Aside0.mk (IsT.below T0.out H3.out)
  replace T1 := Aside0.mk (IsT.below T1.out H3.out)
  replace HB := Aside0.mk (below_then HB.out HB.out.size H3.out)
  clear OK HBW
  have OK := Aside0.mk (fun w' (h : Below w3.heap.size w3 w') => (⟨c26_of K1.out h, c26_of K2.out h⟩ : ((w'.cell? ⟨w.heap.size, 0, none⟩ = some (.int .i8 a.f0) ∧ w'.cell? ⟨w.heap.size, 1, none⟩ = some (.slice A a.f1.length ca)) ∧ (w'.cell? ⟨(w.heap.size + 1), 0, none⟩ = some (.int .i8 b.f0) ∧ w'.cell? ⟨(w.heap.size + 1), 1, none⟩ = some (.slice B b.f1.length cb)))))
  have HBW := Aside0.mk (Below.refl w3.heap.size w3)
  refine wp_region_held_drew (S := (fun w' => ((w'.cell? ⟨w.heap.size, 0, none⟩ = some (.int .i8 a.f0) ∧ w'.cell? ⟨w.heap.size, 1, none⟩ = some (.slice A a.f1.length ca)) ∧ (w'.cell? ⟨(w.heap.size + 1), 0, none⟩ = some (.int .i8 b.f0) ∧ w'.cell? ⟨(w.heap.size + 1), 1, none⟩ = some (.slice B b.f1.length cb))))) (by kernel_rfl) (OK.out _ HBW.out.drew) (fun hHeld => ?_)
  refine takeH (d := some 17) (v := ?_) 0 rfl rfl (by kernel_rfl) (by kernel_rfl) (by kernel_rfl) (fun _ _ _ h => h) (by rfl) ?_ hHeld ?_
  rotate_left
  · intro w hSw
    try dsimp only at hSw
    go_simp <;> with_reducible rfl
  try simp only [Act.put, List.setIfInBounds_toArray, List.set_cons_zero, List.set_cons_succ]
  refine takeH (d := some 18) (v := ?_) 1 rfl rfl (by kernel_rfl) (by kernel_rfl) (by kernel_rfl) (fun _ _ _ h => h) (by rfl) ?_ hHeld ?_
  rotate_left
  · intro w hSw
    try dsimp only at hSw
    go_simp <;> with_reducible rfl
  try simp only [Act.put, List.setIfInBounds_toArray, List.set_cons_zero, List.set_cons_succ]
  refine takeH (d := some 20) (v := ?_) 3 rfl rfl (by kernel_rfl) (by kernel_rfl) (by kernel_rfl) (fun _ _ _ h => h) (by rfl) ?_ hHeld ?_
  rotate_left
  · intro w hSw
    try dsimp only at hSw
    go_simp <;> with_reducible rfl
  try simp only [Act.put, List.setIfInBounds_toArray, List.set_cons_zero, List.set_cons_succ]
  refine takeH (d := some 21) (v := ?_) 4 rfl rfl (by kernel_rfl) (by kernel_rfl) (by kernel_rfl) (fun _ _ _ h => h) (by rfl) ?_ hHeld ?_
  rotate_left
  · intro w hSw
    try dsimp only at hSw
    go_simp <;> with_reducible rfl
  try simp only [Act.put, List.setIfInBounds_toArray, List.set_cons_zero, List.set_cons_succ]
  refine wpAnyH_ready (rs := [2]) (by kernel_rfl) (by simp) ?_
  refine AllReadyH.cons rfl (fun K hK => ?_) AllReadyH.nil
  go_simp
  refine (Less_calls (T1.out.below HBW.out.drew) (T0.out.below HBW.out.drew)).mono ?_
  rw [LS.out]
  rintro e w4 ⟨rfl, hB⟩
  have J1 := Aside0.mk (below_then HBW.out.drew (HBW.out.drew).size hB)
  clear hB
  refine hK.out _ _ (OK.out _ J1.out) (fun hHeld => ?_)
  clear hK K
  try simp only [Act.put, List.setIfInBounds_toArray, List.set_cons_zero, List.set_cons_succ]
  refine wpAnyH_ready (rs := [5]) (by kernel_rfl) (by simp) ?_
  refine AllReadyH.cons rfl (fun K hK => ?_) AllReadyH.nil
  go_simp
  refine (Pos_calls (T0.out.below J1.out) (T1.out.below J1.out)).mono ?_
  rw [P.out]
  rintro e w5 ⟨rfl, hB⟩
  have J2 := Aside0.mk (below_then J1.out (J1.out).size hB)
  clear hB
  refine hK.out _ _ (OK.out _ J2.out) (fun hHeld => ?_)
  clear hK K
  try simp only [Act.put, List.setIfInBounds_toArray, List.set_cons_zero, List.set_cons_succ]
  refine takeH (d := some 23) (v := ?_) 6 rfl rfl (by kernel_rfl) (by kernel_rfl) (by kernel_rfl) (fun _ _ _ h => h) (by rfl) ?_ hHeld ?_
  rotate_left
  · intro w hSw
    try dsimp only at hSw
    go_simp <;> with_reducible rfl
  try simp only [Act.put, List.setIfInBounds_toArray, List.set_cons_zero, List.set_cons_succ]
  refine takeH (d := some 24) (v := ?_) 7 rfl rfl (by kernel_rfl) (by kernel_rfl) (by kernel_rfl) (fun _ _ _ h => h) (by rfl) ?_ hHeld ?_
  rotate_left
  · intro w hSw
    try dsimp only at hSw
    go_simp <;> with_reducible rfl
  try simp only [Act.put, List.setIfInBounds_toArray, List.set_cons_zero, List.set_cons_succ]
  refine takeH (d := some 25) (v := ?_) 8 rfl rfl (by kernel_rfl) (by kernel_rfl) (by kernel_rfl) (fun _ _ _ h => h) (by rfl) ?_ hHeld ?_
  rotate_left
  · intro w hSw
    try dsimp only at hSw
    go_simp <;> with_reducible rfl
  try simp only [Act.put, List.setIfInBounds_toArray, List.set_cons_zero, List.set_cons_succ]
  refine wpAnyH_ready (rs := [9]) (by kernel_rfl) (by simp) ?_
  refine AllReadyH.cons rfl (fun K hK => ?_) AllReadyH.nil
  go_simp
  refine (Neg_calls (T1.out.below J2.out) (T0.out.below J2.out)).mono ?_
  rw [N2.out]
  rintro e w6 ⟨rfl, hB⟩
  have J3 := Aside0.mk (below_then J2.out (J2.out).size hB)
  clear hB
  refine hK.out _ _ (OK.out _ J3.out) (fun hHeld => ?_)
  clear hK K
  try simp only [Act.put, List.setIfInBounds_toArray, List.set_cons_zero, List.set_cons_succ]
  refine takeH (d := some 27) (v := ?_) 10 rfl rfl (by kernel_rfl) (by kernel_rfl) (by kernel_rfl) (fun _ _ _ h => h) (by rfl) ?_ hHeld ?_
  rotate_left
  · intro w hSw
    try dsimp only at hSw
    go_simp <;> with_reducible rfl
  try simp only [Act.put, List.setIfInBounds_toArray, List.set_cons_zero, List.set_cons_succ]
  refine takeH (d := some 28) (v := ?_) 11 rfl rfl (by kernel_rfl) (by kernel_rfl) (by kernel_rfl) (fun _ _ _ h => h) (by rfl) ?_ hHeld ?_
  rotate_left
  · intro w hSw
    try dsimp only at hSw
    go_simp <;> with_reducible rfl
  try simp only [Act.put, List.setIfInBounds_toArray, List.set_cons_zero, List.set_cons_succ]
  refine takeH (d := some 29) (v := ?_) 12 rfl rfl (by kernel_rfl) (by kernel_rfl) (by kernel_rfl) (fun _ _ _ h => h) (by rfl) ?_ hHeld ?_
  rotate_left
  · intro w hSw
    try dsimp only at hSw
    go_simp <;> with_reducible rfl
  try simp only [Act.put, List.setIfInBounds_toArray, List.set_cons_zero, List.set_cons_succ]
  refine wpAnyH_ready (rs := [13]) (by kernel_rfl) (by simp) ?_
  refine AllReadyH.cons rfl (fun K hK => ?_) AllReadyH.nil
  go_simp
  refine (wakes8_calls _).mono ?_
  rintro e w7 ⟨rfl, hB⟩
  have J4 := Aside0.mk (below_then J3.out J3.out.size hB)
  clear hB
  refine hK.out _ _ (OK.out _ J4.out) (fun hHeld => ?_)
  clear hK K
  try simp only [Act.put, List.setIfInBounds_toArray, List.set_cons_zero, List.set_cons_succ]
  refine takeH (d := some 31) (v := ?_) 14 rfl rfl (by kernel_rfl) (by kernel_rfl) (by kernel_rfl) (fun _ _ _ h => h) (by rfl) ?_ hHeld ?_
  rotate_left
  · intro w hSw
    try dsimp only at hSw
    go_simp <;> with_reducible rfl
  try simp only [Act.put, List.setIfInBounds_toArray, List.set_cons_zero, List.set_cons_succ]
  refine takeH (d := some 4) (v := ?_) 15 rfl rfl (by kernel_rfl) (by kernel_rfl) (by kernel_rfl) (fun _ _ _ h => h) (by rfl) ?_ hHeld ?_
  rotate_left
  · intro w hSw
    try dsimp only at hSw
    go_simp <;> with_reducible rfl
  try simp only [Act.put, List.setIfInBounds_toArray, List.set_cons_zero, List.set_cons_succ]
  refine wpAnyH_done (by kernel_rfl) ?_ _
  go_wp2_with fail
  go_ret
  exact ⟨rfl, below_then HB.out HB.out.size J4.out⟩
theorem belowBoth_walk (u0 : Value) (a : S26) (u1 : Value) (b : S26) (w : World) (h0 : IsT w u0 a) (h1 : IsT w u1 b) :
    Calls Try.prog 14 #[u0, u1] w fun e w' => e = .returned (.bool true) ∧ Below w.heap.size w w' := by
  have T0 := Aside0.mk h0
  have T1 := Aside0.mk h1
  obtain ⟨A, ca, rfl, _, _⟩ := h0
  obtain ⟨B, cb, rfl, _, _⟩ := h1
  have e1 := rel_both a b
  have e2 := rel_less a b
  cases hp : relB 1 a b with
  | false =>
    rw [hp] at e1 e2
    exact both_no a b true true w A ca B cb T0 T1 (.mk hp) (.mk e1) (.mk e2)
  | true =>
    rw [hp] at e1 e2
    exact both_yes a b _ _ w A ca B cb T0 T1 (.mk hp) (.mk (e1.trans (by simp))) (.mk (e2.trans (by simp))) (.mk rfl) (.mk rfl)
end Go.Proofs.Ytamhdpllmhafhaa.X
