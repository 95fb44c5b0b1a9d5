/- The contracts of package below: what is asked of a ground, and of parts: way 2. -/
import Derived.Test.YtamhdpllmhafhaaHHolds
import Derived.Test.YtamhdpllmhafhaaHTake
import Derived.Test.YtamhdpllmhafhaaHGround
import Derived.RegionTactic
import Derived.ChangeAlike
import Derived.BigRegion
namespace Go.Proofs.Ytamhdpllmhafhaa.X
open Go.RowKit Go.Proofs.YtamhdpllmhafhaaW.PrintWords Go.Proofs.YtamhdpllmhafhaaW.PrintLast Go.Proofs.YtamhdpllmhafhaaW.PrintMore
set_option linter.unusedVariables false
set_option linter.unusedSimpArgs false

attribute [local go_sem] run_store_func eq76
set_option maxRecDepth 100000 in
set_option maxHeartbeats 3200000 in
theorem h2_fun_no (n : Nat) (k : Int) (x y x' y' : S26) (ad bd : Addr) (c d : Nat) (Bx By Bx' By' : Option Addr) (dx dy dx' dy' : Nat) (r2 : Bool) (w : World) (IH : Aside0 (H3 n)) (HM : Aside0 (mu x' x < n ∧ mu y y' < n)) (CP : Aside0 (checkI x' = 0)) (CQ : Aside0 (checkI x = 0)) (CY : Aside0 (checkI y = 0)) (CY' : Aside0 (checkI y' = 0))
    (TX : Aside0 (IsT w (.agg #[.int .i8 x.f0, .slice Bx x.f1.length dx]) x)) (TY : Aside0 (IsT w (.agg #[.int .i8 y.f0, .slice By y.f1.length dy]) y)) (TX' : Aside0 (IsT w (.agg #[.int .i8 x'.f0, .slice Bx' x'.f1.length dx']) x')) (TY' : Aside0 (IsT w (.agg #[.int .i8 y'.f0, .slice By' y'.f1.length dy']) y'))
    (EA : Aside0 (w.cell? ad = some (.int .i8 x.f0) ∧ w.cell? ⟨ad.block, ad.off + 1, none⟩ = some (.slice Bx x.f1.length dx) ∧ w.cell? ⟨ad.block, ad.off + 2, none⟩ = some (.int .i8 y.f0) ∧ w.cell? ⟨ad.block, ad.off + 2 + 1, none⟩ = some (.slice By y.f1.length dy))) (EB : Aside0 (w.cell? bd = some (.int .i8 x'.f0) ∧ w.cell? ⟨bd.block, bd.off + 1, none⟩ = some (.slice Bx' x'.f1.length dx') ∧ w.cell? ⟨bd.block, bd.off + 2, none⟩ = some (.int .i8 y'.f0) ∧ w.cell? ⟨bd.block, bd.off + 2 + 1, none⟩ = some (.slice By' y'.f1.length dy'))) (e0 : (k == 0) = false) (e3 : (k == 3) = true)
    (R1 : Aside0 (bel 1 x' x = false)) (R2 : Aside0 (bel 2 y y' = r2)) :
    Calls Try.prog 66 #[.agg #[.func (Fn.func 92) #[] #[], .bool true, .func (Fn.func 70) #[] #[]], .agg #[.int .i8 k, .slice (some ad) 2 c, .int .i8 k, .slice (some bd) 2 d]] w (BPost false w) := by
  go_enter Try.func66, Try.ntmps66
  go_wp2_with fail
  have hW := below3 w #[.func (Fn.func 92) #[] #[], .bool true, .func (Fn.func 70) #[] #[]] #[.int .i8 k, .slice (some ad) 2 c, .int .i8 k, .slice (some bd) 2 d] #[.int .i8 k, .int .i8 k] 65 78 76
  have k1 := blk_alloc (blk_alloc (heap_alloc_new w (.cells #[.func (Fn.func 92) #[] #[], .bool true, .func (Fn.func 70) #[] #[]] 65)) (.cells #[.int .i8 k, .slice (some ad) 2 c, .int .i8 k, .slice (some bd) 2 d] 78)) (.cells #[.int .i8 k, .int .i8 k] 76)
  have k2 := blk_alloc (new2 w (.cells #[.func (Fn.func 92) #[] #[], .bool true, .func (Fn.func 70) #[] #[]] 65) #[.int .i8 k, .slice (some ad) 2 c, .int .i8 k, .slice (some bd) 2 d] 78) (.cells #[.int .i8 k, .int .i8 k] 76)
  generalize ((w.alloc (.cells #[.func (Fn.func 92) #[] #[], .bool true, .func (Fn.func 70) #[] #[]] 65)).alloc (.cells #[.int .i8 k, .slice (some ad) 2 c, .int .i8 k, .slice (some bd) 2 d] 78)).alloc (.cells #[.int .i8 k, .int .i8 k] 76) = W at *
  replace TX := Aside0.mk (IsT.below TX.out hW)
  replace TY := Aside0.mk (IsT.below TY.out hW)
  replace TX' := Aside0.mk (IsT.below TX'.out hW)
  replace TY' := Aside0.mk (IsT.below TY'.out hW)
  have HB := Aside0.mk hW
  have ok : ∀ w' : World, Below W.heap.size W w' → (w'.cell? ⟨w.heap.size, 0, none⟩ = some (.func (Fn.func 92) #[] #[]) ∧ w'.cell? ⟨w.heap.size, 1, none⟩ = some (.bool true) ∧ w'.cell? ⟨w.heap.size, 2, none⟩ = some (.func (Fn.func 70) #[] #[]) ∧ w'.cell? ⟨w.heap.size + 1, 0, none⟩ = some (.int .i8 k) ∧ w'.cell? ⟨w.heap.size + 1, 1, none⟩ = some (.slice (some ad) 2 c) ∧ w'.cell? ⟨w.heap.size + 1, 2, none⟩ = some (.int .i8 k) ∧ w'.cell? ⟨w.heap.size + 1, 3, none⟩ = some (.slice (some bd) 2 d) ∧ (w'.cell? ad = some (.int .i8 x.f0) ∧ w'.cell? ⟨ad.block, ad.off + 1, none⟩ = some (.slice Bx x.f1.length dx) ∧ w'.cell? ⟨ad.block, ad.off + 2, none⟩ = some (.int .i8 y.f0) ∧ w'.cell? ⟨ad.block, ad.off + 2 + 1, none⟩ = some (.slice By y.f1.length dy)) ∧ (w'.cell? bd = some (.int .i8 x'.f0) ∧ w'.cell? ⟨bd.block, bd.off + 1, none⟩ = some (.slice Bx' x'.f1.length dx') ∧ w'.cell? ⟨bd.block, bd.off + 2, none⟩ = some (.int .i8 y'.f0) ∧ w'.cell? ⟨bd.block, bd.off + 2 + 1, none⟩ = some (.slice By' y'.f1.length dy'))) := fun w' h => ⟨pw_cell_below h ((blk_cell k1 0).trans rfl), pw_cell_below h ((blk_cell k1 1).trans rfl), pw_cell_below h ((blk_cell k1 2).trans rfl), pw_cell_below h ((blk_cell k2 0).trans rfl), pw_cell_below h ((blk_cell k2 1).trans rfl), pw_cell_below h ((blk_cell k2 2).trans rfl), pw_cell_below h ((blk_cell k2 3).trans rfl), four_of (four_of EA.out hW) h, four_of (four_of EB.out hW) h⟩
  have OK := Aside0.mk ok
  have HBW := Aside0.mk (Below.refl W.heap.size W)
  clear ok k1 k2 EA EB hW
  refine wp_region_held_drew (S := (fun w' => (w'.cell? ⟨w.heap.size, 0, none⟩ = some (.func (Fn.func 92) #[] #[]) ∧ w'.cell? ⟨w.heap.size, 1, none⟩ = some (.bool true) ∧ w'.cell? ⟨w.heap.size, 2, none⟩ = some (.func (Fn.func 70) #[] #[]) ∧ w'.cell? ⟨w.heap.size + 1, 0, none⟩ = some (.int .i8 k) ∧ w'.cell? ⟨w.heap.size + 1, 1, none⟩ = some (.slice (some ad) 2 c) ∧ w'.cell? ⟨w.heap.size + 1, 2, none⟩ = some (.int .i8 k) ∧ w'.cell? ⟨w.heap.size + 1, 3, none⟩ = some (.slice (some bd) 2 d) ∧ (w'.cell? ad = some (.int .i8 x.f0) ∧ w'.cell? ⟨ad.block, ad.off + 1, none⟩ = some (.slice Bx x.f1.length dx) ∧ w'.cell? ⟨ad.block, ad.off + 2, none⟩ = some (.int .i8 y.f0) ∧ w'.cell? ⟨ad.block, ad.off + 2 + 1, none⟩ = some (.slice By y.f1.length dy)) ∧ (w'.cell? bd = some (.int .i8 x'.f0) ∧ w'.cell? ⟨bd.block, bd.off + 1, none⟩ = some (.slice Bx' x'.f1.length dx') ∧ w'.cell? ⟨bd.block, bd.off + 2, none⟩ = some (.int .i8 y'.f0) ∧ w'.cell? ⟨bd.block, bd.off + 2 + 1, none⟩ = some (.slice By' y'.f1.length dy'))))) (by kernel_rfl) (OK.out _ HBW.out.drew) (fun hHeld => ?_)
  refine takeH (d := some 48) (v := ?_) 0 rfl rfl (by kernel_rfl) (by kernel_rfl) (by kernel_rfl) (fun _ _ _ h => h) (by rfl) ?_ hHeld ?_
  rotate_left
  · intro w hSw
    try dsimp only at hSw
    go_simp <;> with_reducible rfl
  try simp only [Act.put, List.setIfInBounds_toArray, List.set_cons_zero, List.set_cons_succ]
  refine takeH (d := some 49) (v := ?_) 1 rfl rfl (by kernel_rfl) (by kernel_rfl) (by kernel_rfl) (fun _ _ _ h => h) (by rfl) ?_ hHeld ?_
  rotate_left
  · intro w hSw
    try dsimp only at hSw
    go_simp <;> with_reducible rfl
  try simp only [Act.put, List.setIfInBounds_toArray, List.set_cons_zero, List.set_cons_succ]
  refine takeH (d := some 51) (v := ?_) 3 rfl rfl (by kernel_rfl) (by kernel_rfl) (by kernel_rfl) (fun _ _ _ h => h) (by rfl) ?_ hHeld ?_
  rotate_left
  · intro w hSw
    try dsimp only at hSw
    go_simp <;> with_reducible rfl
  try simp only [Act.put, List.setIfInBounds_toArray, List.set_cons_zero, List.set_cons_succ]
  refine takeH (d := some 52) (v := ?_) 4 rfl rfl (by kernel_rfl) (by kernel_rfl) (by kernel_rfl) (fun _ _ _ h => h) (by rfl) ?_ hHeld ?_
  rotate_left
  · intro w hSw
    try dsimp only at hSw
    go_simp <;> with_reducible rfl
  try simp only [Act.put, List.setIfInBounds_toArray, List.set_cons_zero, List.set_cons_succ]
  refine takeH (d := some 53) (v := ?_) 5 rfl rfl (by kernel_rfl) (by kernel_rfl) (by kernel_rfl) (fun _ _ _ h => h) (by rfl) ?_ hHeld ?_
  rotate_left
  · intro w hSw
    try dsimp only at hSw
    go_simp <;> with_reducible rfl
  try simp only [Act.put, List.setIfInBounds_toArray, List.set_cons_zero, List.set_cons_succ]
  refine takeH (d := some 54) (v := ?_) 6 rfl rfl (by kernel_rfl) (by kernel_rfl) (by kernel_rfl) (fun _ _ _ h => h) (by rfl) ?_ hHeld ?_
  rotate_left
  · intro w hSw
    try dsimp only at hSw
    go_simp <;> with_reducible rfl
  try simp only [Act.put, List.setIfInBounds_toArray, List.set_cons_zero, List.set_cons_succ]
  refine takeH (d := some 55) (v := ?_) 7 rfl rfl (by kernel_rfl) (by kernel_rfl) (by kernel_rfl) (fun _ _ _ h => h) (by rfl) ?_ hHeld ?_
  rotate_left
  · intro w hSw
    try dsimp only at hSw
    go_simp <;> with_reducible rfl
  try simp only [Act.put, List.setIfInBounds_toArray, List.set_cons_zero, List.set_cons_succ]
  refine takeH (d := some 56) (v := ?_) 8 rfl rfl (by kernel_rfl) (by kernel_rfl) (by kernel_rfl) (fun _ _ _ h => h) (by rfl) ?_ hHeld ?_
  rotate_left
  · intro w hSw
    try dsimp only at hSw
    go_simp <;> with_reducible rfl
  try simp only [Act.put, List.setIfInBounds_toArray, List.set_cons_zero, List.set_cons_succ]
  refine takeH (d := some 57) (v := ?_) 9 rfl rfl (by kernel_rfl) (by kernel_rfl) (by kernel_rfl) (fun _ _ _ h => h) (by rfl) ?_ hHeld ?_
  rotate_left
  · intro w hSw
    try dsimp only at hSw
    go_simp <;> with_reducible rfl
  try simp only [Act.put, List.setIfInBounds_toArray, List.set_cons_zero, List.set_cons_succ]
  refine takeH (d := some 58) (v := ?_) 10 rfl rfl (by kernel_rfl) (by kernel_rfl) (by kernel_rfl) (fun _ _ _ h => h) (by rfl) ?_ hHeld ?_
  rotate_left
  · intro w hSw
    try dsimp only at hSw
    go_simp <;> with_reducible rfl
  try simp only [Act.put, List.setIfInBounds_toArray, List.set_cons_zero, List.set_cons_succ]
  refine takeH (d := some 59) (v := ?_) 11 rfl rfl (by kernel_rfl) (by kernel_rfl) (by kernel_rfl) (fun _ _ _ h => h) (by rfl) ?_ hHeld ?_
  rotate_left
  · intro w hSw
    try dsimp only at hSw
    go_simp <;> with_reducible rfl
  try simp only [Act.put, List.setIfInBounds_toArray, List.set_cons_zero, List.set_cons_succ]
  refine takeH (d := some 60) (v := ?_) 12 rfl rfl (by kernel_rfl) (by kernel_rfl) (by kernel_rfl) (fun _ _ _ h => h) (by rfl) ?_ hHeld ?_
  rotate_left
  · intro w hSw
    try dsimp only at hSw
    go_simp <;> with_reducible rfl
  try simp only [Act.put, List.setIfInBounds_toArray, List.set_cons_zero, List.set_cons_succ]
  refine takeH (d := some 61) (v := ?_) 13 rfl rfl (by kernel_rfl) (by kernel_rfl) (by kernel_rfl) (fun _ _ _ h => h) (by rfl) ?_ hHeld ?_
  rotate_left
  · intro w hSw
    try dsimp only at hSw
    go_simp <;> with_reducible rfl
  try simp only [Act.put, List.setIfInBounds_toArray, List.set_cons_zero, List.set_cons_succ]
  refine wpAnyH_ready (rs := [2]) (by kernel_rfl) (by simp) ?_
  refine AllReadyH.cons rfl (fun K hK => ?_) AllReadyH.nil
  go_simp
  refine (pos_calls _).mono ?_
  rintro e w1 ⟨rfl, hB⟩
  have HB1 := Aside0.mk (below_then HBW.out.drew HBW.out.drew.size hB)
  clear hB
  refine hK.out _ _ (OK.out _ HB1.out) (fun hHeld => ?_)
  clear hK K
  try simp only [Act.put, List.setIfInBounds_toArray, List.set_cons_zero, List.set_cons_succ]
  refine wpAnyH_ready (rs := [14]) (by kernel_rfl) (by simp) ?_
  refine AllReadyH.cons rfl (fun K hK => ?_) AllReadyH.nil
  go_simp
  refine (IH.out x' _ _ x _ _ _ HM.out.1 CP.out CQ.out (TX'.out.below HB1.out) (TX.out.below HB1.out)).2.1.mono ?_
  rw [R1.out]
  rintro e w2 ⟨rfl, hB⟩
  have HB2 := Aside0.mk (below_then HB1.out HB1.out.size hB)
  clear hB
  refine hK.out _ _ (OK.out _ HB2.out) (fun hHeld => ?_)
  clear hK K
  try simp only [Act.put, List.setIfInBounds_toArray, List.set_cons_zero, List.set_cons_succ]
  refine takeH (d := some 63) (v := ?_) 15 rfl rfl (by kernel_rfl) (by kernel_rfl) (by kernel_rfl) (fun _ _ _ h => h) (by rfl) ?_ hHeld ?_
  rotate_left
  · intro w hSw
    try dsimp only at hSw
    go_simp <;> with_reducible rfl
  try simp only [Act.put, List.setIfInBounds_toArray, List.set_cons_zero, List.set_cons_succ]
  refine passH (d := some 64) 16 rfl rfl (by kernel_rfl) (by kernel_rfl) (by kernel_rfl) (fun _ _ _ h => h) (by rfl) hHeld ?_
  try simp only [Act.put, List.setIfInBounds_toArray, List.set_cons_zero, List.set_cons_succ]
  refine passH (d := some 65) 17 rfl rfl (by kernel_rfl) (by kernel_rfl) (by kernel_rfl) (fun _ _ _ h => h) (by rfl) hHeld ?_
  try simp only [Act.put, List.setIfInBounds_toArray, List.set_cons_zero, List.set_cons_succ]
  refine passH (d := some 66) 18 rfl rfl (by kernel_rfl) (by kernel_rfl) (by kernel_rfl) (fun _ _ _ h => h) (by rfl) hHeld ?_
  try simp only [Act.put, List.setIfInBounds_toArray, List.set_cons_zero, List.set_cons_succ]
  refine passH (d := some 67) 19 rfl rfl (by kernel_rfl) (by kernel_rfl) (by kernel_rfl) (fun _ _ _ h => h) (by rfl) hHeld ?_
  try simp only [Act.put, List.setIfInBounds_toArray, List.set_cons_zero, List.set_cons_succ]
  refine passH (d := some 68) 20 rfl rfl (by kernel_rfl) (by kernel_rfl) (by kernel_rfl) (fun _ _ _ h => h) (by rfl) hHeld ?_
  try simp only [Act.put, List.setIfInBounds_toArray, List.set_cons_zero, List.set_cons_succ]
  refine passH (d := some 69) 21 rfl rfl (by kernel_rfl) (by kernel_rfl) (by kernel_rfl) (fun _ _ _ h => h) (by rfl) hHeld ?_
  try simp only [Act.put, List.setIfInBounds_toArray, List.set_cons_zero, List.set_cons_succ]
  refine passH (d := some 70) 22 rfl rfl (by kernel_rfl) (by kernel_rfl) (by kernel_rfl) (fun _ _ _ h => h) (by rfl) hHeld ?_
  try simp only [Act.put, List.setIfInBounds_toArray, List.set_cons_zero, List.set_cons_succ]
  refine passH (d := some 71) 23 rfl rfl (by kernel_rfl) (by kernel_rfl) (by kernel_rfl) (fun _ _ _ h => h) (by rfl) hHeld ?_
  try simp only [Act.put, List.setIfInBounds_toArray, List.set_cons_zero, List.set_cons_succ]
  refine passH (d := some 72) 24 rfl rfl (by kernel_rfl) (by kernel_rfl) (by kernel_rfl) (fun _ _ _ h => h) (by rfl) hHeld ?_
  try simp only [Act.put, List.setIfInBounds_toArray, List.set_cons_zero, List.set_cons_succ]
  refine passH (d := some 73) 25 rfl rfl (by kernel_rfl) (by kernel_rfl) (by kernel_rfl) (fun _ _ _ h => h) (by rfl) hHeld ?_
  try simp only [Act.put, List.setIfInBounds_toArray, List.set_cons_zero, List.set_cons_succ]
  refine passH (d := some 74) 26 rfl rfl (by kernel_rfl) (by kernel_rfl) (by kernel_rfl) (fun _ _ _ h => h) (by rfl) hHeld ?_
  try simp only [Act.put, List.setIfInBounds_toArray, List.set_cons_zero, List.set_cons_succ]
  refine passH (d := some 75) 27 rfl rfl (by kernel_rfl) (by kernel_rfl) (by kernel_rfl) (fun _ _ _ h => h) (by rfl) hHeld ?_
  try simp only [Act.put, List.setIfInBounds_toArray, List.set_cons_zero, List.set_cons_succ]
  refine passH (d := some 76) 28 rfl rfl (by kernel_rfl) (by kernel_rfl) (by kernel_rfl) (fun _ _ _ h => h) (by rfl) hHeld ?_
  try simp only [Act.put, List.setIfInBounds_toArray, List.set_cons_zero, List.set_cons_succ]
  refine takeH (d := some 77) (v := ?_) 29 rfl rfl (by kernel_rfl) (by kernel_rfl) (by kernel_rfl) (fun _ _ _ h => h) (by rfl) ?_ hHeld ?_
  rotate_left
  · intro w hSw
    try dsimp only at hSw
    go_simp <;> with_reducible rfl
  try simp only [Act.put, List.setIfInBounds_toArray, List.set_cons_zero, List.set_cons_succ]
  refine takeH (d := some 4) (v := ?_) 30 rfl rfl (by kernel_rfl) (by kernel_rfl) (by kernel_rfl) (fun _ _ _ h => h) (by rfl) ?_ hHeld ?_
  rotate_left
  · intro w hSw
    try dsimp only at hSw
    go_simp <;> with_reducible rfl
  try simp only [Act.put, List.setIfInBounds_toArray, List.set_cons_zero, List.set_cons_succ]
  refine wpAnyH_done (by kernel_rfl) ?_ _
  go_wp2_with fail
  go_ret
  exact ⟨rfl, below_then HB.out HB.out.size HB2.out⟩
set_option maxRecDepth 100000 in
set_option maxHeartbeats 3200000 in
theorem h2_fun_yes (n : Nat) (k : Int) (x y x' y' : S26) (ad bd : Addr) (c d : Nat) (Bx By Bx' By' : Option Addr) (dx dy dx' dy' : Nat) (r2 : Bool) (w : World) (IH : Aside0 (H3 n)) (HM : Aside0 (mu x' x < n ∧ mu y y' < n)) (CP : Aside0 (checkI x' = 0)) (CQ : Aside0 (checkI x = 0)) (CY : Aside0 (checkI y = 0)) (CY' : Aside0 (checkI y' = 0))
    (TX : Aside0 (IsT w (.agg #[.int .i8 x.f0, .slice Bx x.f1.length dx]) x)) (TY : Aside0 (IsT w (.agg #[.int .i8 y.f0, .slice By y.f1.length dy]) y)) (TX' : Aside0 (IsT w (.agg #[.int .i8 x'.f0, .slice Bx' x'.f1.length dx']) x')) (TY' : Aside0 (IsT w (.agg #[.int .i8 y'.f0, .slice By' y'.f1.length dy']) y'))
    (EA : Aside0 (w.cell? ad = some (.int .i8 x.f0) ∧ w.cell? ⟨ad.block, ad.off + 1, none⟩ = some (.slice Bx x.f1.length dx) ∧ w.cell? ⟨ad.block, ad.off + 2, none⟩ = some (.int .i8 y.f0) ∧ w.cell? ⟨ad.block, ad.off + 2 + 1, none⟩ = some (.slice By y.f1.length dy))) (EB : Aside0 (w.cell? bd = some (.int .i8 x'.f0) ∧ w.cell? ⟨bd.block, bd.off + 1, none⟩ = some (.slice Bx' x'.f1.length dx') ∧ w.cell? ⟨bd.block, bd.off + 2, none⟩ = some (.int .i8 y'.f0) ∧ w.cell? ⟨bd.block, bd.off + 2 + 1, none⟩ = some (.slice By' y'.f1.length dy'))) (e0 : (k == 0) = false) (e3 : (k == 3) = true)
    (R1 : Aside0 (bel 1 x' x = true)) (R2 : Aside0 (bel 2 y y' = r2)) :
    Calls Try.prog 66 #[.agg #[.func (Fn.func 92) #[] #[], .bool true, .func (Fn.func 70) #[] #[]], .agg #[.int .i8 k, .slice (some ad) 2 c, .int .i8 k, .slice (some bd) 2 d]] w (BPost r2 w) := by
  go_enter Try.func66, Try.ntmps66
  go_wp2_with fail
  have hW := below3 w #[.func (Fn.func 92) #[] #[], .bool true, .func (Fn.func 70) #[] #[]] #[.int .i8 k, .slice (some ad) 2 c, .int .i8 k, .slice (some bd) 2 d] #[.int .i8 k, .int .i8 k] 65 78 76
  have k1 := blk_alloc (blk_alloc (heap_alloc_new w (.cells #[.func (Fn.func 92) #[] #[], .bool true, .func (Fn.func 70) #[] #[]] 65)) (.cells #[.int .i8 k, .slice (some ad) 2 c, .int .i8 k, .slice (some bd) 2 d] 78)) (.cells #[.int .i8 k, .int .i8 k] 76)
  have k2 := blk_alloc (new2 w (.cells #[.func (Fn.func 92) #[] #[], .bool true, .func (Fn.func 70) #[] #[]] 65) #[.int .i8 k, .slice (some ad) 2 c, .int .i8 k, .slice (some bd) 2 d] 78) (.cells #[.int .i8 k, .int .i8 k] 76)
  generalize ((w.alloc (.cells #[.func (Fn.func 92) #[] #[], .bool true, .func (Fn.func 70) #[] #[]] 65)).alloc (.cells #[.int .i8 k, .slice (some ad) 2 c, .int .i8 k, .slice (some bd) 2 d] 78)).alloc (.cells #[.int .i8 k, .int .i8 k] 76) = W at *
  replace TX := Aside0.mk (IsT.below TX.out hW)
  replace TY := Aside0.mk (IsT.below TY.out hW)
  replace TX' := Aside0.mk (IsT.below TX'.out hW)
  replace TY' := Aside0.mk (IsT.below TY'.out hW)
  have HB := Aside0.mk hW
  have ok : ∀ w' : World, Below W.heap.size W w' → (w'.cell? ⟨w.heap.size, 0, none⟩ = some (.func (Fn.func 92) #[] #[]) ∧ w'.cell? ⟨w.heap.size, 1, none⟩ = some (.bool true) ∧ w'.cell? ⟨w.heap.size, 2, none⟩ = some (.func (Fn.func 70) #[] #[]) ∧ w'.cell? ⟨w.heap.size + 1, 0, none⟩ = some (.int .i8 k) ∧ w'.cell? ⟨w.heap.size + 1, 1, none⟩ = some (.slice (some ad) 2 c) ∧ w'.cell? ⟨w.heap.size + 1, 2, none⟩ = some (.int .i8 k) ∧ w'.cell? ⟨w.heap.size + 1, 3, none⟩ = some (.slice (some bd) 2 d) ∧ (w'.cell? ad = some (.int .i8 x.f0) ∧ w'.cell? ⟨ad.block, ad.off + 1, none⟩ = some (.slice Bx x.f1.length dx) ∧ w'.cell? ⟨ad.block, ad.off + 2, none⟩ = some (.int .i8 y.f0) ∧ w'.cell? ⟨ad.block, ad.off + 2 + 1, none⟩ = some (.slice By y.f1.length dy)) ∧ (w'.cell? bd = some (.int .i8 x'.f0) ∧ w'.cell? ⟨bd.block, bd.off + 1, none⟩ = some (.slice Bx' x'.f1.length dx') ∧ w'.cell? ⟨bd.block, bd.off + 2, none⟩ = some (.int .i8 y'.f0) ∧ w'.cell? ⟨bd.block, bd.off + 2 + 1, none⟩ = some (.slice By' y'.f1.length dy'))) := fun w' h => ⟨pw_cell_below h ((blk_cell k1 0).trans rfl), pw_cell_below h ((blk_cell k1 1).trans rfl), pw_cell_below h ((blk_cell k1 2).trans rfl), pw_cell_below h ((blk_cell k2 0).trans rfl), pw_cell_below h ((blk_cell k2 1).trans rfl), pw_cell_below h ((blk_cell k2 2).trans rfl), pw_cell_below h ((blk_cell k2 3).trans rfl), four_of (four_of EA.out hW) h, four_of (four_of EB.out hW) h⟩
  have OK := Aside0.mk ok
  have HBW := Aside0.mk (Below.refl W.heap.size W)
  clear ok k1 k2 EA EB hW
  refine wp_region_held_drew (S := (fun w' => (w'.cell? ⟨w.heap.size, 0, none⟩ = some (.func (Fn.func 92) #[] #[]) ∧ w'.cell? ⟨w.heap.size, 1, none⟩ = some (.bool true) ∧ w'.cell? ⟨w.heap.size, 2, none⟩ = some (.func (Fn.func 70) #[] #[]) ∧ w'.cell? ⟨w.heap.size + 1, 0, none⟩ = some (.int .i8 k) ∧ w'.cell? ⟨w.heap.size + 1, 1, none⟩ = some (.slice (some ad) 2 c) ∧ w'.cell? ⟨w.heap.size + 1, 2, none⟩ = some (.int .i8 k) ∧ w'.cell? ⟨w.heap.size + 1, 3, none⟩ = some (.slice (some bd) 2 d) ∧ (w'.cell? ad = some (.int .i8 x.f0) ∧ w'.cell? ⟨ad.block, ad.off + 1, none⟩ = some (.slice Bx x.f1.length dx) ∧ w'.cell? ⟨ad.block, ad.off + 2, none⟩ = some (.int .i8 y.f0) ∧ w'.cell? ⟨ad.block, ad.off + 2 + 1, none⟩ = some (.slice By y.f1.length dy)) ∧ (w'.cell? bd = some (.int .i8 x'.f0) ∧ w'.cell? ⟨bd.block, bd.off + 1, none⟩ = some (.slice Bx' x'.f1.length dx') ∧ w'.cell? ⟨bd.block, bd.off + 2, none⟩ = some (.int .i8 y'.f0) ∧ w'.cell? ⟨bd.block, bd.off + 2 + 1, none⟩ = some (.slice By' y'.f1.length dy'))))) (by kernel_rfl) (OK.out _ HBW.out.drew) (fun hHeld => ?_)
  refine takeH (d := some 48) (v := ?_) 0 rfl rfl (by kernel_rfl) (by kernel_rfl) (by kernel_rfl) (fun _ _ _ h => h) (by rfl) ?_ hHeld ?_
  rotate_left
  · intro w hSw
    try dsimp only at hSw
    go_simp <;> with_reducible rfl
  try simp only [Act.put, List.setIfInBounds_toArray, List.set_cons_zero, List.set_cons_succ]
  refine takeH (d := some 49) (v := ?_) 1 rfl rfl (by kernel_rfl) (by kernel_rfl) (by kernel_rfl) (fun _ _ _ h => h) (by rfl) ?_ hHeld ?_
  rotate_left
  · intro w hSw
    try dsimp only at hSw
    go_simp <;> with_reducible rfl
  try simp only [Act.put, List.setIfInBounds_toArray, List.set_cons_zero, List.set_cons_succ]
  refine takeH (d := some 51) (v := ?_) 3 rfl rfl (by kernel_rfl) (by kernel_rfl) (by kernel_rfl) (fun _ _ _ h => h) (by rfl) ?_ hHeld ?_
  rotate_left
  · intro w hSw
    try dsimp only at hSw
    go_simp <;> with_reducible rfl
  try simp only [Act.put, List.setIfInBounds_toArray, List.set_cons_zero, List.set_cons_succ]
  refine takeH (d := some 52) (v := ?_) 4 rfl rfl (by kernel_rfl) (by kernel_rfl) (by kernel_rfl) (fun _ _ _ h => h) (by rfl) ?_ hHeld ?_
  rotate_left
  · intro w hSw
    try dsimp only at hSw
    go_simp <;> with_reducible rfl
  try simp only [Act.put, List.setIfInBounds_toArray, List.set_cons_zero, List.set_cons_succ]
  refine takeH (d := some 53) (v := ?_) 5 rfl rfl (by kernel_rfl) (by kernel_rfl) (by kernel_rfl) (fun _ _ _ h => h) (by rfl) ?_ hHeld ?_
  rotate_left
  · intro w hSw
    try dsimp only at hSw
    go_simp <;> with_reducible rfl
  try simp only [Act.put, List.setIfInBounds_toArray, List.set_cons_zero, List.set_cons_succ]
  refine takeH (d := some 54) (v := ?_) 6 rfl rfl (by kernel_rfl) (by kernel_rfl) (by kernel_rfl) (fun _ _ _ h => h) (by rfl) ?_ hHeld ?_
  rotate_left
  · intro w hSw
    try dsimp only at hSw
    go_simp <;> with_reducible rfl
  try simp only [Act.put, List.setIfInBounds_toArray, List.set_cons_zero, List.set_cons_succ]
  refine takeH (d := some 55) (v := ?_) 7 rfl rfl (by kernel_rfl) (by kernel_rfl) (by kernel_rfl) (fun _ _ _ h => h) (by rfl) ?_ hHeld ?_
  rotate_left
  · intro w hSw
    try dsimp only at hSw
    go_simp <;> with_reducible rfl
  try simp only [Act.put, List.setIfInBounds_toArray, List.set_cons_zero, List.set_cons_succ]
  refine takeH (d := some 56) (v := ?_) 8 rfl rfl (by kernel_rfl) (by kernel_rfl) (by kernel_rfl) (fun _ _ _ h => h) (by rfl) ?_ hHeld ?_
  rotate_left
  · intro w hSw
    try dsimp only at hSw
    go_simp <;> with_reducible rfl
  try simp only [Act.put, List.setIfInBounds_toArray, List.set_cons_zero, List.set_cons_succ]
  refine takeH (d := some 57) (v := ?_) 9 rfl rfl (by kernel_rfl) (by kernel_rfl) (by kernel_rfl) (fun _ _ _ h => h) (by rfl) ?_ hHeld ?_
  rotate_left
  · intro w hSw
    try dsimp only at hSw
    go_simp <;> with_reducible rfl
  try simp only [Act.put, List.setIfInBounds_toArray, List.set_cons_zero, List.set_cons_succ]
  refine takeH (d := some 58) (v := ?_) 10 rfl rfl (by kernel_rfl) (by kernel_rfl) (by kernel_rfl) (fun _ _ _ h => h) (by rfl) ?_ hHeld ?_
  rotate_left
  · intro w hSw
    try dsimp only at hSw
    go_simp <;> with_reducible rfl
  try simp only [Act.put, List.setIfInBounds_toArray, List.set_cons_zero, List.set_cons_succ]
  refine takeH (d := some 59) (v := ?_) 11 rfl rfl (by kernel_rfl) (by kernel_rfl) (by kernel_rfl) (fun _ _ _ h => h) (by rfl) ?_ hHeld ?_
  rotate_left
  · intro w hSw
    try dsimp only at hSw
    go_simp <;> with_reducible rfl
  try simp only [Act.put, List.setIfInBounds_toArray, List.set_cons_zero, List.set_cons_succ]
  refine takeH (d := some 60) (v := ?_) 12 rfl rfl (by kernel_rfl) (by kernel_rfl) (by kernel_rfl) (fun _ _ _ h => h) (by rfl) ?_ hHeld ?_
  rotate_left
  · intro w hSw
    try dsimp only at hSw
    go_simp <;> with_reducible rfl
  try simp only [Act.put, List.setIfInBounds_toArray, List.set_cons_zero, List.set_cons_succ]
  refine takeH (d := some 61) (v := ?_) 13 rfl rfl (by kernel_rfl) (by kernel_rfl) (by kernel_rfl) (fun _ _ _ h => h) (by rfl) ?_ hHeld ?_
  rotate_left
  · intro w hSw
    try dsimp only at hSw
    go_simp <;> with_reducible rfl
  try simp only [Act.put, List.setIfInBounds_toArray, List.set_cons_zero, List.set_cons_succ]
  refine wpAnyH_ready (rs := [2]) (by kernel_rfl) (by simp) ?_
  refine AllReadyH.cons rfl (fun K hK => ?_) AllReadyH.nil
  go_simp
  refine (pos_calls _).mono ?_
  rintro e w1 ⟨rfl, hB⟩
  have HB1 := Aside0.mk (below_then HBW.out.drew HBW.out.drew.size hB)
  clear hB
  refine hK.out _ _ (OK.out _ HB1.out) (fun hHeld => ?_)
  clear hK K
  try simp only [Act.put, List.setIfInBounds_toArray, List.set_cons_zero, List.set_cons_succ]
  refine wpAnyH_ready (rs := [14]) (by kernel_rfl) (by simp) ?_
  refine AllReadyH.cons rfl (fun K hK => ?_) AllReadyH.nil
  go_simp
  refine (IH.out x' _ _ x _ _ _ HM.out.1 CP.out CQ.out (TX'.out.below HB1.out) (TX.out.below HB1.out)).2.1.mono ?_
  rw [R1.out]
  rintro e w2 ⟨rfl, hB⟩
  have HB2 := Aside0.mk (below_then HB1.out HB1.out.size hB)
  clear hB
  refine hK.out _ _ (OK.out _ HB2.out) (fun hHeld => ?_)
  clear hK K
  try simp only [Act.put, List.setIfInBounds_toArray, List.set_cons_zero, List.set_cons_succ]
  refine takeH (d := some 63) (v := ?_) 15 rfl rfl (by kernel_rfl) (by kernel_rfl) (by kernel_rfl) (fun _ _ _ h => h) (by rfl) ?_ hHeld ?_
  rotate_left
  · intro w hSw
    try dsimp only at hSw
    go_simp <;> with_reducible rfl
  try simp only [Act.put, List.setIfInBounds_toArray, List.set_cons_zero, List.set_cons_succ]
  refine takeH (d := some 64) (v := ?_) 16 rfl rfl (by kernel_rfl) (by kernel_rfl) (by kernel_rfl) (fun _ _ _ h => h) (by rfl) ?_ hHeld ?_
  rotate_left
  · intro w hSw
    try dsimp only at hSw
    go_simp <;> with_reducible rfl
  try simp only [Act.put, List.setIfInBounds_toArray, List.set_cons_zero, List.set_cons_succ]
  refine takeH (d := some 65) (v := ?_) 17 rfl rfl (by kernel_rfl) (by kernel_rfl) (by kernel_rfl) (fun _ _ _ h => h) (by rfl) ?_ hHeld ?_
  rotate_left
  · intro w hSw
    try dsimp only at hSw
    go_simp <;> with_reducible rfl
  try simp only [Act.put, List.setIfInBounds_toArray, List.set_cons_zero, List.set_cons_succ]
  refine takeH (d := some 66) (v := ?_) 18 rfl rfl (by kernel_rfl) (by kernel_rfl) (by kernel_rfl) (fun _ _ _ h => h) (by rfl) ?_ hHeld ?_
  rotate_left
  · intro w hSw
    try dsimp only at hSw
    go_simp <;> with_reducible rfl
  try simp only [Act.put, List.setIfInBounds_toArray, List.set_cons_zero, List.set_cons_succ]
  refine takeH (d := some 67) (v := ?_) 19 rfl rfl (by kernel_rfl) (by kernel_rfl) (by kernel_rfl) (fun _ _ _ h => h) (by rfl) ?_ hHeld ?_
  rotate_left
  · intro w hSw
    try dsimp only at hSw
    go_simp <;> with_reducible rfl
  try simp only [Act.put, List.setIfInBounds_toArray, List.set_cons_zero, List.set_cons_succ]
  refine takeH (d := some 68) (v := ?_) 20 rfl rfl (by kernel_rfl) (by kernel_rfl) (by kernel_rfl) (fun _ _ _ h => h) (by rfl) ?_ hHeld ?_
  rotate_left
  · intro w hSw
    try dsimp only at hSw
    go_simp <;> with_reducible rfl
  try simp only [Act.put, List.setIfInBounds_toArray, List.set_cons_zero, List.set_cons_succ]
  refine takeH (d := some 69) (v := ?_) 21 rfl rfl (by kernel_rfl) (by kernel_rfl) (by kernel_rfl) (fun _ _ _ h => h) (by rfl) ?_ hHeld ?_
  rotate_left
  · intro w hSw
    try dsimp only at hSw
    go_simp <;> with_reducible rfl
  try simp only [Act.put, List.setIfInBounds_toArray, List.set_cons_zero, List.set_cons_succ]
  refine takeH (d := some 70) (v := ?_) 22 rfl rfl (by kernel_rfl) (by kernel_rfl) (by kernel_rfl) (fun _ _ _ h => h) (by rfl) ?_ hHeld ?_
  rotate_left
  · intro w hSw
    try dsimp only at hSw
    go_simp <;> with_reducible rfl
  try simp only [Act.put, List.setIfInBounds_toArray, List.set_cons_zero, List.set_cons_succ]
  refine takeH (d := some 71) (v := ?_) 23 rfl rfl (by kernel_rfl) (by kernel_rfl) (by kernel_rfl) (fun _ _ _ h => h) (by rfl) ?_ hHeld ?_
  rotate_left
  · intro w hSw
    try dsimp only at hSw
    go_simp <;> with_reducible rfl
  try simp only [Act.put, List.setIfInBounds_toArray, List.set_cons_zero, List.set_cons_succ]
  refine takeH (d := some 72) (v := ?_) 24 rfl rfl (by kernel_rfl) (by kernel_rfl) (by kernel_rfl) (fun _ _ _ h => h) (by rfl) ?_ hHeld ?_
  rotate_left
  · intro w hSw
    try dsimp only at hSw
    go_simp <;> with_reducible rfl
  try simp only [Act.put, List.setIfInBounds_toArray, List.set_cons_zero, List.set_cons_succ]
  refine takeH (d := some 73) (v := ?_) 25 rfl rfl (by kernel_rfl) (by kernel_rfl) (by kernel_rfl) (fun _ _ _ h => h) (by rfl) ?_ hHeld ?_
  rotate_left
  · intro w hSw
    try dsimp only at hSw
    go_simp <;> with_reducible rfl
  try simp only [Act.put, List.setIfInBounds_toArray, List.set_cons_zero, List.set_cons_succ]
  refine takeH (d := some 74) (v := ?_) 26 rfl rfl (by kernel_rfl) (by kernel_rfl) (by kernel_rfl) (fun _ _ _ h => h) (by rfl) ?_ hHeld ?_
  rotate_left
  · intro w hSw
    try dsimp only at hSw
    go_simp <;> with_reducible rfl
  try simp only [Act.put, List.setIfInBounds_toArray, List.set_cons_zero, List.set_cons_succ]
  refine takeH (d := some 75) (v := ?_) 27 rfl rfl (by kernel_rfl) (by kernel_rfl) (by kernel_rfl) (fun _ _ _ h => h) (by rfl) ?_ hHeld ?_
  rotate_left
  · intro w hSw
    try dsimp only at hSw
    go_simp <;> with_reducible rfl
  try simp only [Act.put, List.setIfInBounds_toArray, List.set_cons_zero, List.set_cons_succ]
  refine wpAnyH_ready (rs := [28]) (by kernel_rfl) (by simp) ?_
  refine AllReadyH.cons rfl (fun K hK => ?_) AllReadyH.nil
  go_simp
  refine (IH.out y _ _ y' _ _ _ HM.out.2 CY.out CY'.out (TY.out.below HB2.out) (TY'.out.below HB2.out)).2.2.mono ?_
  rw [R2.out]
  rintro e w3 ⟨rfl, hB⟩
  have HB3 := Aside0.mk (below_then HB2.out HB2.out.size hB)
  clear hB
  refine hK.out _ _ (OK.out _ HB3.out) (fun hHeld => ?_)
  clear hK K
  try simp only [Act.put, List.setIfInBounds_toArray, List.set_cons_zero, List.set_cons_succ]
  refine takeH (d := some 77) (v := ?_) 29 rfl rfl (by kernel_rfl) (by kernel_rfl) (by kernel_rfl) (fun _ _ _ h => h) (by rfl) ?_ hHeld ?_
  rotate_left
  · intro w hSw
    try dsimp only at hSw
    go_simp <;> with_reducible rfl
  try simp only [Act.put, List.setIfInBounds_toArray, List.set_cons_zero, List.set_cons_succ]
  refine takeH (d := some 4) (v := ?_) 30 rfl rfl (by kernel_rfl) (by kernel_rfl) (by kernel_rfl) (fun _ _ _ h => h) (by rfl) ?_ hHeld ?_
  rotate_left
  · intro w hSw
    try dsimp only at hSw
    go_simp <;> with_reducible rfl
  try simp only [Act.put, List.setIfInBounds_toArray, List.set_cons_zero, List.set_cons_succ]
  refine wpAnyH_done (by kernel_rfl) ?_ _
  go_wp2_with fail
  go_ret
  exact ⟨rfl, below_then HB.out HB.out.size HB3.out⟩
set_option maxRecDepth 100000 in
set_option maxHeartbeats 3200000 in
theorem h2_two_no (n : Nat) (k : Int) (x y x' y' : S26) (ad bd : Addr) (c d : Nat) (Bx By Bx' By' : Option Addr) (dx dy dx' dy' : Nat) (r2 : Bool) (w : World) (IH : Aside0 (H3 n)) (HM : Aside0 (mu x x' < n ∧ mu y y' < n)) (CP : Aside0 (checkI x = 0)) (CQ : Aside0 (checkI x' = 0)) (CY : Aside0 (checkI y = 0)) (CY' : Aside0 (checkI y' = 0))
    (TX : Aside0 (IsT w (.agg #[.int .i8 x.f0, .slice Bx x.f1.length dx]) x)) (TY : Aside0 (IsT w (.agg #[.int .i8 y.f0, .slice By y.f1.length dy]) y)) (TX' : Aside0 (IsT w (.agg #[.int .i8 x'.f0, .slice Bx' x'.f1.length dx']) x')) (TY' : Aside0 (IsT w (.agg #[.int .i8 y'.f0, .slice By' y'.f1.length dy']) y'))
    (EA : Aside0 (w.cell? ad = some (.int .i8 x.f0) ∧ w.cell? ⟨ad.block, ad.off + 1, none⟩ = some (.slice Bx x.f1.length dx) ∧ w.cell? ⟨ad.block, ad.off + 2, none⟩ = some (.int .i8 y.f0) ∧ w.cell? ⟨ad.block, ad.off + 2 + 1, none⟩ = some (.slice By y.f1.length dy))) (EB : Aside0 (w.cell? bd = some (.int .i8 x'.f0) ∧ w.cell? ⟨bd.block, bd.off + 1, none⟩ = some (.slice Bx' x'.f1.length dx') ∧ w.cell? ⟨bd.block, bd.off + 2, none⟩ = some (.int .i8 y'.f0) ∧ w.cell? ⟨bd.block, bd.off + 2 + 1, none⟩ = some (.slice By' y'.f1.length dy'))) (e0 : (k == 0) = false) (e3 : (k == 3) = false)
    (R1 : Aside0 (bel 2 x x' = false)) (R2 : Aside0 (bel 2 y y' = r2)) :
    Calls Try.prog 66 #[.agg #[.func (Fn.func 92) #[] #[], .bool true, .func (Fn.func 70) #[] #[]], .agg #[.int .i8 k, .slice (some ad) 2 c, .int .i8 k, .slice (some bd) 2 d]] w (BPost false w) := by
  go_enter Try.func66, Try.ntmps66
  go_wp2_with fail
  have hW := below3 w #[.func (Fn.func 92) #[] #[], .bool true, .func (Fn.func 70) #[] #[]] #[.int .i8 k, .slice (some ad) 2 c, .int .i8 k, .slice (some bd) 2 d] #[.int .i8 k, .int .i8 k] 65 78 76
  have k1 := blk_alloc (blk_alloc (heap_alloc_new w (.cells #[.func (Fn.func 92) #[] #[], .bool true, .func (Fn.func 70) #[] #[]] 65)) (.cells #[.int .i8 k, .slice (some ad) 2 c, .int .i8 k, .slice (some bd) 2 d] 78)) (.cells #[.int .i8 k, .int .i8 k] 76)
  have k2 := blk_alloc (new2 w (.cells #[.func (Fn.func 92) #[] #[], .bool true, .func (Fn.func 70) #[] #[]] 65) #[.int .i8 k, .slice (some ad) 2 c, .int .i8 k, .slice (some bd) 2 d] 78) (.cells #[.int .i8 k, .int .i8 k] 76)
  generalize ((w.alloc (.cells #[.func (Fn.func 92) #[] #[], .bool true, .func (Fn.func 70) #[] #[]] 65)).alloc (.cells #[.int .i8 k, .slice (some ad) 2 c, .int .i8 k, .slice (some bd) 2 d] 78)).alloc (.cells #[.int .i8 k, .int .i8 k] 76) = W at *
  replace TX := Aside0.mk (IsT.below TX.out hW)
  replace TY := Aside0.mk (IsT.below TY.out hW)
  replace TX' := Aside0.mk (IsT.below TX'.out hW)
  replace TY' := Aside0.mk (IsT.below TY'.out hW)
  have HB := Aside0.mk hW
  have ok : ∀ w' : World, Below W.heap.size W w' → (w'.cell? ⟨w.heap.size, 0, none⟩ = some (.func (Fn.func 92) #[] #[]) ∧ w'.cell? ⟨w.heap.size, 1, none⟩ = some (.bool true) ∧ w'.cell? ⟨w.heap.size, 2, none⟩ = some (.func (Fn.func 70) #[] #[]) ∧ w'.cell? ⟨w.heap.size + 1, 0, none⟩ = some (.int .i8 k) ∧ w'.cell? ⟨w.heap.size + 1, 1, none⟩ = some (.slice (some ad) 2 c) ∧ w'.cell? ⟨w.heap.size + 1, 2, none⟩ = some (.int .i8 k) ∧ w'.cell? ⟨w.heap.size + 1, 3, none⟩ = some (.slice (some bd) 2 d) ∧ (w'.cell? ad = some (.int .i8 x.f0) ∧ w'.cell? ⟨ad.block, ad.off + 1, none⟩ = some (.slice Bx x.f1.length dx) ∧ w'.cell? ⟨ad.block, ad.off + 2, none⟩ = some (.int .i8 y.f0) ∧ w'.cell? ⟨ad.block, ad.off + 2 + 1, none⟩ = some (.slice By y.f1.length dy)) ∧ (w'.cell? bd = some (.int .i8 x'.f0) ∧ w'.cell? ⟨bd.block, bd.off + 1, none⟩ = some (.slice Bx' x'.f1.length dx') ∧ w'.cell? ⟨bd.block, bd.off + 2, none⟩ = some (.int .i8 y'.f0) ∧ w'.cell? ⟨bd.block, bd.off + 2 + 1, none⟩ = some (.slice By' y'.f1.length dy'))) := fun w' h => ⟨pw_cell_below h ((blk_cell k1 0).trans rfl), pw_cell_below h ((blk_cell k1 1).trans rfl), pw_cell_below h ((blk_cell k1 2).trans rfl), pw_cell_below h ((blk_cell k2 0).trans rfl), pw_cell_below h ((blk_cell k2 1).trans rfl), pw_cell_below h ((blk_cell k2 2).trans rfl), pw_cell_below h ((blk_cell k2 3).trans rfl), four_of (four_of EA.out hW) h, four_of (four_of EB.out hW) h⟩
  have OK := Aside0.mk ok
  have HBW := Aside0.mk (Below.refl W.heap.size W)
  clear ok k1 k2 EA EB hW
  refine wp_region_held_drew (S := (fun w' => (w'.cell? ⟨w.heap.size, 0, none⟩ = some (.func (Fn.func 92) #[] #[]) ∧ w'.cell? ⟨w.heap.size, 1, none⟩ = some (.bool true) ∧ w'.cell? ⟨w.heap.size, 2, none⟩ = some (.func (Fn.func 70) #[] #[]) ∧ w'.cell? ⟨w.heap.size + 1, 0, none⟩ = some (.int .i8 k) ∧ w'.cell? ⟨w.heap.size + 1, 1, none⟩ = some (.slice (some ad) 2 c) ∧ w'.cell? ⟨w.heap.size + 1, 2, none⟩ = some (.int .i8 k) ∧ w'.cell? ⟨w.heap.size + 1, 3, none⟩ = some (.slice (some bd) 2 d) ∧ (w'.cell? ad = some (.int .i8 x.f0) ∧ w'.cell? ⟨ad.block, ad.off + 1, none⟩ = some (.slice Bx x.f1.length dx) ∧ w'.cell? ⟨ad.block, ad.off + 2, none⟩ = some (.int .i8 y.f0) ∧ w'.cell? ⟨ad.block, ad.off + 2 + 1, none⟩ = some (.slice By y.f1.length dy)) ∧ (w'.cell? bd = some (.int .i8 x'.f0) ∧ w'.cell? ⟨bd.block, bd.off + 1, none⟩ = some (.slice Bx' x'.f1.length dx') ∧ w'.cell? ⟨bd.block, bd.off + 2, none⟩ = some (.int .i8 y'.f0) ∧ w'.cell? ⟨bd.block, bd.off + 2 + 1, none⟩ = some (.slice By' y'.f1.length dy'))))) (by kernel_rfl) (OK.out _ HBW.out.drew) (fun hHeld => ?_)
  have HB1 := Aside0.mk HBW.out.drew
  refine takeH (d := some 78) (v := ?_) 0 rfl rfl (by kernel_rfl) (by kernel_rfl) (by kernel_rfl) (fun _ _ _ h => h) (by rfl) ?_ hHeld ?_
  rotate_left
  · intro w hSw
    try dsimp only at hSw
    go_simp <;> with_reducible rfl
  try simp only [Act.put, List.setIfInBounds_toArray, List.set_cons_zero, List.set_cons_succ]
  refine takeH (d := some 79) (v := ?_) 1 rfl rfl (by kernel_rfl) (by kernel_rfl) (by kernel_rfl) (fun _ _ _ h => h) (by rfl) ?_ hHeld ?_
  rotate_left
  · intro w hSw
    try dsimp only at hSw
    go_simp <;> with_reducible rfl
  try simp only [Act.put, List.setIfInBounds_toArray, List.set_cons_zero, List.set_cons_succ]
  refine takeH (d := some 80) (v := ?_) 2 rfl rfl (by kernel_rfl) (by kernel_rfl) (by kernel_rfl) (fun _ _ _ h => h) (by rfl) ?_ hHeld ?_
  rotate_left
  · intro w hSw
    try dsimp only at hSw
    go_simp <;> with_reducible rfl
  try simp only [Act.put, List.setIfInBounds_toArray, List.set_cons_zero, List.set_cons_succ]
  refine takeH (d := some 81) (v := ?_) 3 rfl rfl (by kernel_rfl) (by kernel_rfl) (by kernel_rfl) (fun _ _ _ h => h) (by rfl) ?_ hHeld ?_
  rotate_left
  · intro w hSw
    try dsimp only at hSw
    go_simp <;> with_reducible rfl
  try simp only [Act.put, List.setIfInBounds_toArray, List.set_cons_zero, List.set_cons_succ]
  refine takeH (d := some 82) (v := ?_) 4 rfl rfl (by kernel_rfl) (by kernel_rfl) (by kernel_rfl) (fun _ _ _ h => h) (by rfl) ?_ hHeld ?_
  rotate_left
  · intro w hSw
    try dsimp only at hSw
    go_simp <;> with_reducible rfl
  try simp only [Act.put, List.setIfInBounds_toArray, List.set_cons_zero, List.set_cons_succ]
  refine takeH (d := some 83) (v := ?_) 5 rfl rfl (by kernel_rfl) (by kernel_rfl) (by kernel_rfl) (fun _ _ _ h => h) (by rfl) ?_ hHeld ?_
  rotate_left
  · intro w hSw
    try dsimp only at hSw
    go_simp <;> with_reducible rfl
  try simp only [Act.put, List.setIfInBounds_toArray, List.set_cons_zero, List.set_cons_succ]
  refine takeH (d := some 84) (v := ?_) 6 rfl rfl (by kernel_rfl) (by kernel_rfl) (by kernel_rfl) (fun _ _ _ h => h) (by rfl) ?_ hHeld ?_
  rotate_left
  · intro w hSw
    try dsimp only at hSw
    go_simp <;> with_reducible rfl
  try simp only [Act.put, List.setIfInBounds_toArray, List.set_cons_zero, List.set_cons_succ]
  refine takeH (d := some 85) (v := ?_) 7 rfl rfl (by kernel_rfl) (by kernel_rfl) (by kernel_rfl) (fun _ _ _ h => h) (by rfl) ?_ hHeld ?_
  rotate_left
  · intro w hSw
    try dsimp only at hSw
    go_simp <;> with_reducible rfl
  try simp only [Act.put, List.setIfInBounds_toArray, List.set_cons_zero, List.set_cons_succ]
  refine takeH (d := some 86) (v := ?_) 8 rfl rfl (by kernel_rfl) (by kernel_rfl) (by kernel_rfl) (fun _ _ _ h => h) (by rfl) ?_ hHeld ?_
  rotate_left
  · intro w hSw
    try dsimp only at hSw
    go_simp <;> with_reducible rfl
  try simp only [Act.put, List.setIfInBounds_toArray, List.set_cons_zero, List.set_cons_succ]
  refine takeH (d := some 87) (v := ?_) 9 rfl rfl (by kernel_rfl) (by kernel_rfl) (by kernel_rfl) (fun _ _ _ h => h) (by rfl) ?_ hHeld ?_
  rotate_left
  · intro w hSw
    try dsimp only at hSw
    go_simp <;> with_reducible rfl
  try simp only [Act.put, List.setIfInBounds_toArray, List.set_cons_zero, List.set_cons_succ]
  refine takeH (d := some 88) (v := ?_) 10 rfl rfl (by kernel_rfl) (by kernel_rfl) (by kernel_rfl) (fun _ _ _ h => h) (by rfl) ?_ hHeld ?_
  rotate_left
  · intro w hSw
    try dsimp only at hSw
    go_simp <;> with_reducible rfl
  try simp only [Act.put, List.setIfInBounds_toArray, List.set_cons_zero, List.set_cons_succ]
  refine takeH (d := some 89) (v := ?_) 11 rfl rfl (by kernel_rfl) (by kernel_rfl) (by kernel_rfl) (fun _ _ _ h => h) (by rfl) ?_ hHeld ?_
  rotate_left
  · intro w hSw
    try dsimp only at hSw
    go_simp <;> with_reducible rfl
  try simp only [Act.put, List.setIfInBounds_toArray, List.set_cons_zero, List.set_cons_succ]
  refine wpAnyH_ready (rs := [12]) (by kernel_rfl) (by simp) ?_
  refine AllReadyH.cons rfl (fun K hK => ?_) AllReadyH.nil
  go_simp
  refine (IH.out x _ _ x' _ _ _ HM.out.1 CP.out CQ.out (TX.out.below HB1.out) (TX'.out.below HB1.out)).2.2.mono ?_
  rw [R1.out]
  rintro e w2 ⟨rfl, hB⟩
  have HB2 := Aside0.mk (below_then HB1.out HB1.out.size hB)
  clear hB
  refine hK.out _ _ (OK.out _ HB2.out) (fun hHeld => ?_)
  clear hK K
  try simp only [Act.put, List.setIfInBounds_toArray, List.set_cons_zero, List.set_cons_succ]
  refine takeH (d := some 91) (v := ?_) 13 rfl rfl (by kernel_rfl) (by kernel_rfl) (by kernel_rfl) (fun _ _ _ h => h) (by rfl) ?_ hHeld ?_
  rotate_left
  · intro w hSw
    try dsimp only at hSw
    go_simp <;> with_reducible rfl
  try simp only [Act.put, List.setIfInBounds_toArray, List.set_cons_zero, List.set_cons_succ]
  refine passH (d := some 92) 14 rfl rfl (by kernel_rfl) (by kernel_rfl) (by kernel_rfl) (fun _ _ _ h => h) (by rfl) hHeld ?_
  try simp only [Act.put, List.setIfInBounds_toArray, List.set_cons_zero, List.set_cons_succ]
  refine passH (d := some 93) 15 rfl rfl (by kernel_rfl) (by kernel_rfl) (by kernel_rfl) (fun _ _ _ h => h) (by rfl) hHeld ?_
  try simp only [Act.put, List.setIfInBounds_toArray, List.set_cons_zero, List.set_cons_succ]
  refine passH (d := some 94) 16 rfl rfl (by kernel_rfl) (by kernel_rfl) (by kernel_rfl) (fun _ _ _ h => h) (by rfl) hHeld ?_
  try simp only [Act.put, List.setIfInBounds_toArray, List.set_cons_zero, List.set_cons_succ]
  refine passH (d := some 95) 17 rfl rfl (by kernel_rfl) (by kernel_rfl) (by kernel_rfl) (fun _ _ _ h => h) (by rfl) hHeld ?_
  try simp only [Act.put, List.setIfInBounds_toArray, List.set_cons_zero, List.set_cons_succ]
  refine passH (d := some 96) 18 rfl rfl (by kernel_rfl) (by kernel_rfl) (by kernel_rfl) (fun _ _ _ h => h) (by rfl) hHeld ?_
  try simp only [Act.put, List.setIfInBounds_toArray, List.set_cons_zero, List.set_cons_succ]
  refine passH (d := some 97) 19 rfl rfl (by kernel_rfl) (by kernel_rfl) (by kernel_rfl) (fun _ _ _ h => h) (by rfl) hHeld ?_
  try simp only [Act.put, List.setIfInBounds_toArray, List.set_cons_zero, List.set_cons_succ]
  refine passH (d := some 98) 20 rfl rfl (by kernel_rfl) (by kernel_rfl) (by kernel_rfl) (fun _ _ _ h => h) (by rfl) hHeld ?_
  try simp only [Act.put, List.setIfInBounds_toArray, List.set_cons_zero, List.set_cons_succ]
  refine passH (d := some 99) 21 rfl rfl (by kernel_rfl) (by kernel_rfl) (by kernel_rfl) (fun _ _ _ h => h) (by rfl) hHeld ?_
  try simp only [Act.put, List.setIfInBounds_toArray, List.set_cons_zero, List.set_cons_succ]
  refine passH (d := some 100) 22 rfl rfl (by kernel_rfl) (by kernel_rfl) (by kernel_rfl) (fun _ _ _ h => h) (by rfl) hHeld ?_
  try simp only [Act.put, List.setIfInBounds_toArray, List.set_cons_zero, List.set_cons_succ]
  refine passH (d := some 101) 23 rfl rfl (by kernel_rfl) (by kernel_rfl) (by kernel_rfl) (fun _ _ _ h => h) (by rfl) hHeld ?_
  try simp only [Act.put, List.setIfInBounds_toArray, List.set_cons_zero, List.set_cons_succ]
  refine passH (d := some 102) 24 rfl rfl (by kernel_rfl) (by kernel_rfl) (by kernel_rfl) (fun _ _ _ h => h) (by rfl) hHeld ?_
  try simp only [Act.put, List.setIfInBounds_toArray, List.set_cons_zero, List.set_cons_succ]
  refine passH (d := some 103) 25 rfl rfl (by kernel_rfl) (by kernel_rfl) (by kernel_rfl) (fun _ _ _ h => h) (by rfl) hHeld ?_
  try simp only [Act.put, List.setIfInBounds_toArray, List.set_cons_zero, List.set_cons_succ]
  refine passH (d := some 104) 26 rfl rfl (by kernel_rfl) (by kernel_rfl) (by kernel_rfl) (fun _ _ _ h => h) (by rfl) hHeld ?_
  try simp only [Act.put, List.setIfInBounds_toArray, List.set_cons_zero, List.set_cons_succ]
  refine takeH (d := some 105) (v := ?_) 27 rfl rfl (by kernel_rfl) (by kernel_rfl) (by kernel_rfl) (fun _ _ _ h => h) (by rfl) ?_ hHeld ?_
  rotate_left
  · intro w hSw
    try dsimp only at hSw
    go_simp <;> with_reducible rfl
  try simp only [Act.put, List.setIfInBounds_toArray, List.set_cons_zero, List.set_cons_succ]
  refine takeH (d := some 4) (v := ?_) 28 rfl rfl (by kernel_rfl) (by kernel_rfl) (by kernel_rfl) (fun _ _ _ h => h) (by rfl) ?_ hHeld ?_
  rotate_left
  · intro w hSw
    try dsimp only at hSw
    go_simp <;> with_reducible rfl
  try simp only [Act.put, List.setIfInBounds_toArray, List.set_cons_zero, List.set_cons_succ]
  refine wpAnyH_done (by kernel_rfl) ?_ _
  go_wp2_with fail
  go_ret
  exact ⟨rfl, below_then HB.out HB.out.size HB2.out⟩
set_option maxRecDepth 100000 in
set_option maxHeartbeats 3200000 in
theorem h2_two_yes (n : Nat) (k : Int) (x y x' y' : S26) (ad bd : Addr) (c d : Nat) (Bx By Bx' By' : Option Addr) (dx dy dx' dy' : Nat) (r2 : Bool) (w : World) (IH : Aside0 (H3 n)) (HM : Aside0 (mu x x' < n ∧ mu y y' < n)) (CP : Aside0 (checkI x = 0)) (CQ : Aside0 (checkI x' = 0)) (CY : Aside0 (checkI y = 0)) (CY' : Aside0 (checkI y' = 0))
    (TX : Aside0 (IsT w (.agg #[.int .i8 x.f0, .slice Bx x.f1.length dx]) x)) (TY : Aside0 (IsT w (.agg #[.int .i8 y.f0, .slice By y.f1.length dy]) y)) (TX' : Aside0 (IsT w (.agg #[.int .i8 x'.f0, .slice Bx' x'.f1.length dx']) x')) (TY' : Aside0 (IsT w (.agg #[.int .i8 y'.f0, .slice By' y'.f1.length dy']) y'))
    (EA : Aside0 (w.cell? ad = some (.int .i8 x.f0) ∧ w.cell? ⟨ad.block, ad.off + 1, none⟩ = some (.slice Bx x.f1.length dx) ∧ w.cell? ⟨ad.block, ad.off + 2, none⟩ = some (.int .i8 y.f0) ∧ w.cell? ⟨ad.block, ad.off + 2 + 1, none⟩ = some (.slice By y.f1.length dy))) (EB : Aside0 (w.cell? bd = some (.int .i8 x'.f0) ∧ w.cell? ⟨bd.block, bd.off + 1, none⟩ = some (.slice Bx' x'.f1.length dx') ∧ w.cell? ⟨bd.block, bd.off + 2, none⟩ = some (.int .i8 y'.f0) ∧ w.cell? ⟨bd.block, bd.off + 2 + 1, none⟩ = some (.slice By' y'.f1.length dy'))) (e0 : (k == 0) = false) (e3 : (k == 3) = false)
    (R1 : Aside0 (bel 2 x x' = true)) (R2 : Aside0 (bel 2 y y' = r2)) :
    Calls Try.prog 66 #[.agg #[.func (Fn.func 92) #[] #[], .bool true, .func (Fn.func 70) #[] #[]], .agg #[.int .i8 k, .slice (some ad) 2 c, .int .i8 k, .slice (some bd) 2 d]] w (BPost r2 w) := by
  go_enter Try.func66, Try.ntmps66
  go_wp2_with fail
  have hW := below3 w #[.func (Fn.func 92) #[] #[], .bool true, .func (Fn.func 70) #[] #[]] #[.int .i8 k, .slice (some ad) 2 c, .int .i8 k, .slice (some bd) 2 d] #[.int .i8 k, .int .i8 k] 65 78 76
  have k1 := blk_alloc (blk_alloc (heap_alloc_new w (.cells #[.func (Fn.func 92) #[] #[], .bool true, .func (Fn.func 70) #[] #[]] 65)) (.cells #[.int .i8 k, .slice (some ad) 2 c, .int .i8 k, .slice (some bd) 2 d] 78)) (.cells #[.int .i8 k, .int .i8 k] 76)
  have k2 := blk_alloc (new2 w (.cells #[.func (Fn.func 92) #[] #[], .bool true, .func (Fn.func 70) #[] #[]] 65) #[.int .i8 k, .slice (some ad) 2 c, .int .i8 k, .slice (some bd) 2 d] 78) (.cells #[.int .i8 k, .int .i8 k] 76)
  generalize ((w.alloc (.cells #[.func (Fn.func 92) #[] #[], .bool true, .func (Fn.func 70) #[] #[]] 65)).alloc (.cells #[.int .i8 k, .slice (some ad) 2 c, .int .i8 k, .slice (some bd) 2 d] 78)).alloc (.cells #[.int .i8 k, .int .i8 k] 76) = W at *
  replace TX := Aside0.mk (IsT.below TX.out hW)
  replace TY := Aside0.mk (IsT.below TY.out hW)
  replace TX' := Aside0.mk (IsT.below TX'.out hW)
  replace TY' := Aside0.mk (IsT.below TY'.out hW)
  have HB := Aside0.mk hW
  have ok : ∀ w' : World, Below W.heap.size W w' → (w'.cell? ⟨w.heap.size, 0, none⟩ = some (.func (Fn.func 92) #[] #[]) ∧ w'.cell? ⟨w.heap.size, 1, none⟩ = some (.bool true) ∧ w'.cell? ⟨w.heap.size, 2, none⟩ = some (.func (Fn.func 70) #[] #[]) ∧ w'.cell? ⟨w.heap.size + 1, 0, none⟩ = some (.int .i8 k) ∧ w'.cell? ⟨w.heap.size + 1, 1, none⟩ = some (.slice (some ad) 2 c) ∧ w'.cell? ⟨w.heap.size + 1, 2, none⟩ = some (.int .i8 k) ∧ w'.cell? ⟨w.heap.size + 1, 3, none⟩ = some (.slice (some bd) 2 d) ∧ (w'.cell? ad = some (.int .i8 x.f0) ∧ w'.cell? ⟨ad.block, ad.off + 1, none⟩ = some (.slice Bx x.f1.length dx) ∧ w'.cell? ⟨ad.block, ad.off + 2, none⟩ = some (.int .i8 y.f0) ∧ w'.cell? ⟨ad.block, ad.off + 2 + 1, none⟩ = some (.slice By y.f1.length dy)) ∧ (w'.cell? bd = some (.int .i8 x'.f0) ∧ w'.cell? ⟨bd.block, bd.off + 1, none⟩ = some (.slice Bx' x'.f1.length dx') ∧ w'.cell? ⟨bd.block, bd.off + 2, none⟩ = some (.int .i8 y'.f0) ∧ w'.cell? ⟨bd.block, bd.off + 2 + 1, none⟩ = some (.slice By' y'.f1.length dy'))) := fun w' h => ⟨pw_cell_below h ((blk_cell k1 0).trans rfl), pw_cell_below h ((blk_cell k1 1).trans rfl), pw_cell_below h ((blk_cell k1 2).trans rfl), pw_cell_below h ((blk_cell k2 0).trans rfl), pw_cell_below h ((blk_cell k2 1).trans rfl), pw_cell_below h ((blk_cell k2 2).trans rfl), pw_cell_below h ((blk_cell k2 3).trans rfl), four_of (four_of EA.out hW) h, four_of (four_of EB.out hW) h⟩
  have OK := Aside0.mk ok
  have HBW := Aside0.mk (Below.refl W.heap.size W)
  clear ok k1 k2 EA EB hW
  refine wp_region_held_drew (S := (fun w' => (w'.cell? ⟨w.heap.size, 0, none⟩ = some (.func (Fn.func 92) #[] #[]) ∧ w'.cell? ⟨w.heap.size, 1, none⟩ = some (.bool true) ∧ w'.cell? ⟨w.heap.size, 2, none⟩ = some (.func (Fn.func 70) #[] #[]) ∧ w'.cell? ⟨w.heap.size + 1, 0, none⟩ = some (.int .i8 k) ∧ w'.cell? ⟨w.heap.size + 1, 1, none⟩ = some (.slice (some ad) 2 c) ∧ w'.cell? ⟨w.heap.size + 1, 2, none⟩ = some (.int .i8 k) ∧ w'.cell? ⟨w.heap.size + 1, 3, none⟩ = some (.slice (some bd) 2 d) ∧ (w'.cell? ad = some (.int .i8 x.f0) ∧ w'.cell? ⟨ad.block, ad.off + 1, none⟩ = some (.slice Bx x.f1.length dx) ∧ w'.cell? ⟨ad.block, ad.off + 2, none⟩ = some (.int .i8 y.f0) ∧ w'.cell? ⟨ad.block, ad.off + 2 + 1, none⟩ = some (.slice By y.f1.length dy)) ∧ (w'.cell? bd = some (.int .i8 x'.f0) ∧ w'.cell? ⟨bd.block, bd.off + 1, none⟩ = some (.slice Bx' x'.f1.length dx') ∧ w'.cell? ⟨bd.block, bd.off + 2, none⟩ = some (.int .i8 y'.f0) ∧ w'.cell? ⟨bd.block, bd.off + 2 + 1, none⟩ = some (.slice By' y'.f1.length dy'))))) (by kernel_rfl) (OK.out _ HBW.out.drew) (fun hHeld => ?_)
  have HB1 := Aside0.mk HBW.out.drew
  refine takeH (d := some 78) (v := ?_) 0 rfl rfl (by kernel_rfl) (by kernel_rfl) (by kernel_rfl) (fun _ _ _ h => h) (by rfl) ?_ hHeld ?_
  rotate_left
  · intro w hSw
    try dsimp only at hSw
    go_simp <;> with_reducible rfl
  try simp only [Act.put, List.setIfInBounds_toArray, List.set_cons_zero, List.set_cons_succ]
  refine takeH (d := some 79) (v := ?_) 1 rfl rfl (by kernel_rfl) (by kernel_rfl) (by kernel_rfl) (fun _ _ _ h => h) (by rfl) ?_ hHeld ?_
  rotate_left
  · intro w hSw
    try dsimp only at hSw
    go_simp <;> with_reducible rfl
  try simp only [Act.put, List.setIfInBounds_toArray, List.set_cons_zero, List.set_cons_succ]
  refine takeH (d := some 80) (v := ?_) 2 rfl rfl (by kernel_rfl) (by kernel_rfl) (by kernel_rfl) (fun _ _ _ h => h) (by rfl) ?_ hHeld ?_
  rotate_left
  · intro w hSw
    try dsimp only at hSw
    go_simp <;> with_reducible rfl
  try simp only [Act.put, List.setIfInBounds_toArray, List.set_cons_zero, List.set_cons_succ]
  refine takeH (d := some 81) (v := ?_) 3 rfl rfl (by kernel_rfl) (by kernel_rfl) (by kernel_rfl) (fun _ _ _ h => h) (by rfl) ?_ hHeld ?_
  rotate_left
  · intro w hSw
    try dsimp only at hSw
    go_simp <;> with_reducible rfl
  try simp only [Act.put, List.setIfInBounds_toArray, List.set_cons_zero, List.set_cons_succ]
  refine takeH (d := some 82) (v := ?_) 4 rfl rfl (by kernel_rfl) (by kernel_rfl) (by kernel_rfl) (fun _ _ _ h => h) (by rfl) ?_ hHeld ?_
  rotate_left
  · intro w hSw
    try dsimp only at hSw
    go_simp <;> with_reducible rfl
  try simp only [Act.put, List.setIfInBounds_toArray, List.set_cons_zero, List.set_cons_succ]
  refine takeH (d := some 83) (v := ?_) 5 rfl rfl (by kernel_rfl) (by kernel_rfl) (by kernel_rfl) (fun _ _ _ h => h) (by rfl) ?_ hHeld ?_
  rotate_left
  · intro w hSw
    try dsimp only at hSw
    go_simp <;> with_reducible rfl
  try simp only [Act.put, List.setIfInBounds_toArray, List.set_cons_zero, List.set_cons_succ]
  refine takeH (d := some 84) (v := ?_) 6 rfl rfl (by kernel_rfl) (by kernel_rfl) (by kernel_rfl) (fun _ _ _ h => h) (by rfl) ?_ hHeld ?_
  rotate_left
  · intro w hSw
    try dsimp only at hSw
    go_simp <;> with_reducible rfl
  try simp only [Act.put, List.setIfInBounds_toArray, List.set_cons_zero, List.set_cons_succ]
  refine takeH (d := some 85) (v := ?_) 7 rfl rfl (by kernel_rfl) (by kernel_rfl) (by kernel_rfl) (fun _ _ _ h => h) (by rfl) ?_ hHeld ?_
  rotate_left
  · intro w hSw
    try dsimp only at hSw
    go_simp <;> with_reducible rfl
  try simp only [Act.put, List.setIfInBounds_toArray, List.set_cons_zero, List.set_cons_succ]
  refine takeH (d := some 86) (v := ?_) 8 rfl rfl (by kernel_rfl) (by kernel_rfl) (by kernel_rfl) (fun _ _ _ h => h) (by rfl) ?_ hHeld ?_
  rotate_left
  · intro w hSw
    try dsimp only at hSw
    go_simp <;> with_reducible rfl
  try simp only [Act.put, List.setIfInBounds_toArray, List.set_cons_zero, List.set_cons_succ]
  refine takeH (d := some 87) (v := ?_) 9 rfl rfl (by kernel_rfl) (by kernel_rfl) (by kernel_rfl) (fun _ _ _ h => h) (by rfl) ?_ hHeld ?_
  rotate_left
  · intro w hSw
    try dsimp only at hSw
    go_simp <;> with_reducible rfl
  try simp only [Act.put, List.setIfInBounds_toArray, List.set_cons_zero, List.set_cons_succ]
  refine takeH (d := some 88) (v := ?_) 10 rfl rfl (by kernel_rfl) (by kernel_rfl) (by kernel_rfl) (fun _ _ _ h => h) (by rfl) ?_ hHeld ?_
  rotate_left
  · intro w hSw
    try dsimp only at hSw
    go_simp <;> with_reducible rfl
  try simp only [Act.put, List.setIfInBounds_toArray, List.set_cons_zero, List.set_cons_succ]
  refine takeH (d := some 89) (v := ?_) 11 rfl rfl (by kernel_rfl) (by kernel_rfl) (by kernel_rfl) (fun _ _ _ h => h) (by rfl) ?_ hHeld ?_
  rotate_left
  · intro w hSw
    try dsimp only at hSw
    go_simp <;> with_reducible rfl
  try simp only [Act.put, List.setIfInBounds_toArray, List.set_cons_zero, List.set_cons_succ]
  refine wpAnyH_ready (rs := [12]) (by kernel_rfl) (by simp) ?_
  refine AllReadyH.cons rfl (fun K hK => ?_) AllReadyH.nil
  go_simp
  refine (IH.out x _ _ x' _ _ _ HM.out.1 CP.out CQ.out (TX.out.below HB1.out) (TX'.out.below HB1.out)).2.2.mono ?_
  rw [R1.out]
  rintro e w2 ⟨rfl, hB⟩
  have HB2 := Aside0.mk (below_then HB1.out HB1.out.size hB)
  clear hB
  refine hK.out _ _ (OK.out _ HB2.out) (fun hHeld => ?_)
  clear hK K
  try simp only [Act.put, List.setIfInBounds_toArray, List.set_cons_zero, List.set_cons_succ]
  refine takeH (d := some 91) (v := ?_) 13 rfl rfl (by kernel_rfl) (by kernel_rfl) (by kernel_rfl) (fun _ _ _ h => h) (by rfl) ?_ hHeld ?_
  rotate_left
  · intro w hSw
    try dsimp only at hSw
    go_simp <;> with_reducible rfl
  try simp only [Act.put, List.setIfInBounds_toArray, List.set_cons_zero, List.set_cons_succ]
  refine takeH (d := some 92) (v := ?_) 14 rfl rfl (by kernel_rfl) (by kernel_rfl) (by kernel_rfl) (fun _ _ _ h => h) (by rfl) ?_ hHeld ?_
  rotate_left
  · intro w hSw
    try dsimp only at hSw
    go_simp <;> with_reducible rfl
  try simp only [Act.put, List.setIfInBounds_toArray, List.set_cons_zero, List.set_cons_succ]
  refine takeH (d := some 93) (v := ?_) 15 rfl rfl (by kernel_rfl) (by kernel_rfl) (by kernel_rfl) (fun _ _ _ h => h) (by rfl) ?_ hHeld ?_
  rotate_left
  · intro w hSw
    try dsimp only at hSw
    go_simp <;> with_reducible rfl
  try simp only [Act.put, List.setIfInBounds_toArray, List.set_cons_zero, List.set_cons_succ]
  refine takeH (d := some 94) (v := ?_) 16 rfl rfl (by kernel_rfl) (by kernel_rfl) (by kernel_rfl) (fun _ _ _ h => h) (by rfl) ?_ hHeld ?_
  rotate_left
  · intro w hSw
    try dsimp only at hSw
    go_simp <;> with_reducible rfl
  try simp only [Act.put, List.setIfInBounds_toArray, List.set_cons_zero, List.set_cons_succ]
  refine takeH (d := some 95) (v := ?_) 17 rfl rfl (by kernel_rfl) (by kernel_rfl) (by kernel_rfl) (fun _ _ _ h => h) (by rfl) ?_ hHeld ?_
  rotate_left
  · intro w hSw
    try dsimp only at hSw
    go_simp <;> with_reducible rfl
  try simp only [Act.put, List.setIfInBounds_toArray, List.set_cons_zero, List.set_cons_succ]
  refine takeH (d := some 96) (v := ?_) 18 rfl rfl (by kernel_rfl) (by kernel_rfl) (by kernel_rfl) (fun _ _ _ h => h) (by rfl) ?_ hHeld ?_
  rotate_left
  · intro w hSw
    try dsimp only at hSw
    go_simp <;> with_reducible rfl
  try simp only [Act.put, List.setIfInBounds_toArray, List.set_cons_zero, List.set_cons_succ]
  refine takeH (d := some 97) (v := ?_) 19 rfl rfl (by kernel_rfl) (by kernel_rfl) (by kernel_rfl) (fun _ _ _ h => h) (by rfl) ?_ hHeld ?_
  rotate_left
  · intro w hSw
    try dsimp only at hSw
    go_simp <;> with_reducible rfl
  try simp only [Act.put, List.setIfInBounds_toArray, List.set_cons_zero, List.set_cons_succ]
  refine takeH (d := some 98) (v := ?_) 20 rfl rfl (by kernel_rfl) (by kernel_rfl) (by kernel_rfl) (fun _ _ _ h => h) (by rfl) ?_ hHeld ?_
  rotate_left
  · intro w hSw
    try dsimp only at hSw
    go_simp <;> with_reducible rfl
  try simp only [Act.put, List.setIfInBounds_toArray, List.set_cons_zero, List.set_cons_succ]
  refine takeH (d := some 99) (v := ?_) 21 rfl rfl (by kernel_rfl) (by kernel_rfl) (by kernel_rfl) (fun _ _ _ h => h) (by rfl) ?_ hHeld ?_
  rotate_left
  · intro w hSw
    try dsimp only at hSw
    go_simp <;> with_reducible rfl
  try simp only [Act.put, List.setIfInBounds_toArray, List.set_cons_zero, List.set_cons_succ]
  refine takeH (d := some 100) (v := ?_) 22 rfl rfl (by kernel_rfl) (by kernel_rfl) (by kernel_rfl) (fun _ _ _ h => h) (by rfl) ?_ hHeld ?_
  rotate_left
  · intro w hSw
    try dsimp only at hSw
    go_simp <;> with_reducible rfl
  try simp only [Act.put, List.setIfInBounds_toArray, List.set_cons_zero, List.set_cons_succ]
  refine takeH (d := some 101) (v := ?_) 23 rfl rfl (by kernel_rfl) (by kernel_rfl) (by kernel_rfl) (fun _ _ _ h => h) (by rfl) ?_ hHeld ?_
  rotate_left
  · intro w hSw
    try dsimp only at hSw
    go_simp <;> with_reducible rfl
  try simp only [Act.put, List.setIfInBounds_toArray, List.set_cons_zero, List.set_cons_succ]
  refine takeH (d := some 102) (v := ?_) 24 rfl rfl (by kernel_rfl) (by kernel_rfl) (by kernel_rfl) (fun _ _ _ h => h) (by rfl) ?_ hHeld ?_
  rotate_left
  · intro w hSw
    try dsimp only at hSw
    go_simp <;> with_reducible rfl
  try simp only [Act.put, List.setIfInBounds_toArray, List.set_cons_zero, List.set_cons_succ]
  refine takeH (d := some 103) (v := ?_) 25 rfl rfl (by kernel_rfl) (by kernel_rfl) (by kernel_rfl) (fun _ _ _ h => h) (by rfl) ?_ hHeld ?_
  rotate_left
  · intro w hSw
    try dsimp only at hSw
    go_simp <;> with_reducible rfl
  try simp only [Act.put, List.setIfInBounds_toArray, List.set_cons_zero, List.set_cons_succ]
  refine wpAnyH_ready (rs := [26]) (by kernel_rfl) (by simp) ?_
  refine AllReadyH.cons rfl (fun K hK => ?_) AllReadyH.nil
  go_simp
  refine (IH.out y _ _ y' _ _ _ HM.out.2 CY.out CY'.out (TY.out.below HB2.out) (TY'.out.below HB2.out)).2.2.mono ?_
  rw [R2.out]
  rintro e w3 ⟨rfl, hB⟩
  have HB3 := Aside0.mk (below_then HB2.out HB2.out.size hB)
  clear hB
  refine hK.out _ _ (OK.out _ HB3.out) (fun hHeld => ?_)
  clear hK K
  try simp only [Act.put, List.setIfInBounds_toArray, List.set_cons_zero, List.set_cons_succ]
  refine takeH (d := some 105) (v := ?_) 27 rfl rfl (by kernel_rfl) (by kernel_rfl) (by kernel_rfl) (fun _ _ _ h => h) (by rfl) ?_ hHeld ?_
  rotate_left
  · intro w hSw
    try dsimp only at hSw
    go_simp <;> with_reducible rfl
  try simp only [Act.put, List.setIfInBounds_toArray, List.set_cons_zero, List.set_cons_succ]
  refine takeH (d := some 4) (v := ?_) 28 rfl rfl (by kernel_rfl) (by kernel_rfl) (by kernel_rfl) (fun _ _ _ h => h) (by rfl) ?_ hHeld ?_
  rotate_left
  · intro w hSw
    try dsimp only at hSw
    go_simp <;> with_reducible rfl
  try simp only [Act.put, List.setIfInBounds_toArray, List.set_cons_zero, List.set_cons_succ]
  refine wpAnyH_done (by kernel_rfl) ?_ _
  go_wp2_with fail
  go_ret
  exact ⟨rfl, below_then HB.out HB.out.size HB3.out⟩
end Go.Proofs.Ytamhdpllmhafhaa.X
