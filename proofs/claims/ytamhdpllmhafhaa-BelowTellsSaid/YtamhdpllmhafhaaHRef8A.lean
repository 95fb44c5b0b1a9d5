/- The contracts of the document's below, pos, neg (layer 8): types of two parts. -/
import Derived.Test.YtamhdpllmhafhaaHRef8
import Derived.Test.YtamhdpllmhafhaaHTake
import Derived.Test.YtamhdpllmhafhaaHKeep
import Derived.Test.YtamhdpllmhafhaaHGround
import Derived.Test.YtamhdpllmhafhaaFR8
import Derived.RegionTactic
import Derived.ChangeAlike
import Derived.BigRegion
namespace Go.Proofs.Ytamhdpllmhafhaa.X
open Go.RowKit Go.Proofs.YtamhdpllmhafhaaW.PrintWords Go.Proofs.YtamhdpllmhafhaaW.PrintLast Go.Proofs.YtamhdpllmhafhaaW.PrintMore
set_option linter.unusedVariables false
set_option linter.unusedSimpArgs false

set_option maxRecDepth 100000 in
set_option maxHeartbeats 1600000 in
theorem b69_fun_no (n : Nat) (k : Int) (x y x' y' : S26) (ad bd : Addr) (c d : Nat) (Bx By Bx' By' : Option Addr) (dx dy dx' dy' : Nat) (r2 : Bool) (w : World) (IH : Aside0 (R3 n)) (HM : Aside0 (mu x' x < n ∧ mu y y' < n)) (CP : Aside0 (checkI x' = 0)) (CQ : Aside0 (checkI x = 0)) (CY : Aside0 (checkI y = 0)) (CY' : Aside0 (checkI y' = 0))
    (TX : Aside0 (IsT w (.agg #[.int .i8 x.f0, .slice Bx x.f1.length dx]) x)) (TY : Aside0 (IsT w (.agg #[.int .i8 y.f0, .slice By y.f1.length dy]) y)) (TX' : Aside0 (IsT w (.agg #[.int .i8 x'.f0, .slice Bx' x'.f1.length dx']) x')) (TY' : Aside0 (IsT w (.agg #[.int .i8 y'.f0, .slice By' y'.f1.length dy']) y'))
    (EA : Aside0 (w.cell? ad = some (.int .i8 x.f0) ∧ w.cell? ⟨ad.block, ad.off + 1, none⟩ = some (.slice Bx x.f1.length dx) ∧ w.cell? ⟨ad.block, ad.off + 2, none⟩ = some (.int .i8 y.f0) ∧ w.cell? ⟨ad.block, ad.off + 2 + 1, none⟩ = some (.slice By y.f1.length dy))) (EB : Aside0 (w.cell? bd = some (.int .i8 x'.f0) ∧ w.cell? ⟨bd.block, bd.off + 1, none⟩ = some (.slice Bx' x'.f1.length dx') ∧ w.cell? ⟨bd.block, bd.off + 2, none⟩ = some (.int .i8 y'.f0) ∧ w.cell? ⟨bd.block, bd.off + 2 + 1, none⟩ = some (.slice By' y'.f1.length dy'))) (e0 : (k == 0) = false) (e1 : (k == 1) = false) (e2 : (k == 2) = false) (e3 : (k == 3) = true)
    (R1 : Aside0 (bel 0 x' x = false)) (R2 : Aside0 (bel 0 y y' = r2)) :
    Calls Try.prog 69 #[.agg #[.int .i8 k, .slice (some ad) 2 c], .agg #[.int .i8 k, .slice (some bd) 2 d]] w (BPost false w) := by
  go_enter Try.func69, Try.ntmps69
  go_wp2_with fail
  have hW := below2 w #[.int .i8 k, .slice (some ad) 2 c] #[.int .i8 k, .slice (some bd) 2 d] 26 26
  have k1 := blk_alloc (heap_alloc_new w (.cells #[.int .i8 k, .slice (some ad) 2 c] 26)) (.cells #[.int .i8 k, .slice (some bd) 2 d] 26)
  have k2 := new2 w (.cells #[.int .i8 k, .slice (some ad) 2 c] 26) #[.int .i8 k, .slice (some bd) 2 d] 26
  generalize (w.alloc (.cells #[.int .i8 k, .slice (some ad) 2 c] 26)).alloc (.cells #[.int .i8 k, .slice (some bd) 2 d] 26) = W at *
  replace TX := Aside0.mk (IsT.below TX.out hW)
  replace TY := Aside0.mk (IsT.below TY.out hW)
  replace TX' := Aside0.mk (IsT.below TX'.out hW)
  replace TY' := Aside0.mk (IsT.below TY'.out hW)
  have HB := Aside0.mk hW
  have f1 : W.cell? ⟨w.heap.size, 1, none⟩ = some (.slice (some ad) 2 c) := (blk_cell k1 1).trans rfl
  have f2 : W.cell? ⟨w.heap.size + 1, 1, none⟩ = some (.slice (some bd) 2 d) := (blk_cell k2 1).trans rfl
  have ok : ∀ w' : World, Below W.heap.size W w' → (w'.cell? ⟨w.heap.size, 1, none⟩ = some (.slice (some ad) 2 c) ∧ w'.cell? ⟨w.heap.size + 1, 1, none⟩ = some (.slice (some bd) 2 d) ∧ (w'.cell? ad = some (.int .i8 x.f0) ∧ w'.cell? ⟨ad.block, ad.off + 1, none⟩ = some (.slice Bx x.f1.length dx) ∧ w'.cell? ⟨ad.block, ad.off + 2, none⟩ = some (.int .i8 y.f0) ∧ w'.cell? ⟨ad.block, ad.off + 2 + 1, none⟩ = some (.slice By y.f1.length dy)) ∧ (w'.cell? bd = some (.int .i8 x'.f0) ∧ w'.cell? ⟨bd.block, bd.off + 1, none⟩ = some (.slice Bx' x'.f1.length dx') ∧ w'.cell? ⟨bd.block, bd.off + 2, none⟩ = some (.int .i8 y'.f0) ∧ w'.cell? ⟨bd.block, bd.off + 2 + 1, none⟩ = some (.slice By' y'.f1.length dy'))) := fun w' h => ⟨pw_cell_below h f1, pw_cell_below h f2, four_of (four_of EA.out hW) h, four_of (four_of EB.out hW) h⟩
  have OK := Aside0.mk ok
  have HBW := Aside0.mk (Below.refl W.heap.size W)
  clear ok f1 f2 k1 k2 EA EB hW
  refine wp_region_held_drew (S := (fun w' => (w'.cell? ⟨w.heap.size, 1, none⟩ = some (.slice (some ad) 2 c) ∧ w'.cell? ⟨w.heap.size + 1, 1, none⟩ = some (.slice (some bd) 2 d) ∧ (w'.cell? ad = some (.int .i8 x.f0) ∧ w'.cell? ⟨ad.block, ad.off + 1, none⟩ = some (.slice Bx x.f1.length dx) ∧ w'.cell? ⟨ad.block, ad.off + 2, none⟩ = some (.int .i8 y.f0) ∧ w'.cell? ⟨ad.block, ad.off + 2 + 1, none⟩ = some (.slice By y.f1.length dy)) ∧ (w'.cell? bd = some (.int .i8 x'.f0) ∧ w'.cell? ⟨bd.block, bd.off + 1, none⟩ = some (.slice Bx' x'.f1.length dx') ∧ w'.cell? ⟨bd.block, bd.off + 2, none⟩ = some (.int .i8 y'.f0) ∧ w'.cell? ⟨bd.block, bd.off + 2 + 1, none⟩ = some (.slice By' y'.f1.length dy'))))) (by kernel_rfl) (OK.out _ HBW.out.drew) (fun hHeld => ?_)
  refine takeH (d := some 39) (v := ?_) 0 rfl rfl (by kernel_rfl) (by kernel_rfl) (by kernel_rfl) (fun _ _ _ h => h) (by rfl) ?_ hHeld ?_
  rotate_left
  · intro w hSw
    try dsimp only at hSw
    go_simp <;> with_reducible rfl
  try simp only [Act.put, List.setIfInBounds_toArray, List.set_cons_zero, List.set_cons_succ]
  refine takeH (d := some 40) (v := ?_) 1 rfl rfl (by kernel_rfl) (by kernel_rfl) (by kernel_rfl) (fun _ _ _ h => h) (by rfl) ?_ hHeld ?_
  rotate_left
  · intro w hSw
    try dsimp only at hSw
    go_simp <;> with_reducible rfl
  try simp only [Act.put, List.setIfInBounds_toArray, List.set_cons_zero, List.set_cons_succ]
  refine takeH (d := some 41) (v := ?_) 2 rfl rfl (by kernel_rfl) (by kernel_rfl) (by kernel_rfl) (fun _ _ _ h => h) (by rfl) ?_ hHeld ?_
  rotate_left
  · intro w hSw
    try dsimp only at hSw
    go_simp <;> with_reducible rfl
  try simp only [Act.put, List.setIfInBounds_toArray, List.set_cons_zero, List.set_cons_succ]
  refine takeH (d := some 42) (v := ?_) 3 rfl rfl (by kernel_rfl) (by kernel_rfl) (by kernel_rfl) (fun _ _ _ h => h) (by rfl) ?_ hHeld ?_
  rotate_left
  · intro w hSw
    try dsimp only at hSw
    go_simp <;> with_reducible rfl
  try simp only [Act.put, List.setIfInBounds_toArray, List.set_cons_zero, List.set_cons_succ]
  refine takeH (d := some 43) (v := ?_) 4 rfl rfl (by kernel_rfl) (by kernel_rfl) (by kernel_rfl) (fun _ _ _ h => h) (by rfl) ?_ hHeld ?_
  rotate_left
  · intro w hSw
    try dsimp only at hSw
    go_simp <;> with_reducible rfl
  try simp only [Act.put, List.setIfInBounds_toArray, List.set_cons_zero, List.set_cons_succ]
  refine takeH (d := some 44) (v := ?_) 5 rfl rfl (by kernel_rfl) (by kernel_rfl) (by kernel_rfl) (fun _ _ _ h => h) (by rfl) ?_ hHeld ?_
  rotate_left
  · intro w hSw
    try dsimp only at hSw
    go_simp <;> with_reducible rfl
  try simp only [Act.put, List.setIfInBounds_toArray, List.set_cons_zero, List.set_cons_succ]
  refine takeH (d := some 45) (v := ?_) 6 rfl rfl (by kernel_rfl) (by kernel_rfl) (by kernel_rfl) (fun _ _ _ h => h) (by rfl) ?_ hHeld ?_
  rotate_left
  · intro w hSw
    try dsimp only at hSw
    go_simp <;> with_reducible rfl
  try simp only [Act.put, List.setIfInBounds_toArray, List.set_cons_zero, List.set_cons_succ]
  refine takeH (d := some 46) (v := ?_) 7 rfl rfl (by kernel_rfl) (by kernel_rfl) (by kernel_rfl) (fun _ _ _ h => h) (by rfl) ?_ hHeld ?_
  rotate_left
  · intro w hSw
    try dsimp only at hSw
    go_simp <;> with_reducible rfl
  try simp only [Act.put, List.setIfInBounds_toArray, List.set_cons_zero, List.set_cons_succ]
  refine wpAnyH_ready (rs := [8]) (by kernel_rfl) (by simp) ?_
  refine AllReadyH.cons rfl (fun K hK => ?_) AllReadyH.nil
  go_simp
  refine (IH.out x' x _ _ _ HM.out.1 CP.out CQ.out (TX'.out.below HBW.out.drew) (TX.out.below HBW.out.drew)).1.mono ?_
  rw [R1.out]
  rintro e w2 ⟨rfl, hB⟩
  have HB2 := Aside0.mk (below_then HBW.out.drew HBW.out.drew.size hB)
  clear hB
  refine hK.out _ _ (OK.out _ HB2.out) (fun hHeld => ?_)
  clear hK K
  try simp only [Act.put, List.setIfInBounds_toArray, List.set_cons_zero, List.set_cons_succ]
  refine takeH (d := some 48) (v := ?_) 9 rfl rfl (by kernel_rfl) (by kernel_rfl) (by kernel_rfl) (fun _ _ _ h => h) (by rfl) ?_ hHeld ?_
  rotate_left
  · intro w hSw
    try dsimp only at hSw
    go_simp <;> with_reducible rfl
  try simp only [Act.put, List.setIfInBounds_toArray, List.set_cons_zero, List.set_cons_succ]
  refine passH (d := some 49) 10 rfl rfl (by kernel_rfl) (by kernel_rfl) (by kernel_rfl) (fun _ _ _ h => h) (by rfl) hHeld ?_
  try simp only [Act.put, List.setIfInBounds_toArray, List.set_cons_zero, List.set_cons_succ]
  refine passH (d := some 50) 11 rfl rfl (by kernel_rfl) (by kernel_rfl) (by kernel_rfl) (fun _ _ _ h => h) (by rfl) hHeld ?_
  try simp only [Act.put, List.setIfInBounds_toArray, List.set_cons_zero, List.set_cons_succ]
  refine passH (d := some 51) 12 rfl rfl (by kernel_rfl) (by kernel_rfl) (by kernel_rfl) (fun _ _ _ h => h) (by rfl) hHeld ?_
  try simp only [Act.put, List.setIfInBounds_toArray, List.set_cons_zero, List.set_cons_succ]
  refine passH (d := some 52) 13 rfl rfl (by kernel_rfl) (by kernel_rfl) (by kernel_rfl) (fun _ _ _ h => h) (by rfl) hHeld ?_
  try simp only [Act.put, List.setIfInBounds_toArray, List.set_cons_zero, List.set_cons_succ]
  refine passH (d := some 53) 14 rfl rfl (by kernel_rfl) (by kernel_rfl) (by kernel_rfl) (fun _ _ _ h => h) (by rfl) hHeld ?_
  try simp only [Act.put, List.setIfInBounds_toArray, List.set_cons_zero, List.set_cons_succ]
  refine passH (d := some 54) 15 rfl rfl (by kernel_rfl) (by kernel_rfl) (by kernel_rfl) (fun _ _ _ h => h) (by rfl) hHeld ?_
  try simp only [Act.put, List.setIfInBounds_toArray, List.set_cons_zero, List.set_cons_succ]
  refine passH (d := some 55) 16 rfl rfl (by kernel_rfl) (by kernel_rfl) (by kernel_rfl) (fun _ _ _ h => h) (by rfl) hHeld ?_
  try simp only [Act.put, List.setIfInBounds_toArray, List.set_cons_zero, List.set_cons_succ]
  refine passH (d := some 56) 17 rfl rfl (by kernel_rfl) (by kernel_rfl) (by kernel_rfl) (fun _ _ _ h => h) (by rfl) hHeld ?_
  try simp only [Act.put, List.setIfInBounds_toArray, List.set_cons_zero, List.set_cons_succ]
  refine passH (d := some 57) 18 rfl rfl (by kernel_rfl) (by kernel_rfl) (by kernel_rfl) (fun _ _ _ h => h) (by rfl) hHeld ?_
  try simp only [Act.put, List.setIfInBounds_toArray, List.set_cons_zero, List.set_cons_succ]
  refine takeH (d := some 58) (v := ?_) 19 rfl rfl (by kernel_rfl) (by kernel_rfl) (by kernel_rfl) (fun _ _ _ h => h) (by rfl) ?_ hHeld ?_
  rotate_left
  · intro w hSw
    try dsimp only at hSw
    go_simp <;> with_reducible rfl
  try simp only [Act.put, List.setIfInBounds_toArray, List.set_cons_zero, List.set_cons_succ]
  refine takeH (d := some 4) (v := ?_) 20 rfl rfl (by kernel_rfl) (by kernel_rfl) (by kernel_rfl) (fun _ _ _ h => h) (by rfl) ?_ hHeld ?_
  rotate_left
  · intro w hSw
    try dsimp only at hSw
    go_simp <;> with_reducible rfl
  try simp only [Act.put, List.setIfInBounds_toArray, List.set_cons_zero, List.set_cons_succ]
  refine wpAnyH_done (by kernel_rfl) ?_ _
  go_wp2_with fail
  go_ret
  exact ⟨rfl, below_then HB.out HB.out.size HB2.out⟩
set_option maxRecDepth 100000 in
set_option maxHeartbeats 1600000 in
theorem b69_fun_yes (n : Nat) (k : Int) (x y x' y' : S26) (ad bd : Addr) (c d : Nat) (Bx By Bx' By' : Option Addr) (dx dy dx' dy' : Nat) (r2 : Bool) (w : World) (IH : Aside0 (R3 n)) (HM : Aside0 (mu x' x < n ∧ mu y y' < n)) (CP : Aside0 (checkI x' = 0)) (CQ : Aside0 (checkI x = 0)) (CY : Aside0 (checkI y = 0)) (CY' : Aside0 (checkI y' = 0))
    (TX : Aside0 (IsT w (.agg #[.int .i8 x.f0, .slice Bx x.f1.length dx]) x)) (TY : Aside0 (IsT w (.agg #[.int .i8 y.f0, .slice By y.f1.length dy]) y)) (TX' : Aside0 (IsT w (.agg #[.int .i8 x'.f0, .slice Bx' x'.f1.length dx']) x')) (TY' : Aside0 (IsT w (.agg #[.int .i8 y'.f0, .slice By' y'.f1.length dy']) y'))
    (EA : Aside0 (w.cell? ad = some (.int .i8 x.f0) ∧ w.cell? ⟨ad.block, ad.off + 1, none⟩ = some (.slice Bx x.f1.length dx) ∧ w.cell? ⟨ad.block, ad.off + 2, none⟩ = some (.int .i8 y.f0) ∧ w.cell? ⟨ad.block, ad.off + 2 + 1, none⟩ = some (.slice By y.f1.length dy))) (EB : Aside0 (w.cell? bd = some (.int .i8 x'.f0) ∧ w.cell? ⟨bd.block, bd.off + 1, none⟩ = some (.slice Bx' x'.f1.length dx') ∧ w.cell? ⟨bd.block, bd.off + 2, none⟩ = some (.int .i8 y'.f0) ∧ w.cell? ⟨bd.block, bd.off + 2 + 1, none⟩ = some (.slice By' y'.f1.length dy'))) (e0 : (k == 0) = false) (e1 : (k == 1) = false) (e2 : (k == 2) = false) (e3 : (k == 3) = true)
    (R1 : Aside0 (bel 0 x' x = true)) (R2 : Aside0 (bel 0 y y' = r2)) :
    Calls Try.prog 69 #[.agg #[.int .i8 k, .slice (some ad) 2 c], .agg #[.int .i8 k, .slice (some bd) 2 d]] w (BPost r2 w) := by
  go_enter Try.func69, Try.ntmps69
  go_wp2_with fail
  have hW := below2 w #[.int .i8 k, .slice (some ad) 2 c] #[.int .i8 k, .slice (some bd) 2 d] 26 26
  have k1 := blk_alloc (heap_alloc_new w (.cells #[.int .i8 k, .slice (some ad) 2 c] 26)) (.cells #[.int .i8 k, .slice (some bd) 2 d] 26)
  have k2 := new2 w (.cells #[.int .i8 k, .slice (some ad) 2 c] 26) #[.int .i8 k, .slice (some bd) 2 d] 26
  generalize (w.alloc (.cells #[.int .i8 k, .slice (some ad) 2 c] 26)).alloc (.cells #[.int .i8 k, .slice (some bd) 2 d] 26) = W at *
  replace TX := Aside0.mk (IsT.below TX.out hW)
  replace TY := Aside0.mk (IsT.below TY.out hW)
  replace TX' := Aside0.mk (IsT.below TX'.out hW)
  replace TY' := Aside0.mk (IsT.below TY'.out hW)
  have HB := Aside0.mk hW
  have f1 : W.cell? ⟨w.heap.size, 1, none⟩ = some (.slice (some ad) 2 c) := (blk_cell k1 1).trans rfl
  have f2 : W.cell? ⟨w.heap.size + 1, 1, none⟩ = some (.slice (some bd) 2 d) := (blk_cell k2 1).trans rfl
  have ok : ∀ w' : World, Below W.heap.size W w' → (w'.cell? ⟨w.heap.size, 1, none⟩ = some (.slice (some ad) 2 c) ∧ w'.cell? ⟨w.heap.size + 1, 1, none⟩ = some (.slice (some bd) 2 d) ∧ (w'.cell? ad = some (.int .i8 x.f0) ∧ w'.cell? ⟨ad.block, ad.off + 1, none⟩ = some (.slice Bx x.f1.length dx) ∧ w'.cell? ⟨ad.block, ad.off + 2, none⟩ = some (.int .i8 y.f0) ∧ w'.cell? ⟨ad.block, ad.off + 2 + 1, none⟩ = some (.slice By y.f1.length dy)) ∧ (w'.cell? bd = some (.int .i8 x'.f0) ∧ w'.cell? ⟨bd.block, bd.off + 1, none⟩ = some (.slice Bx' x'.f1.length dx') ∧ w'.cell? ⟨bd.block, bd.off + 2, none⟩ = some (.int .i8 y'.f0) ∧ w'.cell? ⟨bd.block, bd.off + 2 + 1, none⟩ = some (.slice By' y'.f1.length dy'))) := fun w' h => ⟨pw_cell_below h f1, pw_cell_below h f2, four_of (four_of EA.out hW) h, four_of (four_of EB.out hW) h⟩
  have OK := Aside0.mk ok
  have HBW := Aside0.mk (Below.refl W.heap.size W)
  clear ok f1 f2 k1 k2 EA EB hW
  refine wp_region_held_drew (S := (fun w' => (w'.cell? ⟨w.heap.size, 1, none⟩ = some (.slice (some ad) 2 c) ∧ w'.cell? ⟨w.heap.size + 1, 1, none⟩ = some (.slice (some bd) 2 d) ∧ (w'.cell? ad = some (.int .i8 x.f0) ∧ w'.cell? ⟨ad.block, ad.off + 1, none⟩ = some (.slice Bx x.f1.length dx) ∧ w'.cell? ⟨ad.block, ad.off + 2, none⟩ = some (.int .i8 y.f0) ∧ w'.cell? ⟨ad.block, ad.off + 2 + 1, none⟩ = some (.slice By y.f1.length dy)) ∧ (w'.cell? bd = some (.int .i8 x'.f0) ∧ w'.cell? ⟨bd.block, bd.off + 1, none⟩ = some (.slice Bx' x'.f1.length dx') ∧ w'.cell? ⟨bd.block, bd.off + 2, none⟩ = some (.int .i8 y'.f0) ∧ w'.cell? ⟨bd.block, bd.off + 2 + 1, none⟩ = some (.slice By' y'.f1.length dy'))))) (by kernel_rfl) (OK.out _ HBW.out.drew) (fun hHeld => ?_)
  refine takeH (d := some 39) (v := ?_) 0 rfl rfl (by kernel_rfl) (by kernel_rfl) (by kernel_rfl) (fun _ _ _ h => h) (by rfl) ?_ hHeld ?_
  rotate_left
  · intro w hSw
    try dsimp only at hSw
    go_simp <;> with_reducible rfl
  try simp only [Act.put, List.setIfInBounds_toArray, List.set_cons_zero, List.set_cons_succ]
  refine takeH (d := some 40) (v := ?_) 1 rfl rfl (by kernel_rfl) (by kernel_rfl) (by kernel_rfl) (fun _ _ _ h => h) (by rfl) ?_ hHeld ?_
  rotate_left
  · intro w hSw
    try dsimp only at hSw
    go_simp <;> with_reducible rfl
  try simp only [Act.put, List.setIfInBounds_toArray, List.set_cons_zero, List.set_cons_succ]
  refine takeH (d := some 41) (v := ?_) 2 rfl rfl (by kernel_rfl) (by kernel_rfl) (by kernel_rfl) (fun _ _ _ h => h) (by rfl) ?_ hHeld ?_
  rotate_left
  · intro w hSw
    try dsimp only at hSw
    go_simp <;> with_reducible rfl
  try simp only [Act.put, List.setIfInBounds_toArray, List.set_cons_zero, List.set_cons_succ]
  refine takeH (d := some 42) (v := ?_) 3 rfl rfl (by kernel_rfl) (by kernel_rfl) (by kernel_rfl) (fun _ _ _ h => h) (by rfl) ?_ hHeld ?_
  rotate_left
  · intro w hSw
    try dsimp only at hSw
    go_simp <;> with_reducible rfl
  try simp only [Act.put, List.setIfInBounds_toArray, List.set_cons_zero, List.set_cons_succ]
  refine takeH (d := some 43) (v := ?_) 4 rfl rfl (by kernel_rfl) (by kernel_rfl) (by kernel_rfl) (fun _ _ _ h => h) (by rfl) ?_ hHeld ?_
  rotate_left
  · intro w hSw
    try dsimp only at hSw
    go_simp <;> with_reducible rfl
  try simp only [Act.put, List.setIfInBounds_toArray, List.set_cons_zero, List.set_cons_succ]
  refine takeH (d := some 44) (v := ?_) 5 rfl rfl (by kernel_rfl) (by kernel_rfl) (by kernel_rfl) (fun _ _ _ h => h) (by rfl) ?_ hHeld ?_
  rotate_left
  · intro w hSw
    try dsimp only at hSw
    go_simp <;> with_reducible rfl
  try simp only [Act.put, List.setIfInBounds_toArray, List.set_cons_zero, List.set_cons_succ]
  refine takeH (d := some 45) (v := ?_) 6 rfl rfl (by kernel_rfl) (by kernel_rfl) (by kernel_rfl) (fun _ _ _ h => h) (by rfl) ?_ hHeld ?_
  rotate_left
  · intro w hSw
    try dsimp only at hSw
    go_simp <;> with_reducible rfl
  try simp only [Act.put, List.setIfInBounds_toArray, List.set_cons_zero, List.set_cons_succ]
  refine takeH (d := some 46) (v := ?_) 7 rfl rfl (by kernel_rfl) (by kernel_rfl) (by kernel_rfl) (fun _ _ _ h => h) (by rfl) ?_ hHeld ?_
  rotate_left
  · intro w hSw
    try dsimp only at hSw
    go_simp <;> with_reducible rfl
  try simp only [Act.put, List.setIfInBounds_toArray, List.set_cons_zero, List.set_cons_succ]
  refine wpAnyH_ready (rs := [8]) (by kernel_rfl) (by simp) ?_
  refine AllReadyH.cons rfl (fun K hK => ?_) AllReadyH.nil
  go_simp
  refine (IH.out x' x _ _ _ HM.out.1 CP.out CQ.out (TX'.out.below HBW.out.drew) (TX.out.below HBW.out.drew)).1.mono ?_
  rw [R1.out]
  rintro e w2 ⟨rfl, hB⟩
  have HB2 := Aside0.mk (below_then HBW.out.drew HBW.out.drew.size hB)
  clear hB
  refine hK.out _ _ (OK.out _ HB2.out) (fun hHeld => ?_)
  clear hK K
  try simp only [Act.put, List.setIfInBounds_toArray, List.set_cons_zero, List.set_cons_succ]
  refine takeH (d := some 48) (v := ?_) 9 rfl rfl (by kernel_rfl) (by kernel_rfl) (by kernel_rfl) (fun _ _ _ h => h) (by rfl) ?_ hHeld ?_
  rotate_left
  · intro w hSw
    try dsimp only at hSw
    go_simp <;> with_reducible rfl
  try simp only [Act.put, List.setIfInBounds_toArray, List.set_cons_zero, List.set_cons_succ]
  refine takeH (d := some 49) (v := ?_) 10 rfl rfl (by kernel_rfl) (by kernel_rfl) (by kernel_rfl) (fun _ _ _ h => h) (by rfl) ?_ hHeld ?_
  rotate_left
  · intro w hSw
    try dsimp only at hSw
    go_simp <;> with_reducible rfl
  try simp only [Act.put, List.setIfInBounds_toArray, List.set_cons_zero, List.set_cons_succ]
  refine takeH (d := some 50) (v := ?_) 11 rfl rfl (by kernel_rfl) (by kernel_rfl) (by kernel_rfl) (fun _ _ _ h => h) (by rfl) ?_ hHeld ?_
  rotate_left
  · intro w hSw
    try dsimp only at hSw
    go_simp <;> with_reducible rfl
  try simp only [Act.put, List.setIfInBounds_toArray, List.set_cons_zero, List.set_cons_succ]
  refine takeH (d := some 51) (v := ?_) 12 rfl rfl (by kernel_rfl) (by kernel_rfl) (by kernel_rfl) (fun _ _ _ h => h) (by rfl) ?_ hHeld ?_
  rotate_left
  · intro w hSw
    try dsimp only at hSw
    go_simp <;> with_reducible rfl
  try simp only [Act.put, List.setIfInBounds_toArray, List.set_cons_zero, List.set_cons_succ]
  refine takeH (d := some 52) (v := ?_) 13 rfl rfl (by kernel_rfl) (by kernel_rfl) (by kernel_rfl) (fun _ _ _ h => h) (by rfl) ?_ hHeld ?_
  rotate_left
  · intro w hSw
    try dsimp only at hSw
    go_simp <;> with_reducible rfl
  try simp only [Act.put, List.setIfInBounds_toArray, List.set_cons_zero, List.set_cons_succ]
  refine takeH (d := some 53) (v := ?_) 14 rfl rfl (by kernel_rfl) (by kernel_rfl) (by kernel_rfl) (fun _ _ _ h => h) (by rfl) ?_ hHeld ?_
  rotate_left
  · intro w hSw
    try dsimp only at hSw
    go_simp <;> with_reducible rfl
  try simp only [Act.put, List.setIfInBounds_toArray, List.set_cons_zero, List.set_cons_succ]
  refine takeH (d := some 54) (v := ?_) 15 rfl rfl (by kernel_rfl) (by kernel_rfl) (by kernel_rfl) (fun _ _ _ h => h) (by rfl) ?_ hHeld ?_
  rotate_left
  · intro w hSw
    try dsimp only at hSw
    go_simp <;> with_reducible rfl
  try simp only [Act.put, List.setIfInBounds_toArray, List.set_cons_zero, List.set_cons_succ]
  refine takeH (d := some 55) (v := ?_) 16 rfl rfl (by kernel_rfl) (by kernel_rfl) (by kernel_rfl) (fun _ _ _ h => h) (by rfl) ?_ hHeld ?_
  rotate_left
  · intro w hSw
    try dsimp only at hSw
    go_simp <;> with_reducible rfl
  try simp only [Act.put, List.setIfInBounds_toArray, List.set_cons_zero, List.set_cons_succ]
  refine takeH (d := some 56) (v := ?_) 17 rfl rfl (by kernel_rfl) (by kernel_rfl) (by kernel_rfl) (fun _ _ _ h => h) (by rfl) ?_ hHeld ?_
  rotate_left
  · intro w hSw
    try dsimp only at hSw
    go_simp <;> with_reducible rfl
  try simp only [Act.put, List.setIfInBounds_toArray, List.set_cons_zero, List.set_cons_succ]
  refine wpAnyH_ready (rs := [18]) (by kernel_rfl) (by simp) ?_
  refine AllReadyH.cons rfl (fun K hK => ?_) AllReadyH.nil
  go_simp
  refine (IH.out y y' _ _ _ HM.out.2 CY.out CY'.out (TY.out.below HB2.out) (TY'.out.below HB2.out)).1.mono ?_
  rw [R2.out]
  rintro e w3 ⟨rfl, hB⟩
  have HB3 := Aside0.mk (below_then HB2.out HB2.out.size hB)
  clear hB
  refine hK.out _ _ (OK.out _ HB3.out) (fun hHeld => ?_)
  clear hK K
  try simp only [Act.put, List.setIfInBounds_toArray, List.set_cons_zero, List.set_cons_succ]
  refine takeH (d := some 58) (v := ?_) 19 rfl rfl (by kernel_rfl) (by kernel_rfl) (by kernel_rfl) (fun _ _ _ h => h) (by rfl) ?_ hHeld ?_
  rotate_left
  · intro w hSw
    try dsimp only at hSw
    go_simp <;> with_reducible rfl
  try simp only [Act.put, List.setIfInBounds_toArray, List.set_cons_zero, List.set_cons_succ]
  refine takeH (d := some 4) (v := ?_) 20 rfl rfl (by kernel_rfl) (by kernel_rfl) (by kernel_rfl) (fun _ _ _ h => h) (by rfl) ?_ hHeld ?_
  rotate_left
  · intro w hSw
    try dsimp only at hSw
    go_simp <;> with_reducible rfl
  try simp only [Act.put, List.setIfInBounds_toArray, List.set_cons_zero, List.set_cons_succ]
  refine wpAnyH_done (by kernel_rfl) ?_ _
  go_wp2_with fail
  go_ret
  exact ⟨rfl, below_then HB.out HB.out.size HB3.out⟩
set_option maxRecDepth 100000 in
set_option maxHeartbeats 1600000 in
theorem b69_two_no (n : Nat) (k : Int) (x y x' y' : S26) (ad bd : Addr) (c d : Nat) (Bx By Bx' By' : Option Addr) (dx dy dx' dy' : Nat) (r2 : Bool) (w : World) (IH : Aside0 (R3 n)) (HM : Aside0 (mu x x' < n ∧ mu y y' < n)) (CP : Aside0 (checkI x = 0)) (CQ : Aside0 (checkI x' = 0)) (CY : Aside0 (checkI y = 0)) (CY' : Aside0 (checkI y' = 0))
    (TX : Aside0 (IsT w (.agg #[.int .i8 x.f0, .slice Bx x.f1.length dx]) x)) (TY : Aside0 (IsT w (.agg #[.int .i8 y.f0, .slice By y.f1.length dy]) y)) (TX' : Aside0 (IsT w (.agg #[.int .i8 x'.f0, .slice Bx' x'.f1.length dx']) x')) (TY' : Aside0 (IsT w (.agg #[.int .i8 y'.f0, .slice By' y'.f1.length dy']) y'))
    (EA : Aside0 (w.cell? ad = some (.int .i8 x.f0) ∧ w.cell? ⟨ad.block, ad.off + 1, none⟩ = some (.slice Bx x.f1.length dx) ∧ w.cell? ⟨ad.block, ad.off + 2, none⟩ = some (.int .i8 y.f0) ∧ w.cell? ⟨ad.block, ad.off + 2 + 1, none⟩ = some (.slice By y.f1.length dy))) (EB : Aside0 (w.cell? bd = some (.int .i8 x'.f0) ∧ w.cell? ⟨bd.block, bd.off + 1, none⟩ = some (.slice Bx' x'.f1.length dx') ∧ w.cell? ⟨bd.block, bd.off + 2, none⟩ = some (.int .i8 y'.f0) ∧ w.cell? ⟨bd.block, bd.off + 2 + 1, none⟩ = some (.slice By' y'.f1.length dy'))) (e0 : (k == 0) = false) (e1 : (k == 1) = false) (e2 : (k == 2) = false) (e3 : (k == 3) = false)
    (R1 : Aside0 (bel 0 x x' = false)) (R2 : Aside0 (bel 0 y y' = r2)) :
    Calls Try.prog 69 #[.agg #[.int .i8 k, .slice (some ad) 2 c], .agg #[.int .i8 k, .slice (some bd) 2 d]] w (BPost false w) := by
  go_enter Try.func69, Try.ntmps69
  go_wp2_with fail
  have hW := below2 w #[.int .i8 k, .slice (some ad) 2 c] #[.int .i8 k, .slice (some bd) 2 d] 26 26
  have k1 := blk_alloc (heap_alloc_new w (.cells #[.int .i8 k, .slice (some ad) 2 c] 26)) (.cells #[.int .i8 k, .slice (some bd) 2 d] 26)
  have k2 := new2 w (.cells #[.int .i8 k, .slice (some ad) 2 c] 26) #[.int .i8 k, .slice (some bd) 2 d] 26
  generalize (w.alloc (.cells #[.int .i8 k, .slice (some ad) 2 c] 26)).alloc (.cells #[.int .i8 k, .slice (some bd) 2 d] 26) = W at *
  replace TX := Aside0.mk (IsT.below TX.out hW)
  replace TY := Aside0.mk (IsT.below TY.out hW)
  replace TX' := Aside0.mk (IsT.below TX'.out hW)
  replace TY' := Aside0.mk (IsT.below TY'.out hW)
  have HB := Aside0.mk hW
  have f1 : W.cell? ⟨w.heap.size, 1, none⟩ = some (.slice (some ad) 2 c) := (blk_cell k1 1).trans rfl
  have f2 : W.cell? ⟨w.heap.size + 1, 1, none⟩ = some (.slice (some bd) 2 d) := (blk_cell k2 1).trans rfl
  have ok : ∀ w' : World, Below W.heap.size W w' → (w'.cell? ⟨w.heap.size, 1, none⟩ = some (.slice (some ad) 2 c) ∧ w'.cell? ⟨w.heap.size + 1, 1, none⟩ = some (.slice (some bd) 2 d) ∧ (w'.cell? ad = some (.int .i8 x.f0) ∧ w'.cell? ⟨ad.block, ad.off + 1, none⟩ = some (.slice Bx x.f1.length dx) ∧ w'.cell? ⟨ad.block, ad.off + 2, none⟩ = some (.int .i8 y.f0) ∧ w'.cell? ⟨ad.block, ad.off + 2 + 1, none⟩ = some (.slice By y.f1.length dy)) ∧ (w'.cell? bd = some (.int .i8 x'.f0) ∧ w'.cell? ⟨bd.block, bd.off + 1, none⟩ = some (.slice Bx' x'.f1.length dx') ∧ w'.cell? ⟨bd.block, bd.off + 2, none⟩ = some (.int .i8 y'.f0) ∧ w'.cell? ⟨bd.block, bd.off + 2 + 1, none⟩ = some (.slice By' y'.f1.length dy'))) := fun w' h => ⟨pw_cell_below h f1, pw_cell_below h f2, four_of (four_of EA.out hW) h, four_of (four_of EB.out hW) h⟩
  have OK := Aside0.mk ok
  have HBW := Aside0.mk (Below.refl W.heap.size W)
  clear ok f1 f2 k1 k2 EA EB hW
  refine wp_region_held_drew (S := (fun w' => (w'.cell? ⟨w.heap.size, 1, none⟩ = some (.slice (some ad) 2 c) ∧ w'.cell? ⟨w.heap.size + 1, 1, none⟩ = some (.slice (some bd) 2 d) ∧ (w'.cell? ad = some (.int .i8 x.f0) ∧ w'.cell? ⟨ad.block, ad.off + 1, none⟩ = some (.slice Bx x.f1.length dx) ∧ w'.cell? ⟨ad.block, ad.off + 2, none⟩ = some (.int .i8 y.f0) ∧ w'.cell? ⟨ad.block, ad.off + 2 + 1, none⟩ = some (.slice By y.f1.length dy)) ∧ (w'.cell? bd = some (.int .i8 x'.f0) ∧ w'.cell? ⟨bd.block, bd.off + 1, none⟩ = some (.slice Bx' x'.f1.length dx') ∧ w'.cell? ⟨bd.block, bd.off + 2, none⟩ = some (.int .i8 y'.f0) ∧ w'.cell? ⟨bd.block, bd.off + 2 + 1, none⟩ = some (.slice By' y'.f1.length dy'))))) (by kernel_rfl) (OK.out _ HBW.out.drew) (fun hHeld => ?_)
  refine takeH (d := some 59) (v := ?_) 0 rfl rfl (by kernel_rfl) (by kernel_rfl) (by kernel_rfl) (fun _ _ _ h => h) (by rfl) ?_ hHeld ?_
  rotate_left
  · intro w hSw
    try dsimp only at hSw
    go_simp <;> with_reducible rfl
  try simp only [Act.put, List.setIfInBounds_toArray, List.set_cons_zero, List.set_cons_succ]
  refine takeH (d := some 60) (v := ?_) 1 rfl rfl (by kernel_rfl) (by kernel_rfl) (by kernel_rfl) (fun _ _ _ h => h) (by rfl) ?_ hHeld ?_
  rotate_left
  · intro w hSw
    try dsimp only at hSw
    go_simp <;> with_reducible rfl
  try simp only [Act.put, List.setIfInBounds_toArray, List.set_cons_zero, List.set_cons_succ]
  refine takeH (d := some 61) (v := ?_) 2 rfl rfl (by kernel_rfl) (by kernel_rfl) (by kernel_rfl) (fun _ _ _ h => h) (by rfl) ?_ hHeld ?_
  rotate_left
  · intro w hSw
    try dsimp only at hSw
    go_simp <;> with_reducible rfl
  try simp only [Act.put, List.setIfInBounds_toArray, List.set_cons_zero, List.set_cons_succ]
  refine takeH (d := some 62) (v := ?_) 3 rfl rfl (by kernel_rfl) (by kernel_rfl) (by kernel_rfl) (fun _ _ _ h => h) (by rfl) ?_ hHeld ?_
  rotate_left
  · intro w hSw
    try dsimp only at hSw
    go_simp <;> with_reducible rfl
  try simp only [Act.put, List.setIfInBounds_toArray, List.set_cons_zero, List.set_cons_succ]
  refine takeH (d := some 63) (v := ?_) 4 rfl rfl (by kernel_rfl) (by kernel_rfl) (by kernel_rfl) (fun _ _ _ h => h) (by rfl) ?_ hHeld ?_
  rotate_left
  · intro w hSw
    try dsimp only at hSw
    go_simp <;> with_reducible rfl
  try simp only [Act.put, List.setIfInBounds_toArray, List.set_cons_zero, List.set_cons_succ]
  refine takeH (d := some 64) (v := ?_) 5 rfl rfl (by kernel_rfl) (by kernel_rfl) (by kernel_rfl) (fun _ _ _ h => h) (by rfl) ?_ hHeld ?_
  rotate_left
  · intro w hSw
    try dsimp only at hSw
    go_simp <;> with_reducible rfl
  try simp only [Act.put, List.setIfInBounds_toArray, List.set_cons_zero, List.set_cons_succ]
  refine takeH (d := some 65) (v := ?_) 6 rfl rfl (by kernel_rfl) (by kernel_rfl) (by kernel_rfl) (fun _ _ _ h => h) (by rfl) ?_ hHeld ?_
  rotate_left
  · intro w hSw
    try dsimp only at hSw
    go_simp <;> with_reducible rfl
  try simp only [Act.put, List.setIfInBounds_toArray, List.set_cons_zero, List.set_cons_succ]
  refine takeH (d := some 66) (v := ?_) 7 rfl rfl (by kernel_rfl) (by kernel_rfl) (by kernel_rfl) (fun _ _ _ h => h) (by rfl) ?_ hHeld ?_
  rotate_left
  · intro w hSw
    try dsimp only at hSw
    go_simp <;> with_reducible rfl
  try simp only [Act.put, List.setIfInBounds_toArray, List.set_cons_zero, List.set_cons_succ]
  refine wpAnyH_ready (rs := [8]) (by kernel_rfl) (by simp) ?_
  refine AllReadyH.cons rfl (fun K hK => ?_) AllReadyH.nil
  go_simp
  refine (IH.out x x' _ _ _ HM.out.1 CP.out CQ.out (TX.out.below HBW.out.drew) (TX'.out.below HBW.out.drew)).1.mono ?_
  rw [R1.out]
  rintro e w2 ⟨rfl, hB⟩
  have HB2 := Aside0.mk (below_then HBW.out.drew HBW.out.drew.size hB)
  clear hB
  refine hK.out _ _ (OK.out _ HB2.out) (fun hHeld => ?_)
  clear hK K
  try simp only [Act.put, List.setIfInBounds_toArray, List.set_cons_zero, List.set_cons_succ]
  refine takeH (d := some 68) (v := ?_) 9 rfl rfl (by kernel_rfl) (by kernel_rfl) (by kernel_rfl) (fun _ _ _ h => h) (by rfl) ?_ hHeld ?_
  rotate_left
  · intro w hSw
    try dsimp only at hSw
    go_simp <;> with_reducible rfl
  try simp only [Act.put, List.setIfInBounds_toArray, List.set_cons_zero, List.set_cons_succ]
  refine passH (d := some 69) 10 rfl rfl (by kernel_rfl) (by kernel_rfl) (by kernel_rfl) (fun _ _ _ h => h) (by rfl) hHeld ?_
  try simp only [Act.put, List.setIfInBounds_toArray, List.set_cons_zero, List.set_cons_succ]
  refine passH (d := some 70) 11 rfl rfl (by kernel_rfl) (by kernel_rfl) (by kernel_rfl) (fun _ _ _ h => h) (by rfl) hHeld ?_
  try simp only [Act.put, List.setIfInBounds_toArray, List.set_cons_zero, List.set_cons_succ]
  refine passH (d := some 71) 12 rfl rfl (by kernel_rfl) (by kernel_rfl) (by kernel_rfl) (fun _ _ _ h => h) (by rfl) hHeld ?_
  try simp only [Act.put, List.setIfInBounds_toArray, List.set_cons_zero, List.set_cons_succ]
  refine passH (d := some 72) 13 rfl rfl (by kernel_rfl) (by kernel_rfl) (by kernel_rfl) (fun _ _ _ h => h) (by rfl) hHeld ?_
  try simp only [Act.put, List.setIfInBounds_toArray, List.set_cons_zero, List.set_cons_succ]
  refine passH (d := some 73) 14 rfl rfl (by kernel_rfl) (by kernel_rfl) (by kernel_rfl) (fun _ _ _ h => h) (by rfl) hHeld ?_
  try simp only [Act.put, List.setIfInBounds_toArray, List.set_cons_zero, List.set_cons_succ]
  refine passH (d := some 74) 15 rfl rfl (by kernel_rfl) (by kernel_rfl) (by kernel_rfl) (fun _ _ _ h => h) (by rfl) hHeld ?_
  try simp only [Act.put, List.setIfInBounds_toArray, List.set_cons_zero, List.set_cons_succ]
  refine passH (d := some 75) 16 rfl rfl (by kernel_rfl) (by kernel_rfl) (by kernel_rfl) (fun _ _ _ h => h) (by rfl) hHeld ?_
  try simp only [Act.put, List.setIfInBounds_toArray, List.set_cons_zero, List.set_cons_succ]
  refine passH (d := some 76) 17 rfl rfl (by kernel_rfl) (by kernel_rfl) (by kernel_rfl) (fun _ _ _ h => h) (by rfl) hHeld ?_
  try simp only [Act.put, List.setIfInBounds_toArray, List.set_cons_zero, List.set_cons_succ]
  refine passH (d := some 77) 18 rfl rfl (by kernel_rfl) (by kernel_rfl) (by kernel_rfl) (fun _ _ _ h => h) (by rfl) hHeld ?_
  try simp only [Act.put, List.setIfInBounds_toArray, List.set_cons_zero, List.set_cons_succ]
  refine takeH (d := some 78) (v := ?_) 19 rfl rfl (by kernel_rfl) (by kernel_rfl) (by kernel_rfl) (fun _ _ _ h => h) (by rfl) ?_ hHeld ?_
  rotate_left
  · intro w hSw
    try dsimp only at hSw
    go_simp <;> with_reducible rfl
  try simp only [Act.put, List.setIfInBounds_toArray, List.set_cons_zero, List.set_cons_succ]
  refine takeH (d := some 4) (v := ?_) 20 rfl rfl (by kernel_rfl) (by kernel_rfl) (by kernel_rfl) (fun _ _ _ h => h) (by rfl) ?_ hHeld ?_
  rotate_left
  · intro w hSw
    try dsimp only at hSw
    go_simp <;> with_reducible rfl
  try simp only [Act.put, List.setIfInBounds_toArray, List.set_cons_zero, List.set_cons_succ]
  refine wpAnyH_done (by kernel_rfl) ?_ _
  go_wp2_with fail
  go_ret
  exact ⟨rfl, below_then HB.out HB.out.size HB2.out⟩
set_option maxRecDepth 100000 in
set_option maxHeartbeats 1600000 in
theorem b69_two_yes (n : Nat) (k : Int) (x y x' y' : S26) (ad bd : Addr) (c d : Nat) (Bx By Bx' By' : Option Addr) (dx dy dx' dy' : Nat) (r2 : Bool) (w : World) (IH : Aside0 (R3 n)) (HM : Aside0 (mu x x' < n ∧ mu y y' < n)) (CP : Aside0 (checkI x = 0)) (CQ : Aside0 (checkI x' = 0)) (CY : Aside0 (checkI y = 0)) (CY' : Aside0 (checkI y' = 0))
    (TX : Aside0 (IsT w (.agg #[.int .i8 x.f0, .slice Bx x.f1.length dx]) x)) (TY : Aside0 (IsT w (.agg #[.int .i8 y.f0, .slice By y.f1.length dy]) y)) (TX' : Aside0 (IsT w (.agg #[.int .i8 x'.f0, .slice Bx' x'.f1.length dx']) x')) (TY' : Aside0 (IsT w (.agg #[.int .i8 y'.f0, .slice By' y'.f1.length dy']) y'))
    (EA : Aside0 (w.cell? ad = some (.int .i8 x.f0) ∧ w.cell? ⟨ad.block, ad.off + 1, none⟩ = some (.slice Bx x.f1.length dx) ∧ w.cell? ⟨ad.block, ad.off + 2, none⟩ = some (.int .i8 y.f0) ∧ w.cell? ⟨ad.block, ad.off + 2 + 1, none⟩ = some (.slice By y.f1.length dy))) (EB : Aside0 (w.cell? bd = some (.int .i8 x'.f0) ∧ w.cell? ⟨bd.block, bd.off + 1, none⟩ = some (.slice Bx' x'.f1.length dx') ∧ w.cell? ⟨bd.block, bd.off + 2, none⟩ = some (.int .i8 y'.f0) ∧ w.cell? ⟨bd.block, bd.off + 2 + 1, none⟩ = some (.slice By' y'.f1.length dy'))) (e0 : (k == 0) = false) (e1 : (k == 1) = false) (e2 : (k == 2) = false) (e3 : (k == 3) = false)
    (R1 : Aside0 (bel 0 x x' = true)) (R2 : Aside0 (bel 0 y y' = r2)) :
    Calls Try.prog 69 #[.agg #[.int .i8 k, .slice (some ad) 2 c], .agg #[.int .i8 k, .slice (some bd) 2 d]] w (BPost r2 w) := by
  go_enter Try.func69, Try.ntmps69
  go_wp2_with fail
  have hW := below2 w #[.int .i8 k, .slice (some ad) 2 c] #[.int .i8 k, .slice (some bd) 2 d] 26 26
  have k1 := blk_alloc (heap_alloc_new w (.cells #[.int .i8 k, .slice (some ad) 2 c] 26)) (.cells #[.int .i8 k, .slice (some bd) 2 d] 26)
  have k2 := new2 w (.cells #[.int .i8 k, .slice (some ad) 2 c] 26) #[.int .i8 k, .slice (some bd) 2 d] 26
  generalize (w.alloc (.cells #[.int .i8 k, .slice (some ad) 2 c] 26)).alloc (.cells #[.int .i8 k, .slice (some bd) 2 d] 26) = W at *
  replace TX := Aside0.mk (IsT.below TX.out hW)
  replace TY := Aside0.mk (IsT.below TY.out hW)
  replace TX' := Aside0.mk (IsT.below TX'.out hW)
  replace TY' := Aside0.mk (IsT.below TY'.out hW)
  have HB := Aside0.mk hW
  have f1 : W.cell? ⟨w.heap.size, 1, none⟩ = some (.slice (some ad) 2 c) := (blk_cell k1 1).trans rfl
  have f2 : W.cell? ⟨w.heap.size + 1, 1, none⟩ = some (.slice (some bd) 2 d) := (blk_cell k2 1).trans rfl
  have ok : ∀ w' : World, Below W.heap.size W w' → (w'.cell? ⟨w.heap.size, 1, none⟩ = some (.slice (some ad) 2 c) ∧ w'.cell? ⟨w.heap.size + 1, 1, none⟩ = some (.slice (some bd) 2 d) ∧ (w'.cell? ad = some (.int .i8 x.f0) ∧ w'.cell? ⟨ad.block, ad.off + 1, none⟩ = some (.slice Bx x.f1.length dx) ∧ w'.cell? ⟨ad.block, ad.off + 2, none⟩ = some (.int .i8 y.f0) ∧ w'.cell? ⟨ad.block, ad.off + 2 + 1, none⟩ = some (.slice By y.f1.length dy)) ∧ (w'.cell? bd = some (.int .i8 x'.f0) ∧ w'.cell? ⟨bd.block, bd.off + 1, none⟩ = some (.slice Bx' x'.f1.length dx') ∧ w'.cell? ⟨bd.block, bd.off + 2, none⟩ = some (.int .i8 y'.f0) ∧ w'.cell? ⟨bd.block, bd.off + 2 + 1, none⟩ = some (.slice By' y'.f1.length dy'))) := fun w' h => ⟨pw_cell_below h f1, pw_cell_below h f2, four_of (four_of EA.out hW) h, four_of (four_of EB.out hW) h⟩
  have OK := Aside0.mk ok
  have HBW := Aside0.mk (Below.refl W.heap.size W)
  clear ok f1 f2 k1 k2 EA EB hW
  refine wp_region_held_drew (S := (fun w' => (w'.cell? ⟨w.heap.size, 1, none⟩ = some (.slice (some ad) 2 c) ∧ w'.cell? ⟨w.heap.size + 1, 1, none⟩ = some (.slice (some bd) 2 d) ∧ (w'.cell? ad = some (.int .i8 x.f0) ∧ w'.cell? ⟨ad.block, ad.off + 1, none⟩ = some (.slice Bx x.f1.length dx) ∧ w'.cell? ⟨ad.block, ad.off + 2, none⟩ = some (.int .i8 y.f0) ∧ w'.cell? ⟨ad.block, ad.off + 2 + 1, none⟩ = some (.slice By y.f1.length dy)) ∧ (w'.cell? bd = some (.int .i8 x'.f0) ∧ w'.cell? ⟨bd.block, bd.off + 1, none⟩ = some (.slice Bx' x'.f1.length dx') ∧ w'.cell? ⟨bd.block, bd.off + 2, none⟩ = some (.int .i8 y'.f0) ∧ w'.cell? ⟨bd.block, bd.off + 2 + 1, none⟩ = some (.slice By' y'.f1.length dy'))))) (by kernel_rfl) (OK.out _ HBW.out.drew) (fun hHeld => ?_)
  refine takeH (d := some 59) (v := ?_) 0 rfl rfl (by kernel_rfl) (by kernel_rfl) (by kernel_rfl) (fun _ _ _ h => h) (by rfl) ?_ hHeld ?_
  rotate_left
  · intro w hSw
    try dsimp only at hSw
    go_simp <;> with_reducible rfl
  try simp only [Act.put, List.setIfInBounds_toArray, List.set_cons_zero, List.set_cons_succ]
  refine takeH (d := some 60) (v := ?_) 1 rfl rfl (by kernel_rfl) (by kernel_rfl) (by kernel_rfl) (fun _ _ _ h => h) (by rfl) ?_ hHeld ?_
  rotate_left
  · intro w hSw
    try dsimp only at hSw
    go_simp <;> with_reducible rfl
  try simp only [Act.put, List.setIfInBounds_toArray, List.set_cons_zero, List.set_cons_succ]
  refine takeH (d := some 61) (v := ?_) 2 rfl rfl (by kernel_rfl) (by kernel_rfl) (by kernel_rfl) (fun _ _ _ h => h) (by rfl) ?_ hHeld ?_
  rotate_left
  · intro w hSw
    try dsimp only at hSw
    go_simp <;> with_reducible rfl
  try simp only [Act.put, List.setIfInBounds_toArray, List.set_cons_zero, List.set_cons_succ]
  refine takeH (d := some 62) (v := ?_) 3 rfl rfl (by kernel_rfl) (by kernel_rfl) (by kernel_rfl) (fun _ _ _ h => h) (by rfl) ?_ hHeld ?_
  rotate_left
  · intro w hSw
    try dsimp only at hSw
    go_simp <;> with_reducible rfl
  try simp only [Act.put, List.setIfInBounds_toArray, List.set_cons_zero, List.set_cons_succ]
  refine takeH (d := some 63) (v := ?_) 4 rfl rfl (by kernel_rfl) (by kernel_rfl) (by kernel_rfl) (fun _ _ _ h => h) (by rfl) ?_ hHeld ?_
  rotate_left
  · intro w hSw
    try dsimp only at hSw
    go_simp <;> with_reducible rfl
  try simp only [Act.put, List.setIfInBounds_toArray, List.set_cons_zero, List.set_cons_succ]
  refine takeH (d := some 64) (v := ?_) 5 rfl rfl (by kernel_rfl) (by kernel_rfl) (by kernel_rfl) (fun _ _ _ h => h) (by rfl) ?_ hHeld ?_
  rotate_left
  · intro w hSw
    try dsimp only at hSw
    go_simp <;> with_reducible rfl
  try simp only [Act.put, List.setIfInBounds_toArray, List.set_cons_zero, List.set_cons_succ]
  refine takeH (d := some 65) (v := ?_) 6 rfl rfl (by kernel_rfl) (by kernel_rfl) (by kernel_rfl) (fun _ _ _ h => h) (by rfl) ?_ hHeld ?_
  rotate_left
  · intro w hSw
    try dsimp only at hSw
    go_simp <;> with_reducible rfl
  try simp only [Act.put, List.setIfInBounds_toArray, List.set_cons_zero, List.set_cons_succ]
  refine takeH (d := some 66) (v := ?_) 7 rfl rfl (by kernel_rfl) (by kernel_rfl) (by kernel_rfl) (fun _ _ _ h => h) (by rfl) ?_ hHeld ?_
  rotate_left
  · intro w hSw
    try dsimp only at hSw
    go_simp <;> with_reducible rfl
  try simp only [Act.put, List.setIfInBounds_toArray, List.set_cons_zero, List.set_cons_succ]
  refine wpAnyH_ready (rs := [8]) (by kernel_rfl) (by simp) ?_
  refine AllReadyH.cons rfl (fun K hK => ?_) AllReadyH.nil
  go_simp
  refine (IH.out x x' _ _ _ HM.out.1 CP.out CQ.out (TX.out.below HBW.out.drew) (TX'.out.below HBW.out.drew)).1.mono ?_
  rw [R1.out]
  rintro e w2 ⟨rfl, hB⟩
  have HB2 := Aside0.mk (below_then HBW.out.drew HBW.out.drew.size hB)
  clear hB
  refine hK.out _ _ (OK.out _ HB2.out) (fun hHeld => ?_)
  clear hK K
  try simp only [Act.put, List.setIfInBounds_toArray, List.set_cons_zero, List.set_cons_succ]
  refine takeH (d := some 68) (v := ?_) 9 rfl rfl (by kernel_rfl) (by kernel_rfl) (by kernel_rfl) (fun _ _ _ h => h) (by rfl) ?_ hHeld ?_
  rotate_left
  · intro w hSw
    try dsimp only at hSw
    go_simp <;> with_reducible rfl
  try simp only [Act.put, List.setIfInBounds_toArray, List.set_cons_zero, List.set_cons_succ]
  refine takeH (d := some 69) (v := ?_) 10 rfl rfl (by kernel_rfl) (by kernel_rfl) (by kernel_rfl) (fun _ _ _ h => h) (by rfl) ?_ hHeld ?_
  rotate_left
  · intro w hSw
    try dsimp only at hSw
    go_simp <;> with_reducible rfl
  try simp only [Act.put, List.setIfInBounds_toArray, List.set_cons_zero, List.set_cons_succ]
  refine takeH (d := some 70) (v := ?_) 11 rfl rfl (by kernel_rfl) (by kernel_rfl) (by kernel_rfl) (fun _ _ _ h => h) (by rfl) ?_ hHeld ?_
  rotate_left
  · intro w hSw
    try dsimp only at hSw
    go_simp <;> with_reducible rfl
  try simp only [Act.put, List.setIfInBounds_toArray, List.set_cons_zero, List.set_cons_succ]
  refine takeH (d := some 71) (v := ?_) 12 rfl rfl (by kernel_rfl) (by kernel_rfl) (by kernel_rfl) (fun _ _ _ h => h) (by rfl) ?_ hHeld ?_
  rotate_left
  · intro w hSw
    try dsimp only at hSw
    go_simp <;> with_reducible rfl
  try simp only [Act.put, List.setIfInBounds_toArray, List.set_cons_zero, List.set_cons_succ]
  refine takeH (d := some 72) (v := ?_) 13 rfl rfl (by kernel_rfl) (by kernel_rfl) (by kernel_rfl) (fun _ _ _ h => h) (by rfl) ?_ hHeld ?_
  rotate_left
  · intro w hSw
    try dsimp only at hSw
    go_simp <;> with_reducible rfl
  try simp only [Act.put, List.setIfInBounds_toArray, List.set_cons_zero, List.set_cons_succ]
  refine takeH (d := some 73) (v := ?_) 14 rfl rfl (by kernel_rfl) (by kernel_rfl) (by kernel_rfl) (fun _ _ _ h => h) (by rfl) ?_ hHeld ?_
  rotate_left
  · intro w hSw
    try dsimp only at hSw
    go_simp <;> with_reducible rfl
  try simp only [Act.put, List.setIfInBounds_toArray, List.set_cons_zero, List.set_cons_succ]
  refine takeH (d := some 74) (v := ?_) 15 rfl rfl (by kernel_rfl) (by kernel_rfl) (by kernel_rfl) (fun _ _ _ h => h) (by rfl) ?_ hHeld ?_
  rotate_left
  · intro w hSw
    try dsimp only at hSw
    go_simp <;> with_reducible rfl
  try simp only [Act.put, List.setIfInBounds_toArray, List.set_cons_zero, List.set_cons_succ]
  refine takeH (d := some 75) (v := ?_) 16 rfl rfl (by kernel_rfl) (by kernel_rfl) (by kernel_rfl) (fun _ _ _ h => h) (by rfl) ?_ hHeld ?_
  rotate_left
  · intro w hSw
    try dsimp only at hSw
    go_simp <;> with_reducible rfl
  try simp only [Act.put, List.setIfInBounds_toArray, List.set_cons_zero, List.set_cons_succ]
  refine takeH (d := some 76) (v := ?_) 17 rfl rfl (by kernel_rfl) (by kernel_rfl) (by kernel_rfl) (fun _ _ _ h => h) (by rfl) ?_ hHeld ?_
  rotate_left
  · intro w hSw
    try dsimp only at hSw
    go_simp <;> with_reducible rfl
  try simp only [Act.put, List.setIfInBounds_toArray, List.set_cons_zero, List.set_cons_succ]
  refine wpAnyH_ready (rs := [18]) (by kernel_rfl) (by simp) ?_
  refine AllReadyH.cons rfl (fun K hK => ?_) AllReadyH.nil
  go_simp
  refine (IH.out y y' _ _ _ HM.out.2 CY.out CY'.out (TY.out.below HB2.out) (TY'.out.below HB2.out)).1.mono ?_
  rw [R2.out]
  rintro e w3 ⟨rfl, hB⟩
  have HB3 := Aside0.mk (below_then HB2.out HB2.out.size hB)
  clear hB
  refine hK.out _ _ (OK.out _ HB3.out) (fun hHeld => ?_)
  clear hK K
  try simp only [Act.put, List.setIfInBounds_toArray, List.set_cons_zero, List.set_cons_succ]
  refine takeH (d := some 78) (v := ?_) 19 rfl rfl (by kernel_rfl) (by kernel_rfl) (by kernel_rfl) (fun _ _ _ h => h) (by rfl) ?_ hHeld ?_
  rotate_left
  · intro w hSw
    try dsimp only at hSw
    go_simp <;> with_reducible rfl
  try simp only [Act.put, List.setIfInBounds_toArray, List.set_cons_zero, List.set_cons_succ]
  refine takeH (d := some 4) (v := ?_) 20 rfl rfl (by kernel_rfl) (by kernel_rfl) (by kernel_rfl) (fun _ _ _ h => h) (by rfl) ?_ hHeld ?_
  rotate_left
  · intro w hSw
    try dsimp only at hSw
    go_simp <;> with_reducible rfl
  try simp only [Act.put, List.setIfInBounds_toArray, List.set_cons_zero, List.set_cons_succ]
  refine wpAnyH_done (by kernel_rfl) ?_ _
  go_wp2_with fail
  go_ret
  exact ⟨rfl, below_then HB.out HB.out.size HB3.out⟩
end Go.Proofs.Ytamhdpllmhafhaa.X
