/- Texts of this claim, joined: HWakes2, WkTypesReads. -/
import Derived.Deep.DeepCutAuto
import Derived.Test.YtjmpejbciniceaaDoorKTypesReads3
import Derived.Test.YtjmpejbciniceaaDoorKTypesReads5
import Derived.Test.YtjmpejbciniceaaDoorKTypesReads8
import Derived.Test.YtjmpejbciniceaaDoorKTypesReads11
import Derived.Test.YtjmpejbciniceaaDoorKTypesReads13
import Derived.Test.YtjmpejbciniceaaDoorKTypesReads14
import Derived.Test.YtjmpejbciniceaaDoorKTypesReads15
namespace Go.Proofs.YtjmpejbciniceaaDoor.X
open Go.RowKit Go.Proofs.YtjmpejbciniceaaDoorW.PrintWords Go.Proofs.YtjmpejbciniceaaDoorW.PrintLast Go.Proofs.YtjmpejbciniceaaDoorW.PrintMore
set_option linter.unusedVariables false
set_option linter.unusedSimpArgs false
def fF : S43 := ⟨3, [⟨3, [⟨1, []⟩, ⟨0, []⟩]⟩, ⟨1, []⟩]⟩
theorem rF : rightB fF = true := by kernel_rfl
theorem wF_text : textS fF = ⟨#[40, 105, 110, 116, 32, 45, 62, 32, 63, 41, 32, 45, 62, 32, 105, 110, 116]⟩ := by kernel_rfl
theorem wF_check : checkI fF = 0 := by kernel_rfl
theorem wF_ground : groundT fF = (⟨3, [z43, z43]⟩, true) := by kernel_rfl
theorem wZ_ground : groundT z43 = (z43, false) := by kernel_rfl
theorem wF_same : sameB ⟨3, [z43, z43]⟩ ⟨3, [⟨0, []⟩, ⟨0, []⟩]⟩ = true := by kernel_rfl
theorem wF_fun : checkI ⟨3, []⟩ = 20 := by kernel_rfl
theorem wF_nodes : ((min (nodes fF) 8193 : Nat) : Int) = 5 := by kernel_rfl
theorem wF_depth : depthI fF = 3 := by kernel_rfl
theorem wI_known : knownB ⟨1, []⟩ = true := by kernel_rfl
theorem wF_known : knownB fF = false := by kernel_rfl
set_option maxRecDepth 100000 in
set_option maxHeartbeats 1600000 in
theorem wakes2_calls (w : World) : Calls Tryd.prog 11 #[] w fun e w' => e = .returned (.bool true) ∧ Below w.heap.size w w' := by
  go_enter Tryd.func11, Tryd.ntmps11
  go_upto_region 2 with fail
  go_cut [2] (fun c2 wx => ∃ g A c, c2 = .pointer (some ⟨g, 0, none⟩) ∧ w.heap.size < g ∧ wx.heap[g]? = some (.cells #[.int .i8 3, .slice A 2 c] 43 (0, 0)) ∧ wx.heap[w.heap.size]? = some (.cells #[.int .i8 1, .slice none 0 0] 43 (0, 0)) ∧ IsT wx (.agg #[.int .i8 3, .slice A 2 c]) fF ∧ Below w.heap.size w wx)
  case first =>
    have hK1 := heap_alloc_new w (.cells #[.int .i8 1, .slice none 0 0] 43)
    have hW := below1 w #[.int .i8 1, .slice none 0 0] 43
    generalize w.alloc (.cells #[.int .i8 1, .slice none 0 0] 43) = W at *
    have K1 := Aside0.mk hK1
    have HW := Aside0.mk hW
    clear hK1 hW
    have OK := Aside0.mk (fun (w' : World) (h : Below W.heap.size W w') => (⟨pw_cell_below h ((blk_cell K1.out 0).trans rfl), pw_cell_below h ((blk_cell K1.out 1).trans rfl)⟩ : w'.cell? ⟨w.heap.size, 0, none⟩ = some (.int .i8 1) ∧ w'.cell? ⟨w.heap.size, 1, none⟩ = some (.slice none 0 0)))
    have HBW := Aside0.mk (Below.refl W.heap.size W)
    refine wp_region_held_drew (S := (fun w' => w'.cell? ⟨w.heap.size, 0, none⟩ = some (.int .i8 1) ∧ w'.cell? ⟨w.heap.size, 1, none⟩ = some (.slice none 0 0))) (by kernel_rfl) (OK.out _ HBW.out.drew) (fun hHeld => ?_)
    have HB := Aside0.mk HBW.out.drew
    generalize W.drew = w0 at *
    refine takeH (d := some 10) (v := ?_) 0 rfl rfl (by kernel_rfl) (by kernel_rfl) (by kernel_rfl) (fun _ _ _ h => h) (by rfl) ?_ hHeld ?_
    rotate_left
    · intro w hSw
      try dsimp only at hSw
      go_simp <;> with_reducible rfl
    try simp only [Act.put, List.setIfInBounds_toArray, List.set_cons_zero, List.set_cons_succ]
    refine takeH (d := some 11) (v := ?_) 1 rfl rfl (by kernel_rfl) (by kernel_rfl) (by kernel_rfl) (fun _ _ _ h => h) (by rfl) ?_ hHeld ?_
    rotate_left
    · intro w hSw
      try dsimp only at hSw
      go_simp <;> with_reducible rfl
    try simp only [Act.put, List.setIfInBounds_toArray, List.set_cons_zero, List.set_cons_succ]
    refine takeH (d := some 13) (v := ?_) 3 rfl rfl (by kernel_rfl) (by kernel_rfl) (by kernel_rfl) (fun _ _ _ h => h) (by rfl) ?_ hHeld ?_
    rotate_left
    · intro w hSw
      try dsimp only at hSw
      go_simp <;> with_reducible rfl
    try simp only [Act.put, List.setIfInBounds_toArray, List.set_cons_zero, List.set_cons_succ]
    refine wpAnyH_ready (rs := [2, 5]) (by kernel_rfl) (by simp) ?_
    refine AllReadyH.cons rfl (fun K hK => ?_) (AllReadyH.cons rfl (fun K hK => ?_) AllReadyH.nil)
    · go_simp
      refine (Of_calls (IsT.leaf _ 1) (IsT.leaf _ 0)).mono ?_
      rintro e w1 ⟨vv, rfl, ht, hB⟩
      obtain ⟨A3, c3, rfl, hl, hc⟩ := ht
      have TA := Aside0.mk (IsT.mk (k := 3) hl hc)
      replace HB := Aside0.mk (below_then HB.out HB.out.size hB)
      clear hl hc
      clear hB
      refine hK.out _ _ (OK.out _ HB.out) (fun hHeld => ?_)
      clear hK K
      try simp only [Act.put, List.setIfInBounds_toArray, List.set_cons_zero, List.set_cons_succ]
      refine wpAnyH_ready (rs := [4, 5]) (by kernel_rfl) (by simp) ?_
      refine AllReadyH.cons rfl (fun K hK => ?_) (AllReadyH.cons rfl (fun K hK => ?_) AllReadyH.nil)
      · go_simp
        refine (Of_calls TA.out (IsT.leaf _ 1)).mono ?_
        rintro e w2 ⟨vv, rfl, ht, hB⟩
        obtain ⟨A4, c4, rfl, hl, hc⟩ := ht
        have TF := Aside0.mk (IsT.mk (k := 3) hl hc)
        replace HB := Aside0.mk (below_then HB.out HB.out.size hB)
        clear hl hc
        clear hB
        refine hK.out _ _ (OK.out _ HB.out) (fun hHeld => ?_)
        clear hK K
        try simp only [Act.put, List.setIfInBounds_toArray, List.set_cons_zero, List.set_cons_succ]
        refine wpAnyH_ready (rs := [5]) (by kernel_rfl) (by simp) ?_
        refine AllReadyH.cons rfl (fun K hK => ?_) AllReadyH.nil
        go_simp
        have hB := below1 w2 #[.int .i8 0, .slice none 0 0] 43
        have KG := Aside0.mk (heap_alloc_new w2 (.cells #[.int .i8 0, .slice none 0 0] 43))
        have HG := Aside0.mk HB.out.size
        replace HB := Aside0.mk (below_then HB.out HB.out.size hB)
        replace TF := Aside0.mk (TF.out.below hB)
        clear hB
        refine hK.out _ _ (OK.out _ HB.out) (fun hHeld => ?_)
        clear hK K
        try simp only [Act.put, List.setIfInBounds_toArray, List.set_cons_zero, List.set_cons_succ]
        generalize w2.heap.size = g at *
        generalize w2.alloc (.cells #[.int .i8 0, .slice none 0 0] 43) = w3 at *
        refine wpAnyH_ready (rs := [6]) (by kernel_rfl) (by simp) ?_
        refine AllReadyH.cons rfl (fun K hK => ?_) AllReadyH.nil
        have e0 := (blk_cell KG.out 0).trans rfl
        have e1 := (blk_cell KG.out 1).trans rfl
        have z0 := blk_frozen KG.out 0
        have z1 := blk_frozen KG.out 1
        simp at e0 e1
        go_simp
        clear e0 e1 z0 z1
        have k1 := blk_lt K1.out
        have hB := below2s (a' := .int .i8 3) (b' := .slice A4 2 c4) HB.out (g := g) HG.out
        refine hK.out _ _ (OK.out _ hB) (fun hHeld => ?_)
        clear hK K
        refine wpAnyH_done (by kernel_rfl) ?_ _
        go_wp2_with fail
        go_meet
        exact ⟨g, A4, c4, rfl, Nat.lt_of_lt_of_le k1 HG.out, blk2 KG.out, blk_below K1.out hB, isT_far KG.out (kept2 w3 g (.int .i8 3) (.slice A4 2 c4)) rF TF.out, below_then HW.out HW.out.size hB⟩
      · go_simp
        have hB := below1 w1 #[.int .i8 0, .slice none 0 0] 43
        have KG := Aside0.mk (heap_alloc_new w1 (.cells #[.int .i8 0, .slice none 0 0] 43))
        have HG := Aside0.mk HB.out.size
        replace HB := Aside0.mk (below_then HB.out HB.out.size hB)
        replace TA := Aside0.mk (TA.out.below hB)
        clear hB
        refine hK.out _ _ (OK.out _ HB.out) (fun hHeld => ?_)
        clear hK K
        try simp only [Act.put, List.setIfInBounds_toArray, List.set_cons_zero, List.set_cons_succ]
        generalize w1.heap.size = g at *
        generalize w1.alloc (.cells #[.int .i8 0, .slice none 0 0] 43) = w2 at *
        refine wpAnyH_ready (rs := [4]) (by kernel_rfl) (by simp) ?_
        refine AllReadyH.cons rfl (fun K hK => ?_) AllReadyH.nil
        go_simp
        refine (Of_calls TA.out (IsT.leaf _ 1)).mono ?_
        rintro e w3 ⟨vv, rfl, ht, hB⟩
        obtain ⟨A4, c4, rfl, hl, hc⟩ := ht
        have TF := Aside0.mk (IsT.mk (k := 3) hl hc)
        replace HB := Aside0.mk (below_then HB.out HB.out.size hB)
        clear hl hc
        replace KG := Aside0.mk (blk_below KG.out hB)
        clear hB
        refine hK.out _ _ (OK.out _ HB.out) (fun hHeld => ?_)
        clear hK K
        try simp only [Act.put, List.setIfInBounds_toArray, List.set_cons_zero, List.set_cons_succ]
        refine wpAnyH_ready (rs := [6]) (by kernel_rfl) (by simp) ?_
        refine AllReadyH.cons rfl (fun K hK => ?_) AllReadyH.nil
        have e0 := (blk_cell KG.out 0).trans rfl
        have e1 := (blk_cell KG.out 1).trans rfl
        have z0 := blk_frozen KG.out 0
        have z1 := blk_frozen KG.out 1
        simp at e0 e1
        go_simp
        clear e0 e1 z0 z1
        have k1 := blk_lt K1.out
        have hB := below2s (a' := .int .i8 3) (b' := .slice A4 2 c4) HB.out (g := g) HG.out
        refine hK.out _ _ (OK.out _ hB) (fun hHeld => ?_)
        clear hK K
        refine wpAnyH_done (by kernel_rfl) ?_ _
        go_wp2_with fail
        go_meet
        exact ⟨g, A4, c4, rfl, Nat.lt_of_lt_of_le k1 HG.out, blk2 KG.out, blk_below K1.out hB, isT_far KG.out (kept2 w3 g (.int .i8 3) (.slice A4 2 c4)) rF TF.out, below_then HW.out HW.out.size hB⟩
    · go_simp
      have hB := below1 w0 #[.int .i8 0, .slice none 0 0] 43
      have KG := Aside0.mk (heap_alloc_new w0 (.cells #[.int .i8 0, .slice none 0 0] 43))
      have HG := Aside0.mk HB.out.size
      replace HB := Aside0.mk (below_then HB.out HB.out.size hB)
      clear hB
      refine hK.out _ _ (OK.out _ HB.out) (fun hHeld => ?_)
      clear hK K
      try simp only [Act.put, List.setIfInBounds_toArray, List.set_cons_zero, List.set_cons_succ]
      generalize w0.heap.size = g at *
      generalize w0.alloc (.cells #[.int .i8 0, .slice none 0 0] 43) = w1 at *
      refine wpAnyH_ready (rs := [2]) (by kernel_rfl) (by simp) ?_
      refine AllReadyH.cons rfl (fun K hK => ?_) AllReadyH.nil
      go_simp
      refine (Of_calls (IsT.leaf _ 1) (IsT.leaf _ 0)).mono ?_
      rintro e w2 ⟨vv, rfl, ht, hB⟩
      obtain ⟨A3, c3, rfl, hl, hc⟩ := ht
      have TA := Aside0.mk (IsT.mk (k := 3) hl hc)
      replace HB := Aside0.mk (below_then HB.out HB.out.size hB)
      clear hl hc
      replace KG := Aside0.mk (blk_below KG.out hB)
      clear hB
      refine hK.out _ _ (OK.out _ HB.out) (fun hHeld => ?_)
      clear hK K
      try simp only [Act.put, List.setIfInBounds_toArray, List.set_cons_zero, List.set_cons_succ]
      refine wpAnyH_ready (rs := [4]) (by kernel_rfl) (by simp) ?_
      refine AllReadyH.cons rfl (fun K hK => ?_) AllReadyH.nil
      go_simp
      refine (Of_calls TA.out (IsT.leaf _ 1)).mono ?_
      rintro e w3 ⟨vv, rfl, ht, hB⟩
      obtain ⟨A4, c4, rfl, hl, hc⟩ := ht
      have TF := Aside0.mk (IsT.mk (k := 3) hl hc)
      replace HB := Aside0.mk (below_then HB.out HB.out.size hB)
      clear hl hc
      replace KG := Aside0.mk (blk_below KG.out hB)
      clear hB
      refine hK.out _ _ (OK.out _ HB.out) (fun hHeld => ?_)
      clear hK K
      try simp only [Act.put, List.setIfInBounds_toArray, List.set_cons_zero, List.set_cons_succ]
      refine wpAnyH_ready (rs := [6]) (by kernel_rfl) (by simp) ?_
      refine AllReadyH.cons rfl (fun K hK => ?_) AllReadyH.nil
      have e0 := (blk_cell KG.out 0).trans rfl
      have e1 := (blk_cell KG.out 1).trans rfl
      have z0 := blk_frozen KG.out 0
      have z1 := blk_frozen KG.out 1
      simp at e0 e1
      go_simp
      clear e0 e1 z0 z1
      have k1 := blk_lt K1.out
      have hB := below2s (a' := .int .i8 3) (b' := .slice A4 2 c4) HB.out (g := g) HG.out
      refine hK.out _ _ (OK.out _ hB) (fun hHeld => ?_)
      clear hK K
      refine wpAnyH_done (by kernel_rfl) ?_ _
      go_wp2_with fail
      go_meet
      exact ⟨g, A4, c4, rfl, Nat.lt_of_lt_of_le k1 HG.out, blk2 KG.out, blk_below K1.out hB, isT_far KG.out (kept2 w3 g (.int .i8 3) (.slice A4 2 c4)) rF TF.out, below_then HW.out HW.out.size hB⟩
  case rest =>
    obtain ⟨g, A, c, rfl, hg, kg, k1, hT, hB⟩ := hcut
    have KG := Aside0.mk kg
    have K1 := Aside0.mk k1
    have TF := Aside0.mk hT
    have HB := Aside0.mk hB
    have FT := Aside0.mk wF_text
    have FCF := Aside0.mk wF_check
    have FG := Aside0.mk wF_ground
    have FGZ := Aside0.mk wZ_ground
    have FS := Aside0.mk wF_same
    have FC := Aside0.mk wF_fun
    have FN := Aside0.mk wF_nodes
    have FD := Aside0.mk wF_depth
    have FK1 := Aside0.mk wI_known
    have FK2 := Aside0.mk wF_known
    clear kg k1 hT hB
    have e0 : wc.cell? ⟨g, 0, none⟩ = some (.int .i8 3) := (blk_cell KG.out 0).trans rfl
    have e1 : wc.cell? ⟨g, 1, none⟩ = some (.slice A 2 c) := (blk_cell KG.out 1).trans rfl
    go_wp2_with fail
    refine (Text_calls TF.out).mono ?_
    unfold TPost
    rw [FT.out, FCF.out]
    rintro e w3 ⟨rfl, hB⟩
    replace KG := Aside0.mk (blk_below KG.out hB)
    replace K1 := Aside0.mk (blk_below K1.out hB)
    replace TF := Aside0.mk (TF.out.below hB)
    replace HB := Aside0.mk (below_then HB.out HB.out.size hB)
    clear hB
    clear e0 e1
    have e0 : w3.cell? ⟨g, 0, none⟩ = some (.int .i8 3) := (blk_cell KG.out 0).trans rfl
    have e1 : w3.cell? ⟨g, 1, none⟩ = some (.slice A 2 c) := (blk_cell KG.out 1).trans rfl
    go_wp2_with fail
    refine (Ground_calls TF.out).mono ?_
    rw [FG.out]
    rintro e w4 ⟨vv, rfl, ht, hB⟩
    obtain ⟨A5, c5, rfl, hl, hc⟩ := ht
    have T5 := Aside0.mk (IsT.mk (k := 3) hl hc)
    replace KG := Aside0.mk (blk_below KG.out hB)
    replace K1 := Aside0.mk (blk_below K1.out hB)
    replace TF := Aside0.mk (TF.out.below hB)
    replace HB := Aside0.mk (below_then HB.out HB.out.size hB)
    clear hB
    clear e0 e1 hl hc
    go_wp2_with fail
    have hB := below1 w4 #[.int .i8 3, .slice A5 2 c5] 43
    have K5 := Aside0.mk (heap_alloc_new w4 (.cells #[.int .i8 3, .slice A5 2 c5] 43))
    replace KG := Aside0.mk (blk_below KG.out hB)
    replace K1 := Aside0.mk (blk_below K1.out hB)
    replace TF := Aside0.mk (TF.out.below hB)
    replace HB := Aside0.mk (below_then HB.out HB.out.size hB)
    clear hB
    have hB := below1 w4 #[.int .i8 3, .slice A5 2 c5] 43
    replace T5 := Aside0.mk (T5.out.below hB)
    clear hB
    refine (Ground_calls (IsT.leaf _ 0)).mono ?_
    rw [show (⟨0, []⟩ : S43) = z43 from rfl, FGZ.out]
    rintro e w5 ⟨vv, rfl, ht, hB⟩
    obtain ⟨A8, c8, rfl, hl, hc⟩ := ht
    replace K5 := Aside0.mk (blk_below K5.out hB)
    replace T5 := Aside0.mk (T5.out.below hB)
    replace KG := Aside0.mk (blk_below KG.out hB)
    replace K1 := Aside0.mk (blk_below K1.out hB)
    replace TF := Aside0.mk (TF.out.below hB)
    replace HB := Aside0.mk (below_then HB.out HB.out.size hB)
    clear hB
    clear hl hc
    generalize w4.heap.size = n5 at *
    go_wp2_with fail
    have hB := below1 w5 #[.int .i8 0, .slice A8 0 c8] 43
    replace K5 := Aside0.mk (blk_below K5.out hB)
    replace T5 := Aside0.mk (T5.out.below hB)
    replace KG := Aside0.mk (blk_below KG.out hB)
    replace K1 := Aside0.mk (blk_below K1.out hB)
    replace TF := Aside0.mk (TF.out.below hB)
    replace HB := Aside0.mk (below_then HB.out HB.out.size hB)
    clear hB
    try simp only [z43, List.length_nil] at *
    generalize w5.alloc (.cells #[.int .i8 0, .slice A8 0 c8] 43) = W at *
    have OK := Aside0.mk (fun (w' : World) (h : Below W.heap.size W w') => (⟨⟨pw_cell_below h ((blk_cell K1.out 0).trans rfl), pw_cell_below h ((blk_cell K1.out 1).trans rfl)⟩, ⟨pw_cell_below h ((blk_cell KG.out 0).trans rfl), pw_cell_below h ((blk_cell KG.out 1).trans rfl)⟩, ⟨pw_cell_below h ((blk_cell K5.out 0).trans rfl), pw_cell_below h ((blk_cell K5.out 1).trans rfl)⟩⟩ : (w'.cell? ⟨w.heap.size, 0, none⟩ = some (.int .i8 1) ∧ w'.cell? ⟨w.heap.size, 1, none⟩ = some (.slice none 0 0)) ∧ (w'.cell? ⟨g, 0, none⟩ = some (.int .i8 3) ∧ w'.cell? ⟨g, 1, none⟩ = some (.slice A 2 c)) ∧ (w'.cell? ⟨n5, 0, none⟩ = some (.int .i8 3) ∧ w'.cell? ⟨n5, 1, none⟩ = some (.slice A5 2 c5))))
    have HBW := Aside0.mk (Below.refl W.heap.size W)
    refine wp_region_held_drew (S := (fun w' => (w'.cell? ⟨w.heap.size, 0, none⟩ = some (.int .i8 1) ∧ w'.cell? ⟨w.heap.size, 1, none⟩ = some (.slice none 0 0)) ∧ (w'.cell? ⟨g, 0, none⟩ = some (.int .i8 3) ∧ w'.cell? ⟨g, 1, none⟩ = some (.slice A 2 c)) ∧ (w'.cell? ⟨n5, 0, none⟩ = some (.int .i8 3) ∧ w'.cell? ⟨n5, 1, none⟩ = some (.slice A5 2 c5)))) (by kernel_rfl) (OK.out _ HBW.out.drew) (fun hHeld => ?_)
    refine takeH (d := some 30) (v := ?_) 0 rfl rfl (by kernel_rfl) (by kernel_rfl) (by kernel_rfl) (fun _ _ _ h => h) (by rfl) ?_ hHeld ?_
    rotate_left
    · intro w hSw
      try dsimp only at hSw
      go_simp <;> with_reducible rfl
    try simp only [Act.put, List.setIfInBounds_toArray, List.set_cons_zero, List.set_cons_succ]
    refine takeH (d := some 31) (v := ?_) 1 rfl rfl (by kernel_rfl) (by kernel_rfl) (by kernel_rfl) (fun _ _ _ h => h) (by rfl) ?_ hHeld ?_
    rotate_left
    · intro w hSw
      try dsimp only at hSw
      go_simp <;> with_reducible rfl
    try simp only [Act.put, List.setIfInBounds_toArray, List.set_cons_zero, List.set_cons_succ]
    refine takeH (d := some 32) (v := ?_) 2 rfl rfl (by kernel_rfl) (by kernel_rfl) (by kernel_rfl) (fun _ _ _ h => h) (by rfl) ?_ hHeld ?_
    rotate_left
    · intro w hSw
      try dsimp only at hSw
      go_simp <;> with_reducible rfl
    try simp only [Act.put, List.setIfInBounds_toArray, List.set_cons_zero, List.set_cons_succ]
    refine takeH (d := some 33) (v := ?_) 3 rfl rfl (by kernel_rfl) (by kernel_rfl) (by kernel_rfl) (fun _ _ _ h => h) (by rfl) ?_ hHeld ?_
    rotate_left
    · intro w hSw
      try dsimp only at hSw
      go_simp <;> with_reducible rfl
    try simp only [Act.put, List.setIfInBounds_toArray, List.set_cons_zero, List.set_cons_succ]
    refine takeH (d := some 34) (v := ?_) 4 rfl rfl (by kernel_rfl) (by kernel_rfl) (by kernel_rfl) (fun _ _ _ h => h) (by rfl) ?_ hHeld ?_
    rotate_left
    · intro w hSw
      try dsimp only at hSw
      go_simp <;> with_reducible rfl
    try simp only [Act.put, List.setIfInBounds_toArray, List.set_cons_zero, List.set_cons_succ]
    refine takeH (d := some 35) (v := ?_) 5 rfl rfl (by kernel_rfl) (by kernel_rfl) (by kernel_rfl) (fun _ _ _ h => h) (by rfl) ?_ hHeld ?_
    rotate_left
    · intro w hSw
      try dsimp only at hSw
      go_simp <;> with_reducible rfl
    try simp only [Act.put, List.setIfInBounds_toArray, List.set_cons_zero, List.set_cons_succ]
    refine takeH (d := some 36) (v := ?_) 6 rfl rfl (by kernel_rfl) (by kernel_rfl) (by kernel_rfl) (fun _ _ _ h => h) (by rfl) ?_ hHeld ?_
    rotate_left
    · intro w hSw
      try dsimp only at hSw
      go_simp <;> with_reducible rfl
    try simp only [Act.put, List.setIfInBounds_toArray, List.set_cons_zero, List.set_cons_succ]
    refine takeH (d := some 37) (v := ?_) 7 rfl rfl (by kernel_rfl) (by kernel_rfl) (by kernel_rfl) (fun _ _ _ h => h) (by rfl) ?_ hHeld ?_
    rotate_left
    · intro w hSw
      try dsimp only at hSw
      go_simp <;> with_reducible rfl
    try simp only [Act.put, List.setIfInBounds_toArray, List.set_cons_zero, List.set_cons_succ]
    refine takeH (d := some 38) (v := ?_) 8 rfl rfl (by kernel_rfl) (by kernel_rfl) (by kernel_rfl) (fun _ _ _ h => h) (by rfl) ?_ hHeld ?_
    rotate_left
    · intro w hSw
      try dsimp only at hSw
      go_simp <;> with_reducible rfl
    try simp only [Act.put, List.setIfInBounds_toArray, List.set_cons_zero, List.set_cons_succ]
    refine takeH (d := some 39) (v := ?_) 9 rfl rfl (by kernel_rfl) (by kernel_rfl) (by kernel_rfl) (fun _ _ _ h => h) (by rfl) ?_ hHeld ?_
    rotate_left
    · intro w hSw
      try dsimp only at hSw
      go_simp <;> with_reducible rfl
    try simp only [Act.put, List.setIfInBounds_toArray, List.set_cons_zero, List.set_cons_succ]
    refine takeH (d := some 40) (v := ?_) 10 rfl rfl (by kernel_rfl) (by kernel_rfl) (by kernel_rfl) (fun _ _ _ h => h) (by rfl) ?_ hHeld ?_
    rotate_left
    · intro w hSw
      try dsimp only at hSw
      go_simp <;> with_reducible rfl
    try simp only [Act.put, List.setIfInBounds_toArray, List.set_cons_zero, List.set_cons_succ]
    refine takeH (d := some 41) (v := ?_) 11 rfl rfl (by kernel_rfl) (by kernel_rfl) (by kernel_rfl) (fun _ _ _ h => h) (by rfl) ?_ hHeld ?_
    rotate_left
    · intro w hSw
      try dsimp only at hSw
      go_simp <;> with_reducible rfl
    try simp only [Act.put, List.setIfInBounds_toArray, List.set_cons_zero, List.set_cons_succ]
    refine takeH (d := some 42) (v := ?_) 12 rfl rfl (by kernel_rfl) (by kernel_rfl) (by kernel_rfl) (fun _ _ _ h => h) (by rfl) ?_ hHeld ?_
    rotate_left
    · intro w hSw
      try dsimp only at hSw
      go_simp <;> with_reducible rfl
    try simp only [Act.put, List.setIfInBounds_toArray, List.set_cons_zero, List.set_cons_succ]
    refine callH (d := some 43) 13 rfl rfl (by kernel_rfl) (by rfl) (by kernel_rfl) (Of_calls (k := 3) (IsT.leaf _ 0) (IsT.leaf _ 0)) ?_
    rintro e u1 ⟨vv, rfl, ht, hB⟩
    obtain ⟨A7, c7, rfl, hl, hc⟩ := ht
    have TV := Aside0.mk (IsT.mk (k := 3) hl hc)
    have H1 := Aside0.mk (below_then HBW.out.drew (HBW.out.drew).size hB)
    clear hB hl hc
    refine ⟨_, rfl, OK.out _ H1.out, fun hHeld => ?_⟩
    try simp only [Act.put, List.setIfInBounds_toArray, List.set_cons_zero, List.set_cons_succ]
    refine callH (d := some 44) 14 rfl rfl (by kernel_rfl) (by rfl) (by kernel_rfl) (Same_calls ((T5).out.below H1.out) TV.out) ?_
    rw [(FS).out]
    rintro e u2 ⟨rfl, hB⟩
    have H2 := Aside0.mk (below_then H1.out (H1.out).size hB)
    clear hB
    refine ⟨_, rfl, OK.out _ H2.out, fun hHeld => ?_⟩
    try simp only [Act.put, List.setIfInBounds_toArray, List.set_cons_zero, List.set_cons_succ]
    refine takeH (d := some 45) (v := ?_) 15 rfl rfl (by kernel_rfl) (by kernel_rfl) (by kernel_rfl) (fun _ _ _ h => h) (by rfl) ?_ hHeld ?_
    rotate_left
    · intro w hSw
      try dsimp only at hSw
      go_simp <;> with_reducible rfl
    try simp only [Act.put, List.setIfInBounds_toArray, List.set_cons_zero, List.set_cons_succ]
    refine takeH (d := some 46) (v := ?_) 16 rfl rfl (by kernel_rfl) (by kernel_rfl) (by kernel_rfl) (fun _ _ _ h => h) (by rfl) ?_ hHeld ?_
    rotate_left
    · intro w hSw
      try dsimp only at hSw
      go_simp <;> with_reducible rfl
    try simp only [Act.put, List.setIfInBounds_toArray, List.set_cons_zero, List.set_cons_succ]
    refine takeH (d := some 47) (v := ?_) 17 rfl rfl (by kernel_rfl) (by kernel_rfl) (by kernel_rfl) (fun _ _ _ h => h) (by rfl) ?_ hHeld ?_
    rotate_left
    · intro w hSw
      try dsimp only at hSw
      go_simp <;> with_reducible rfl
    try simp only [Act.put, List.setIfInBounds_toArray, List.set_cons_zero, List.set_cons_succ]
    refine takeH (d := some 48) (v := ?_) 18 rfl rfl (by kernel_rfl) (by kernel_rfl) (by kernel_rfl) (fun _ _ _ h => h) (by rfl) ?_ hHeld ?_
    rotate_left
    · intro w hSw
      try dsimp only at hSw
      go_simp <;> with_reducible rfl
    try simp only [Act.put, List.setIfInBounds_toArray, List.set_cons_zero, List.set_cons_succ]
    refine takeH (d := some 49) (v := ?_) 19 rfl rfl (by kernel_rfl) (by kernel_rfl) (by kernel_rfl) (fun _ _ _ h => h) (by rfl) ?_ hHeld ?_
    rotate_left
    · intro w hSw
      try dsimp only at hSw
      go_simp <;> with_reducible rfl
    try simp only [Act.put, List.setIfInBounds_toArray, List.set_cons_zero, List.set_cons_succ]
    refine takeH (d := some 50) (v := ?_) 20 rfl rfl (by kernel_rfl) (by kernel_rfl) (by kernel_rfl) (fun _ _ _ h => h) (by rfl) ?_ hHeld ?_
    rotate_left
    · intro w hSw
      try dsimp only at hSw
      go_simp <;> with_reducible rfl
    try simp only [Act.put, List.setIfInBounds_toArray, List.set_cons_zero, List.set_cons_succ]
    refine takeH (d := some 51) (v := ?_) 21 rfl rfl (by kernel_rfl) (by kernel_rfl) (by kernel_rfl) (fun _ _ _ h => h) (by rfl) ?_ hHeld ?_
    rotate_left
    · intro w hSw
      try dsimp only at hSw
      go_simp <;> with_reducible rfl
    try simp only [Act.put, List.setIfInBounds_toArray, List.set_cons_zero, List.set_cons_succ]
    refine callH (d := some 52) 22 rfl rfl (by kernel_rfl) (by rfl) (by kernel_rfl) (Check_calls (IsT.leaf _ 3)) ?_
    rw [(FC).out]
    rintro e u3 ⟨rfl, hB⟩
    have H3 := Aside0.mk (below_then H2.out (H2.out).size hB)
    clear hB
    refine ⟨_, rfl, OK.out _ H3.out, fun hHeld => ?_⟩
    try simp only [Act.put, List.setIfInBounds_toArray, List.set_cons_zero, List.set_cons_succ]
    refine takeH (d := some 53) (v := ?_) 23 rfl rfl (by kernel_rfl) (by kernel_rfl) (by kernel_rfl) (fun _ _ _ h => h) (by rfl) ?_ hHeld ?_
    rotate_left
    · intro w hSw
      try dsimp only at hSw
      go_simp <;> with_reducible rfl
    try simp only [Act.put, List.setIfInBounds_toArray, List.set_cons_zero, List.set_cons_succ]
    refine takeH (d := some 54) (v := ?_) 24 rfl rfl (by kernel_rfl) (by kernel_rfl) (by kernel_rfl) (fun _ _ _ h => h) (by rfl) ?_ hHeld ?_
    rotate_left
    · intro w hSw
      try dsimp only at hSw
      go_simp <;> with_reducible rfl
    try simp only [Act.put, List.setIfInBounds_toArray, List.set_cons_zero, List.set_cons_succ]
    refine takeH (d := some 55) (v := ?_) 25 rfl rfl (by kernel_rfl) (by kernel_rfl) (by kernel_rfl) (fun _ _ _ h => h) (by rfl) ?_ hHeld ?_
    rotate_left
    · intro w hSw
      try dsimp only at hSw
      go_simp <;> with_reducible rfl
    try simp only [Act.put, List.setIfInBounds_toArray, List.set_cons_zero, List.set_cons_succ]
    refine takeH (d := some 56) (v := ?_) 26 rfl rfl (by kernel_rfl) (by kernel_rfl) (by kernel_rfl) (fun _ _ _ h => h) (by rfl) ?_ hHeld ?_
    rotate_left
    · intro w hSw
      try dsimp only at hSw
      go_simp <;> with_reducible rfl
    try simp only [Act.put, List.setIfInBounds_toArray, List.set_cons_zero, List.set_cons_succ]
    refine callH (d := some 57) 27 rfl rfl (by kernel_rfl) (by rfl) (by kernel_rfl) (Nodes_calls ((TF).out.below H3.out)) ?_
    rw [(FN).out]
    rintro e u4 ⟨rfl, hB⟩
    have H4 := Aside0.mk (below_then H3.out (H3.out).size hB)
    clear hB
    refine ⟨_, rfl, OK.out _ H4.out, fun hHeld => ?_⟩
    try simp only [Act.put, List.setIfInBounds_toArray, List.set_cons_zero, List.set_cons_succ]
    refine takeH (d := some 58) (v := ?_) 28 rfl rfl (by kernel_rfl) (by kernel_rfl) (by kernel_rfl) (fun _ _ _ h => h) (by rfl) ?_ hHeld ?_
    rotate_left
    · intro w hSw
      try dsimp only at hSw
      go_simp <;> with_reducible rfl
    try simp only [Act.put, List.setIfInBounds_toArray, List.set_cons_zero, List.set_cons_succ]
    refine takeH (d := some 59) (v := ?_) 29 rfl rfl (by kernel_rfl) (by kernel_rfl) (by kernel_rfl) (fun _ _ _ h => h) (by rfl) ?_ hHeld ?_
    rotate_left
    · intro w hSw
      try dsimp only at hSw
      go_simp <;> with_reducible rfl
    try simp only [Act.put, List.setIfInBounds_toArray, List.set_cons_zero, List.set_cons_succ]
    refine takeH (d := some 60) (v := ?_) 30 rfl rfl (by kernel_rfl) (by kernel_rfl) (by kernel_rfl) (fun _ _ _ h => h) (by rfl) ?_ hHeld ?_
    rotate_left
    · intro w hSw
      try dsimp only at hSw
      go_simp <;> with_reducible rfl
    try simp only [Act.put, List.setIfInBounds_toArray, List.set_cons_zero, List.set_cons_succ]
    refine takeH (d := some 61) (v := ?_) 31 rfl rfl (by kernel_rfl) (by kernel_rfl) (by kernel_rfl) (fun _ _ _ h => h) (by rfl) ?_ hHeld ?_
    rotate_left
    · intro w hSw
      try dsimp only at hSw
      go_simp <;> with_reducible rfl
    try simp only [Act.put, List.setIfInBounds_toArray, List.set_cons_zero, List.set_cons_succ]
    refine callH (d := some 62) 32 rfl rfl (by kernel_rfl) (by rfl) (by kernel_rfl) (Depth_calls ((TF).out.below H4.out)) ?_
    rw [(FD).out]
    rintro e u5 ⟨rfl, hB⟩
    have H5 := Aside0.mk (below_then H4.out (H4.out).size hB)
    clear hB
    refine ⟨_, rfl, OK.out _ H5.out, fun hHeld => ?_⟩
    try simp only [Act.put, List.setIfInBounds_toArray, List.set_cons_zero, List.set_cons_succ]
    refine takeH (d := some 63) (v := ?_) 33 rfl rfl (by kernel_rfl) (by kernel_rfl) (by kernel_rfl) (fun _ _ _ h => h) (by rfl) ?_ hHeld ?_
    rotate_left
    · intro w hSw
      try dsimp only at hSw
      go_simp <;> with_reducible rfl
    try simp only [Act.put, List.setIfInBounds_toArray, List.set_cons_zero, List.set_cons_succ]
    refine takeH (d := some 64) (v := ?_) 34 rfl rfl (by kernel_rfl) (by kernel_rfl) (by kernel_rfl) (fun _ _ _ h => h) (by rfl) ?_ hHeld ?_
    rotate_left
    · intro w hSw
      try dsimp only at hSw
      go_simp <;> with_reducible rfl
    try simp only [Act.put, List.setIfInBounds_toArray, List.set_cons_zero, List.set_cons_succ]
    refine takeH (d := some 65) (v := ?_) 35 rfl rfl (by kernel_rfl) (by kernel_rfl) (by kernel_rfl) (fun _ _ _ h => h) (by rfl) ?_ hHeld ?_
    rotate_left
    · intro w hSw
      try dsimp only at hSw
      go_simp <;> with_reducible rfl
    try simp only [Act.put, List.setIfInBounds_toArray, List.set_cons_zero, List.set_cons_succ]
    refine takeH (d := some 66) (v := ?_) 36 rfl rfl (by kernel_rfl) (by kernel_rfl) (by kernel_rfl) (fun _ _ _ h => h) (by rfl) ?_ hHeld ?_
    rotate_left
    · intro w hSw
      try dsimp only at hSw
      go_simp <;> with_reducible rfl
    try simp only [Act.put, List.setIfInBounds_toArray, List.set_cons_zero, List.set_cons_succ]
    refine callH (d := some 67) 37 rfl rfl (by kernel_rfl) (by rfl) (by kernel_rfl) (Known_calls (IsT.leaf _ 1)) ?_
    rw [(FK1).out]
    rintro e u6 ⟨rfl, hB⟩
    have H6 := Aside0.mk (below_then H5.out (H5.out).size hB)
    clear hB
    refine ⟨_, rfl, OK.out _ H6.out, fun hHeld => ?_⟩
    try simp only [Act.put, List.setIfInBounds_toArray, List.set_cons_zero, List.set_cons_succ]
    refine takeH (d := some 68) (v := ?_) 38 rfl rfl (by kernel_rfl) (by kernel_rfl) (by kernel_rfl) (fun _ _ _ h => h) (by rfl) ?_ hHeld ?_
    rotate_left
    · intro w hSw
      try dsimp only at hSw
      go_simp <;> with_reducible rfl
    try simp only [Act.put, List.setIfInBounds_toArray, List.set_cons_zero, List.set_cons_succ]
    refine takeH (d := some 69) (v := ?_) 39 rfl rfl (by kernel_rfl) (by kernel_rfl) (by kernel_rfl) (fun _ _ _ h => h) (by rfl) ?_ hHeld ?_
    rotate_left
    · intro w hSw
      try dsimp only at hSw
      go_simp <;> with_reducible rfl
    try simp only [Act.put, List.setIfInBounds_toArray, List.set_cons_zero, List.set_cons_succ]
    refine takeH (d := some 70) (v := ?_) 40 rfl rfl (by kernel_rfl) (by kernel_rfl) (by kernel_rfl) (fun _ _ _ h => h) (by rfl) ?_ hHeld ?_
    rotate_left
    · intro w hSw
      try dsimp only at hSw
      go_simp <;> with_reducible rfl
    try simp only [Act.put, List.setIfInBounds_toArray, List.set_cons_zero, List.set_cons_succ]
    refine callH (d := some 71) 41 rfl rfl (by kernel_rfl) (by rfl) (by kernel_rfl) (Known_calls ((TF).out.below H6.out)) ?_
    rw [(FK2).out]
    rintro e u7 ⟨rfl, hB⟩
    have H7 := Aside0.mk (below_then H6.out (H6.out).size hB)
    clear hB
    refine ⟨_, rfl, OK.out _ H7.out, fun hHeld => ?_⟩
    try simp only [Act.put, List.setIfInBounds_toArray, List.set_cons_zero, List.set_cons_succ]
    refine takeH (d := some 72) (v := ?_) 42 rfl rfl (by kernel_rfl) (by kernel_rfl) (by kernel_rfl) (fun _ _ _ h => h) (by rfl) ?_ hHeld ?_
    rotate_left
    · intro w hSw
      try dsimp only at hSw
      go_simp <;> with_reducible rfl
    try simp only [Act.put, List.setIfInBounds_toArray, List.set_cons_zero, List.set_cons_succ]
    refine takeH (d := some 73) (v := ?_) 43 rfl rfl (by kernel_rfl) (by kernel_rfl) (by kernel_rfl) (fun _ _ _ h => h) (by rfl) ?_ hHeld ?_
    rotate_left
    · intro w hSw
      try dsimp only at hSw
      go_simp <;> with_reducible rfl
    try simp only [Act.put, List.setIfInBounds_toArray, List.set_cons_zero, List.set_cons_succ]
    refine takeH (d := some 0) (v := ?_) 44 rfl rfl (by kernel_rfl) (by kernel_rfl) (by kernel_rfl) (fun _ _ _ h => h) (by rfl) ?_ hHeld ?_
    rotate_left
    · intro w hSw
      try dsimp only at hSw
      go_simp <;> with_reducible rfl
    try simp only [Act.put, List.setIfInBounds_toArray, List.set_cons_zero, List.set_cons_succ]
    refine wpAnyH_done (by kernel_rfl) ?_ _
    go_wp2_with fail
    go_ret
    exact ⟨rfl, below_then HB.out HB.out.size H7.out⟩
end Go.Proofs.YtjmpejbciniceaaDoor.X
namespace Go.Proofs.YtjmpejbciniceaaDoor.X
open Go.RowKit Go.Proofs.YtjmpejbciniceaaDoorW.PrintWords Go.Proofs.YtjmpejbciniceaaDoorW.PrintLast Go.Proofs.YtjmpejbciniceaaDoorW.PrintMore
set_option linter.unusedVariables false
set_option linter.unusedSimpArgs false
theorem neq_f29 (W : World) (k p : Int) (s : ByteArray) : (binOp .neq 29 (.agg #[.int .i64 k, .int .i64 p, .string s]) (.agg #[.int .i64 k, .int .i64 p, .string s])).run Tryd.prog W = .ok (.bool false) W := by
  have h1 : ∀ d, (Op.equalIn (d + 2) 29 (.agg #[.int .i64 k, .int .i64 p, .string s]) (.agg #[.int .i64 k, .int .i64 p, .string s])).run Tryd.prog W = .ok (k == k && (p == p && (s.toList == s.toList))) W := fun d => by
    refine eqA_of Tryd.underlying29 (by kernel_rfl) ?_
    refine eqf_cons (by rfl) (by go_simp; rfl) (by go_simp; rfl) (by go_simp) ?_
    refine eqf_cons (by rfl) (by go_simp; rfl) (by go_simp; rfl) (by go_simp) ?_
    exact eqf_last (by rfl) (by go_simp; rfl) (by go_simp; rfl) (by go_simp)
  simp only [binOp]
  simp [Op.equal, Op.maxDepth, h1 9998]
theorem neq_w37 (W : World) (k n p : Int) (s : ByteArray) : (binOp .neq 37 (.agg #[.int .i8 k, .string s, .int .i64 n, .int .i64 p]) (.agg #[.int .i8 k, .string s, .int .i64 n, .int .i64 p])).run Tryd.prog W = .ok (.bool false) W := by
  have h1 : ∀ d, (Op.equalIn (d + 2) 37 (.agg #[.int .i8 k, .string s, .int .i64 n, .int .i64 p]) (.agg #[.int .i8 k, .string s, .int .i64 n, .int .i64 p])).run Tryd.prog W = .ok (k == k && (s.toList == s.toList && (n == n && (p == p)))) W := fun d => by
    refine eqA_of Tryd.underlying37 (by kernel_rfl) ?_
    refine eqf_cons (by rfl) (by go_simp; rfl) (by go_simp; rfl) (by go_simp) ?_
    refine eqf_cons (by rfl) (by go_simp; rfl) (by go_simp; rfl) (by go_simp) ?_
    refine eqf_cons (by rfl) (by go_simp; rfl) (by go_simp; rfl) (by go_simp) ?_
    exact eqf_last (by rfl) (by go_simp; rfl) (by go_simp; rfl) (by go_simp)
  simp only [binOp]
  simp [Op.equal, Op.maxDepth, h1 9998]
def w9 : S37 := ⟨9, ⟨#[]⟩, 0, 0⟩
def wsp : S37 := ⟨0, ⟨#[115, 112, 111, 105, 108, 116]⟩, 0, 0⟩
theorem mine_form {w : World} {b : Nat} {v : Value} {l : List S37} (h : k37.R 37 w b (fun _ => True) v ([] ++ l ++ [w9])) : ∃ g cap, v = .slice (some ⟨g, 0, none⟩) (l.length + 1) cap ∧ l.length + 1 ≤ cap ∧ b ≤ g ∧ g < w.heap.size ∧ k37.R 37 w b (fun _ => True) (.slice (some ⟨g, 0, none⟩) (l.length + 1) cap) (l ++ [w9]) := by
  have h2 : k37.R 37 w b (fun _ => True) v (l ++ [w9]) := h
  have hl : (l ++ [w9]).length = l.length + 1 := by simp
  obtain ⟨g, cap, rfl, hb, hg, _⟩ := Kd.R_form h2 (by omega)
  obtain ⟨_, hle, _⟩ := Kd.R_reads' h2
  rw [hl] at *
  exact ⟨g, cap, rfl, hle, hb, hg, h2⟩
theorem mine_reads {w : World} {b g cap : Nat} {l : List S37} (h : k37.R 37 w b (fun _ => True) (.slice (some ⟨g, 0, none⟩) (l.length + 1) cap) (l ++ [w9])) : k37.C w (some ⟨g, 0, none⟩) l.length l := by
  have h2 := Kd.R_take (m := l.length) h (by simp)
  rw [show (l ++ [w9]).take l.length = l from by simp] at h2
  exact (Kd.R_reads' h2).2.2
theorem mine_cells {w : World} {b g cap : Nat} {ys : List S37} {n : Nat} (h : k37.R 37 w b (fun _ => True) (.slice (some ⟨g, 0, none⟩) n cap) ys) {j : Nat} {x : S37} (hj : ys[j]? = some x) : w.cell? ⟨g, j * 4, none⟩ = some (.int .i8 x.f0) ∧ w.cell? ⟨g, j * 4 + 1, none⟩ = some (.string x.f1) ∧ w.cell? ⟨g, j * 4 + 2, none⟩ = some (.int .i64 x.f2) ∧ w.cell? ⟨g, j * 4 + 3, none⟩ = some (.int .i64 x.f3) := by
  have hl : j < ys.length := (List.getElem?_eq_some_iff.1 hj).1
  have hn := (Kd.R_reads' h).1
  obtain ⟨c, h1, h2, h3, h4⟩ := Kd.R_elem h z37 (j : Int) (by omega) (by omega)
  rw [Int.toNat_natCast, List.getD_eq_getElem?_getD, hj] at h2
  obtain rfl := k37_openM h2
  rw [Int.toNat_natCast] at h3
  exact ⟨h3 0 _ rfl, h3 1 _ rfl, h3 2 _ rfl, h3 3 _ rfl⟩
theorem mine_frozen {w : World} {b g cap : Nat} {ys : List S37} {n : Nat} (h : k37.R 37 w b (fun _ => True) (.slice (some ⟨g, 0, none⟩) n cap) ys) {j : Nat} {x : S37} (hj : ys[j]? = some x) : w.frozen? ⟨g, j * 4, none⟩ = false ∧ w.frozen? ⟨g, j * 4 + 1, none⟩ = false ∧ w.frozen? ⟨g, j * 4 + 2, none⟩ = false ∧ w.frozen? ⟨g, j * 4 + 3, none⟩ = false := by
  have hl : j < ys.length := (List.getElem?_eq_some_iff.1 hj).1
  have hn := (Kd.R_reads' h).1
  obtain ⟨c, h1, h2, h3, h4⟩ := Kd.R_elem h z37 (j : Int) (by omega) (by omega)
  rw [Int.toNat_natCast] at h4
  exact ⟨h4 0, h4 1, h4 2, h4 3⟩
theorem mine_isT {w : World} {b : Nat} {ok : Nat → Prop} {A : Option Addr} {c : Nat} {t : S43} (h : k43.R 43 w b ok (.slice A t.f1.length c) t.f1) : IsT w (.agg #[.int .i8 t.f0, .slice A t.f1.length c]) t := by
  obtain ⟨A', c', he, hl, hr⟩ := Kd.R_reads h
  injection he with e1 e2 e3
  subst e1 e3
  exact ⟨_, _, rfl, hl, hr⟩
theorem place (a : Int) (n : Nat) : ∃ (m : Int) (i : Nat), i ≤ n ∧ (if (n : Int) < a then (n : Int) else a) = m ∧ (if 0 < m then m else 0) = (i : Int) := by
  refine ⟨_, (if 0 < (if (n : Int) < a then (n : Int) else a) then (if (n : Int) < a then (n : Int) else a) else 0).toNat, ?_, rfl, ?_⟩
  · split <;> (try split) <;> omega
  · split <;> (try split) <;> omega
set_option maxRecDepth 100000 in
set_option maxHeartbeats 3200000 in
theorem reads_big (A : Option Addr) (c : Nat) (l : List S37) (a : Int) (w : World) (h : 16384 < l.length) : Calls Tryd.prog 5 #[.slice A l.length c, .int .i64 a] w fun e w' => e = .returned (.bool true) ∧ Below w.heap.size w w' := by
  have h2 : (16384 : Int) < (l.length : Int) := by omega
  go_enter Tryd.func5, Tryd.ntmps5
  go_wp2_with fail
  refine (wakes2_calls w).mono ?_
  rintro e w1 ⟨rfl, hB⟩
  have HB := Aside0.mk hB
  clear hB
  go_wp2_with fail
  go_ret
  exact ⟨rfl, HB.out⟩
structure ReadsIn (w : World) (g cap : Nat) (l : List S37) (t : S43) (Aa Ab : Option Addr) (ca cb b6 b9 j : Nat) (ys : List S37) (wr : World) : Prop where
  row : k37.R 37 wr w.heap.size (fun _ => True) (.slice (some ⟨g, 0, none⟩) (l.length + 1) cap) ys
  rest : ∀ k, j ≤ k → k < l.length → ys[k]? = l[k]?
  ma : k43.R 43 wr w.heap.size (fun k => g < k) (.slice Aa t.f1.length ca) t.f1
  mb : k43.R 43 wr w.heap.size (fun k => g < k) (.slice Ab t.f1.length cb) t.f1
  h6 : wr.heap[b6]? = some (.cells #[.int .i8 t.f0, .slice Aa t.f1.length ca] 43 (0, 0))
  h9 : wr.heap[b9]? = some (.cells #[.int .i8 t.f0, .slice Ab t.f1.length cb] 43 (0, 0))
  below : Below w.heap.size w wr
theorem ReadsIn.after {w : World} {g cap : Nat} {l : List S37} {t : S43} {Aa Ab : Option Addr} {ca cb b6 b9 j : Nat} {ys : List S37} {wr w' : World} (h : ReadsIn w g cap l t Aa Ab ca cb b6 b9 j ys wr) (hB : Below wr.heap.size wr w') : ReadsIn w g cap l t Aa Ab ca cb b6 b9 j ys w' :=
  ⟨Kd.R_below h.row hB, h.rest, Kd.R_below h.ma hB, Kd.R_below h.mb hB, blk_below h.h6 hB, blk_below h.h9 hB, below_then h.below h.below.size hB⟩
theorem ReadsIn.spoil {w : World} {g cap : Nat} {l : List S37} {t : S43} {Aa Ab : Option Addr} {ca cb b6 b9 j : Nat} {ys : List S37} {wr : World} (h : ReadsIn w g cap l t Aa Ab ca cb b6 b9 j ys wr) (hlt : j < l.length) {x : S37} (hx : ys[j]? = some x) (hb : w.heap.size ≤ g) (hb6 : g < b6) (hb9 : b6 < b9) :
    ReadsIn w g cap l t Aa Ab ca cb b6 b9 (j + 1) (ys.set j wsp) ((((wr.setCell ⟨g, j * 4, none⟩ (.int .i8 0)).setCell ⟨g, j * 4 + 1, none⟩ (.string ⟨#[115, 112, 111, 105, 108, 116]⟩)).setCell ⟨g, j * 4 + 2, none⟩ (.int .i64 0)).setCell ⟨g, j * 4 + 3, none⟩ (.int .i64 0)) := by
  obtain ⟨m0, m1, m2, m3⟩ := mine_cells h.row hx
  obtain ⟨hrow, hg⟩ := Kd.R_seg h.row (j : Int) (by omega) (by omega) (c := [.int .i8 x.f0, .string x.f1, .int .i64 x.f2, .int .i64 x.f3]) (seg := [.int .i8 0, .string ⟨#[115, 112, 111, 105, 108, 116]⟩, .int .i64 0, .int .i64 0]) (j := 0) rfl (fun q u hq => by
    rw [Int.toNat_natCast]
    match q, hq with
    | 0, hq => injection hq with hq; subst hq; exact m0
    | 1, hq => injection hq with hq; subst hq; exact m1
    | 2, hq => injection hq with hq; subst hq; exact m2
    | 3, hq => injection hq with hq; subst hq; exact m3
    | (q + 4), hq => simp at hq) (by decide) (x' := wsp) (okp := fun _ => False) (k37_mkM _ _ _ wsp) (fun _ h => h.elim)
  rw [Int.toNat_natCast] at hrow hg
  have e : wr.setCells g (j * k37.sz + 0) [.int .i8 0, .string ⟨#[115, 112, 111, 105, 108, 116]⟩, .int .i64 0, .int .i64 0] = ((((wr.setCell ⟨g, j * 4, none⟩ (.int .i8 0)).setCell ⟨g, j * 4 + 1, none⟩ (.string ⟨#[115, 112, 111, 105, 108, 116]⟩)).setCell ⟨g, j * 4 + 2, none⟩ (.int .i64 0)).setCell ⟨g, j * 4 + 3, none⟩ (.int .i64 0)) := rfl
  rw [e] at hrow hg
  refine ⟨hrow, fun k h1 h2 => ?_, Kd.R_grown h.ma hg (fun k hk e => by injection e with e; omega), Kd.R_grown h.mb hg (fun k hk e => by injection e with e; omega), blk_grown h.h6 hg (fun e => by injection e with e; omega), blk_grown h.h9 hg (fun e => by injection e with e; omega), ?_⟩
  · rw [List.getElem?_set_ne (by omega)]
    exact h.rest k (by omega) h2
  · exact (((h.below.setCell (p := ⟨g, j * 4, none⟩) hb _).setCell (p := ⟨g, j * 4 + 1, none⟩) hb _).setCell (p := ⟨g, j * 4 + 2, none⟩) hb _).setCell (p := ⟨g, j * 4 + 3, none⟩) hb _
set_option maxRecDepth 100000 in
set_option maxHeartbeats 6400000 in
theorem reads_small (A : Option Addr) (c : Nat) (l : List S37) (a : Int) (w : World) (hC : k37.C w A l.length l) (hc : l.length ≤ c) (hn : l.length ≤ 16384) (hg : HasErr w) : Calls Tryd.prog 5 #[.slice A l.length c, .int .i64 a] w fun e w' => e = .returned (.bool true) ∧ Below w.heap.size w w' := by
  have h2 : ¬ (16384 : Int) < (l.length : Int) := by omega
  have HC := Aside0.mk hC
  have HG := Aside0.mk hg
  have HR1 := Aside0.mk (row_empty (heap_alloc_new w (.cells #[] 37)) (Nat.le_refl w.heap.size))
  have HB1 := Aside0.mk ((Below.refl w.heap.size w).alloc (Nat.le_refl _) (.cells #[] 37))
  have q1 : w.heap.size ≤ (w.alloc (.cells #[] 37)).heap.size := by simp
  clear hC hg
  go_enter Tryd.func5, Tryd.ntmps5
  go_wp2_with (first
    | (at_builtin; refine Kd.R_append_rows k37 (w0 := w) w.heap.size rfl (.tmp 19) (.tmp 20) 22 37 (.agg #[.int .i8 0, .string ⟨#[]⟩, .int .i64 0, .int .i64 0]) 40 rfl Tryd.underlying22 info37 rfl (by decide) (by decide) _ [] l A l.length c (fun _ => True) (fun _ => False) (by rfl) (by rfl) HR1.out (Kd.C_below HC.out HB1.out) (fun x cs h => word_made _ _ _ x cs h) (fun _ h => h.elim) (fun _ _ => trivial) HB1.out q1 (by simp only [List.length_nil]; omega) ?_; intro r2 v2 hr2 hb2 hg2 hat2; have HR2 := Aside0.mk hr2; have HB2 := Aside0.mk hb2; have q2 := hb2.size; clear hr2 hb2 hg2 hat2 q1)
    | (at_builtin; refine Kd.R_append k37 (w0 := w) w.heap.size rfl (.tmp 21) (.tmp 23) 22 37 (.agg #[.int .i8 0, .string ⟨#[]⟩, .int .i64 0, .int .i64 0]) 40 rfl Tryd.underlying22 info37 rfl (by decide) (by decide) r2 ([] ++ l) w9 [.int .i8 9, .string ⟨#[]⟩, .int .i64 0, .int .i64 0] (fun _ => True) (fun _ => False) rfl rfl (k37_mkM _ _ _ w9) (fun b hb => hb.elim) (fun _ _ => trivial) HR2.out HB2.out q2 (by simp only [List.nil_append]; omega) ?_; intro v4 w4 hr4 hb4 hg4 hat4; obtain ⟨g, cap, rfl, hcap, hbg, hgl, hrow⟩ := mine_form hr4; have HR4 := Aside0.mk hrow; have HB4 := Aside0.mk hb4; clear hr4 hb4 hg4 hat4 hrow q2 HR1 HB1 HR2 HB2; have hle1 : l.length ≤ cap := by omega))
  obtain ⟨m, i, hi, hmn, hmx⟩ := place a l.length
  obtain ⟨r, hr⟩ : ∃ r, parE (6 * l.length + 5) 0 (toks l i) = r := ⟨_, rfl⟩
  obtain ⟨⟨t, J, E, P, S⟩, han⟩ : ∃ an, an = ansOf l i r := ⟨_, rfl⟩
  have HAN := Aside0.mk han
  have HPR := Aside0.mk hr
  have HMN := Aside0.mk (And.intro hmn hmx)
  clear han hr
  refine (read_any (mine_reads HR4.out) (by omega) hi hmn hmx _ (Nat.le_refl _) r HPR).mono ?_
  clear hmn hmx
  rintro e w5 hpost
  obtain ⟨hB, v, ev, rfl, hm, hev⟩ := rpost_ans hpost HAN.out
  obtain ⟨Aa, ca, rfl⟩ := Kd.R_slice hm
  have hgl5 : g < w5.heap.size := by have := hB.size; omega
  have MA : Aside0 (k43.R 43 w5 w.heap.size (fun k => g < k) (.slice Aa t.f1.length ca) t.f1) := .mk (Kd.R_lower (Kd.R_mono (Kd.R_bound hm) fun k hk => by omega) (by omega))
  have HE := Aside0.mk hev
  replace HR4 := Aside0.mk (Kd.R_below HR4.out hB)
  replace HB4 := Aside0.mk (below_then HB4.out HB4.out.size hB)
  clear hB hpost hm hev
  have hB := below1 w5 #[.int .i8 t.f0, .slice Aa t.f1.length ca] 43
  have B6 := Aside0.mk (heap_alloc_new w5 (.cells #[.int .i8 t.f0, .slice Aa t.f1.length ca] 43))
  replace MA := Aside0.mk (Kd.R_below MA.out hB)
  replace HE := Aside0.mk (HE.out.below hB)
  replace HR4 := Aside0.mk (Kd.R_below HR4.out hB)
  replace HB4 := Aside0.mk (below_then HB4.out HB4.out.size hB)
  clear hB
  go_wp2_with fail
  generalize w5.alloc (.cells #[.int .i8 t.f0, .slice Aa t.f1.length ca] 43) = w6 at *
  generalize w5.heap.size = b6 at *
  refine (rread_calls (Kd.C_below HC.out HB4.out) (by omega) hi HMN.out.1 HMN.out.2 _ (Nat.le_refl _) r HPR).mono ?_
  rintro e w7 hpost
  obtain ⟨hB, v, rfl, hm⟩ := rrpost_ans hpost HAN.out
  obtain ⟨Ab, cb, rfl⟩ := Kd.R_slice hm
  have hb6 := blk_lt B6.out
  have MB : Aside0 (k43.R 43 w7 w.heap.size (fun k => g < k) (.slice Ab t.f1.length cb) t.f1) := .mk (Kd.R_lower (Kd.R_mono (Kd.R_bound hm) fun k hk => by omega) HB4.out.size)
  replace MA := Aside0.mk (Kd.R_below MA.out hB)
  replace B6 := Aside0.mk (blk_below B6.out hB)
  replace HE := Aside0.mk (HE.out.below hB)
  replace HR4 := Aside0.mk (Kd.R_below HR4.out hB)
  replace HB4 := Aside0.mk (below_then HB4.out HB4.out.size hB)
  have hb67 : b6 < w7.heap.size := blk_lt B6.out
  clear hB hpost hm HMN HPR HAN hb6
  obtain ⟨k0, k1, hB⟩ := two_ w7 (.cells #[.int .i8 t.f0, .slice Ab t.f1.length cb] 43) (.cells #[.int .i64 E, .int .i64 P, .string S] 29)
  have B9 := Aside0.mk k0
  have B11 := Aside0.mk k1
  replace MA := Aside0.mk (Kd.R_below MA.out hB)
  replace MB := Aside0.mk (Kd.R_below MB.out hB)
  replace B6 := Aside0.mk (blk_below B6.out hB)
  replace HE := Aside0.mk (HE.out.below hB)
  replace HR4 := Aside0.mk (Kd.R_below HR4.out hB)
  replace HB4 := Aside0.mk (below_then HB4.out HB4.out.size hB)
  clear hB k0 k1
  go_wp2_with fail
  generalize ((w7.alloc (.cells #[.int .i8 t.f0, .slice Ab t.f1.length cb] 43)).alloc (.cells #[.int .i64 E, .int .i64 P, .string S] 29)) = w8 at *
  generalize w7.heap.size = b9 at *
  refine (lfault_any HE.out (HG.out.below HB4.out)).mono ?_
  rintro e wa ⟨rfl, hB⟩
  replace MA := Aside0.mk (Kd.R_below MA.out hB)
  replace MB := Aside0.mk (Kd.R_below MB.out hB)
  replace B6 := Aside0.mk (blk_below B6.out hB)
  replace B9 := Aside0.mk (blk_below B9.out hB)
  replace B11 := Aside0.mk (blk_below B11.out hB)
  replace HR4 := Aside0.mk (Kd.R_below HR4.out hB)
  replace HB4 := Aside0.mk (below_then HB4.out HB4.out.size hB)
  clear hB HE
  have hB := (Below.refl wa.heap.size wa).alloc (Nat.le_refl _) (.cells #[.int .i64 E, .int .i64 P, .string S] 29)
  have B12 := Aside0.mk (heap_alloc_new wa (.cells #[.int .i64 E, .int .i64 P, .string S] 29))
  replace MA := Aside0.mk (Kd.R_below MA.out hB)
  replace MB := Aside0.mk (Kd.R_below MB.out hB)
  replace B6 := Aside0.mk (blk_below B6.out hB)
  replace B9 := Aside0.mk (blk_below B9.out hB)
  replace B11 := Aside0.mk (blk_below B11.out hB)
  replace HR4 := Aside0.mk (Kd.R_below HR4.out hB)
  replace HB4 := Aside0.mk (below_then HB4.out HB4.out.size hB)
  clear hB
  have hneq := fun W => neq_f29 W E P S
  have x0 := (blk_cell B12.out 0).trans rfl
  have x1 := (blk_cell B12.out 1).trans rfl
  have x2 := (blk_cell B12.out 2).trans rfl
  simp at x0 x1 x2
  have y0 := (blk_cell B11.out 0).trans rfl
  have y1 := (blk_cell B11.out 1).trans rfl
  have y2 := (blk_cell B11.out 2).trans rfl
  simp at y0 y1 y2
  have u0 := (blk_cell B6.out 0).trans rfl
  have u1 := (blk_cell B6.out 1).trans rfl
  have v0 := (blk_cell B9.out 0).trans rfl
  have v1 := (blk_cell B9.out 1).trans rfl
  simp at u0 u1 v0 v1
  go_wp2_with fail
  clear hneq x0 x1 x2 y0 y1 y2 u0 u1 v0 v1
  refine (LikeType_calls (mine_isT MA.out) (mine_isT MB.out)).mono ?_
  rw [(like_iff t t).2 rfl]
  rintro e wb ⟨rfl, hB⟩
  replace MA := Aside0.mk (Kd.R_below MA.out hB)
  replace MB := Aside0.mk (Kd.R_below MB.out hB)
  replace B6 := Aside0.mk (blk_below B6.out hB)
  replace B9 := Aside0.mk (blk_below B9.out hB)
  replace B11 := Aside0.mk (blk_below B11.out hB)
  replace HR4 := Aside0.mk (Kd.R_below HR4.out hB)
  replace HB4 := Aside0.mk (below_then HB4.out HB4.out.size hB)
  clear hB B12 B11
  have hw9 : (l ++ [w9])[l.length]? = some w9 := by simp
  obtain ⟨c0, -, -, -⟩ := mine_cells HR4.out hw9
  have hc9 : w9.f0 = 9 := rfl
  rw [hc9] at c0
  clear hw9 hc9
  go_wp2_with fail
  clear c0
  have HI := Aside0.mk (show ReadsIn w g cap l t Aa Ab ca cb b6 b9 0 (l ++ [w9]) wb from ⟨HR4.out, fun k _ hk => by rw [List.getElem?_append_left hk], MA.out, MB.out, B6.out, B9.out, HB4.out⟩)
  clear HR4 MA MB B6 B9 HB4
  go_loopw [14] (fun kk wr => ∃ (j : Nat) (ys : List S37), kk = .int .i64 j ∧ j ≤ l.length ∧ ReadsIn w g cap l t Aa Ab ca cb b6 b9 j ys wr) (fun kk _ => l.length - (intOf kk).toNat)
  case atStart => exact ⟨0, _, rfl, Nat.zero_le _, HI.out⟩
  case round =>
    clear HI
    obtain ⟨j, ys, rfl, hj, hI⟩ := hrel
    by_cases hlt : j < l.length
    · have hltI : (j : Int) < (l.length : Int) := by omega
      have hx := hI.rest j (Nat.le_refl _) hlt
      obtain ⟨x, hx2⟩ : ∃ x, l[j]? = some x := ⟨_, List.getElem?_eq_getElem hlt⟩
      rw [hx2] at hx
      have HI := Aside0.mk hI
      have HX := Aside0.mk hx
      have HX2 := Aside0.mk hx2
      clear hI hx hx2
      go_wp2_with fail
      have hnx : l.length + 1 = ys.length := (Kd.R_reads' HI.out.row).1
      obtain ⟨m0, m1, m2, m3⟩ := mine_cells HI.out.row HX.out
      obtain ⟨ad, e1, x0, x1, x2, x3⟩ := word_at (Kd.C_below HC.out HI.out.below) j hlt _ HX2.out
      subst e1
      obtain ⟨k, T, N, P2⟩ := x
      simp only at x0 x1 x2 x3 m0 m1 m2 m3
      have hneq := fun W => neq_w37 W k N P2 T
      refine wp_region_held_drew (S := fun w' => (w'.cell? ⟨g, j * 4, none⟩ = some (.int .i8 k) ∧ w'.cell? ⟨g, j * 4 + 1, none⟩ = some (.string T) ∧ w'.cell? ⟨g, j * 4 + 2, none⟩ = some (.int .i64 N) ∧ w'.cell? ⟨g, j * 4 + 3, none⟩ = some (.int .i64 P2)) ∧ w'.cell? (ad.add (j * 4)) = some (.int .i8 k) ∧ w'.cell? ⟨(ad.add (j * 4)).block, (ad.add (j * 4)).off + 1, none⟩ = some (.string T) ∧ w'.cell? ⟨(ad.add (j * 4)).block, (ad.add (j * 4)).off + 2, none⟩ = some (.int .i64 N) ∧ w'.cell? ⟨(ad.add (j * 4)).block, (ad.add (j * 4)).off + 3, none⟩ = some (.int .i64 P2)) (by kernel_rfl) ⟨⟨m0, m1, m2, m3⟩, x0, x1, x2, x3⟩ (fun hHeld => ?_)
      have hB := (Below.refl wr.heap.size wr).drew
      replace HI := Aside0.mk (HI.out.after hB)
      clear hB x0 x1 x2 x3 m0 m1 m2 m3
      generalize wr.drew = wv at *
      refine tK 84 0 hHeld ?_
      refine tK 85 1 hHeld ?_
      refine takeH (d := some 86) (v := .pointer (some ⟨g, j * 4, none⟩)) 2 rfl rfl (by kernel_rfl) (by kernel_rfl) (by kernel_rfl) (fun _ _ _ h => h) (by rfl) (fun w hSw => by (try dsimp only at hSw); go_simp <;> first | done | (rw [if_pos (by omega)]) | (intro hcc; omega)) hHeld (nA ?_)
      refine tK 87 3 hHeld ?_
      refine tK 88 4 hHeld ?_
      refine tK 89 5 hHeld ?_
      refine takeH (d := some 90) (v := .pointer (some (ad.add (j * 4)))) 6 rfl rfl (by kernel_rfl) (by kernel_rfl) (by kernel_rfl) (fun _ _ _ h => h) (by rfl) (fun w hSw => by (try dsimp only at hSw); go_simp <;> first | done | (rw [if_pos (by omega)]) | (intro hcc; omega)) hHeld (nA ?_)
      refine tK 91 7 hHeld ?_
      refine tK 92 8 hHeld ?_
      refine wpAnyH_done (by kernel_rfl) ?_ _
      clear hHeld hneq
      obtain ⟨m0, m1, m2, m3⟩ := mine_cells HI.out.row HX.out
      obtain ⟨n0, n1, n2, n3⟩ := mine_frozen HI.out.row HX.out
      simp only at m0 m1 m2 m3
      have HS := Aside0.mk (HI.out.spoil hlt HX.out hbg hgl5 hb67)
      go_wp2_with fail
      exact ⟨⟨j + 1, _, by go_num, by omega, HS.out⟩, by simp [intOf]; omega⟩
    · have hltI : ¬ (j : Int) < (l.length : Int) := by omega
      have HI := Aside0.mk hI
      clear hI
      have u0 := (blk_cell HI.out.h6 0).trans rfl
      have u1 := (blk_cell HI.out.h6 1).trans rfl
      have v0 := (blk_cell HI.out.h9 0).trans rfl
      have v1 := (blk_cell HI.out.h9 1).trans rfl
      simp at u0 u1 v0 v1
      go_wp2_with fail
      clear u0 u1 v0 v1
      refine (LikeType_calls (mine_isT HI.out.ma) (mine_isT HI.out.mb)).mono ?_
      rw [(like_iff t t).2 rfl]
      rintro e wc ⟨rfl, hB⟩
      have HB := Aside0.mk (below_then HI.out.below HI.out.below.size hB)
      clear hB HI
      go_wp2_with fail
      refine (wakes2_calls _).mono ?_
      rintro e wd ⟨rfl, hB⟩
      replace HB := Aside0.mk (below_then HB.out HB.out.size hB)
      clear hB
      go_wp2_with fail
      go_ret
      exact ⟨rfl, HB.out⟩
theorem typesreads_walk (A : Option Addr) (c : Nat) (l : List S37) (a : Int) (w : World) (hC : k37.C w A l.length l) (hc : l.length ≤ c) (_ : (Lit.int .i64 a).wf = true) (hg : HasErr w) : Calls Tryd.prog 5 #[.slice A l.length c, .int .i64 a] w fun e w' => e = .returned (.bool true) ∧ Below w.heap.size w w' := by
  by_cases h : 16384 < l.length
  · exact reads_big A c l a w h
  · exact reads_small A c l a w hC hc (by omega) hg
end Go.Proofs.YtjmpejbciniceaaDoor.X
