/- Texts of this claim, joined: HWakes2, WkTypesBack. -/
import Derived.Deep.DeepCutAuto
import Derived.Deep.LoopGhost
import Derived.Test.YtjmpejbciniceaaJTypesBack0
import Derived.Test.YtjmpejbciniceaaJTypesBack1
import Derived.Test.YtjmpejbciniceaaJTypesBack2
import Derived.Test.YtjmpejbciniceaaJTypesBack3
import Derived.Test.YtjmpejbciniceaaJTypesBack4
import Derived.Test.YtjmpejbciniceaaJTypesBack5
import Derived.Test.YtjmpejbciniceaaJTypesBack6
import Derived.Test.YtjmpejbciniceaaJTypesBack7
import Derived.Test.YtjmpejbciniceaaJTypesBack8
import Derived.Test.YtjmpejbciniceaaJTypesBack9
import Derived.Test.YtjmpejbciniceaaJTypesBack10
import Derived.Test.YtjmpejbciniceaaJTypesBack11
import Derived.Test.YtjmpejbciniceaaJTypesBack12
import Derived.Test.YtjmpejbciniceaaJTypesBack13
import Derived.Test.YtjmpejbciniceaaJTypesBack14
/- The contract of layer 2's wakes, what the document says of a few types holds. -/
namespace Go.Proofs.Ytjmpejbciniceaa.X
open Go.RowKit Go.Proofs.YtjmpejbciniceaaW.PrintWords Go.Proofs.YtjmpejbciniceaaW.PrintLast Go.Proofs.YtjmpejbciniceaaW.PrintMore
set_option linter.unusedVariables false
set_option linter.unusedSimpArgs false

def fI : S35 := ⟨1, []⟩
def fA : S35 := ⟨3, [⟨1, []⟩, ⟨0, []⟩]⟩
def fF : S35 := ⟨3, [⟨3, [⟨1, []⟩, ⟨0, []⟩]⟩, ⟨1, []⟩]⟩
theorem rF : rightB fF = true := by kernel_rfl
theorem wF_text : textS fF = ⟨#[40, 105, 110, 116, 32, 45, 62, 32, 63, 41, 32, 45, 62, 32, 105, 110, 116]⟩ := by kernel_rfl
theorem wF_check : checkI fF = 0 := by kernel_rfl
theorem wF_ground : groundT fF = (⟨3, [z35, z35]⟩, true) := by kernel_rfl
theorem wZ_ground : groundT z35 = (z35, false) := by kernel_rfl
theorem wF_same : sameB ⟨3, [z35, z35]⟩ ⟨3, [⟨0, []⟩, ⟨0, []⟩]⟩ = true := by kernel_rfl
theorem wF_fun : checkI ⟨3, []⟩ = 20 := by kernel_rfl
theorem wF_nodes : ((min (nodes fF) 8193 : Nat) : Int) = 5 := by kernel_rfl
theorem wF_depth : depthI fF = 3 := by kernel_rfl
theorem wI_known : knownB ⟨1, []⟩ = true := by kernel_rfl
theorem wF_known : knownB fF = false := by kernel_rfl
set_option maxRecDepth 100000 in
set_option maxHeartbeats 1600000 in
theorem wakes2_calls (w : World) : Calls Try.prog 11 #[] w fun e w' => e = .returned (.bool true) ∧ Below w.heap.size w w' := by
  go_enter Try.func11, Try.ntmps11
  go_upto_region 2 with fail
  go_cut [2] (fun c2 wx => ∃ g A c, c2 = .pointer (some ⟨g, 0, none⟩) ∧ w.heap.size < g ∧ wx.heap[g]? = some (.cells #[.int .i8 3, .slice A 2 c] 35 (0, 0)) ∧ wx.heap[w.heap.size]? = some (.cells #[.int .i8 1, .slice none 0 0] 35 (0, 0)) ∧ IsT wx (.agg #[.int .i8 3, .slice A 2 c]) fF ∧ Below w.heap.size w wx)
  case first =>
    have hK1 := heap_alloc_new w (.cells #[.int .i8 1, .slice none 0 0] 35)
    have hW := below1 w #[.int .i8 1, .slice none 0 0] 35
    generalize w.alloc (.cells #[.int .i8 1, .slice none 0 0] 35) = W at *
    have K1 := Aside0.mk hK1
    have HW := Aside0.mk hW
    clear hK1 hW
    have OK := Aside0.mk (fun (w' : World) (h : Below W.heap.size W w') => (⟨pw_cell_below h ((blk_cell K1.out 0).trans rfl), pw_cell_below h ((blk_cell K1.out 1).trans rfl)⟩ : w'.cell? ⟨w.heap.size, 0, none⟩ = some (.int .i8 1) ∧ w'.cell? ⟨w.heap.size, 1, none⟩ = some (.slice none 0 0)))
    have HBW := Aside0.mk (Below.refl W.heap.size W)
    refine wp_region_held_drew (S := (fun w' => w'.cell? ⟨w.heap.size, 0, none⟩ = some (.int .i8 1) ∧ w'.cell? ⟨w.heap.size, 1, none⟩ = some (.slice none 0 0))) (by kernel_rfl) (OK.out _ HBW.out.drew) (fun hHeld => ?_)
    have HB := Aside0.mk HBW.out.drew
    generalize W.drew = w0 at *
    refine takeH (d := some 10) (v := ?_) 0 rfl rfl (by kernel_rfl) (by kernel_rfl) (by kernel_rfl) (fun _ _ _ h => h) (by rfl) ?_ hHeld ?_
    rotate_left
    · intro w hSw
      try dsimp only at hSw
      go_simp <;> with_reducible rfl
    try simp only [Act.put, List.setIfInBounds_toArray, List.set_cons_zero, List.set_cons_succ]
    refine takeH (d := some 11) (v := ?_) 1 rfl rfl (by kernel_rfl) (by kernel_rfl) (by kernel_rfl) (fun _ _ _ h => h) (by rfl) ?_ hHeld ?_
    rotate_left
    · intro w hSw
      try dsimp only at hSw
      go_simp <;> with_reducible rfl
    try simp only [Act.put, List.setIfInBounds_toArray, List.set_cons_zero, List.set_cons_succ]
    refine takeH (d := some 13) (v := ?_) 3 rfl rfl (by kernel_rfl) (by kernel_rfl) (by kernel_rfl) (fun _ _ _ h => h) (by rfl) ?_ hHeld ?_
    rotate_left
    · intro w hSw
      try dsimp only at hSw
      go_simp <;> with_reducible rfl
    try simp only [Act.put, List.setIfInBounds_toArray, List.set_cons_zero, List.set_cons_succ]
    refine wpAnyH_ready (rs := [2, 5]) (by kernel_rfl) (by simp) ?_
    refine AllReadyH.cons rfl (fun K hK => ?_) (AllReadyH.cons rfl (fun K hK => ?_) AllReadyH.nil)
    · go_simp
      refine (Of_calls (IsT.leaf _ 1) (IsT.leaf _ 0)).mono ?_
      rintro e w1 ⟨vv, rfl, ht, hB⟩
      obtain ⟨A3, c3, rfl, hl, hc⟩ := ht
      have TA := Aside0.mk (IsT.mk (k := 3) hl hc)
      replace HB := Aside0.mk (below_then HB.out HB.out.size hB)
      clear hl hc
      clear hB
      refine hK.out _ _ (OK.out _ HB.out) (fun hHeld => ?_)
      clear hK K
      try simp only [Act.put, List.setIfInBounds_toArray, List.set_cons_zero, List.set_cons_succ]
      refine wpAnyH_ready (rs := [4, 5]) (by kernel_rfl) (by simp) ?_
      refine AllReadyH.cons rfl (fun K hK => ?_) (AllReadyH.cons rfl (fun K hK => ?_) AllReadyH.nil)
      · go_simp
        refine (Of_calls TA.out (IsT.leaf _ 1)).mono ?_
        rintro e w2 ⟨vv, rfl, ht, hB⟩
        obtain ⟨A4, c4, rfl, hl, hc⟩ := ht
        have TF := Aside0.mk (IsT.mk (k := 3) hl hc)
        replace HB := Aside0.mk (below_then HB.out HB.out.size hB)
        clear hl hc
        clear hB
        refine hK.out _ _ (OK.out _ HB.out) (fun hHeld => ?_)
        clear hK K
        try simp only [Act.put, List.setIfInBounds_toArray, List.set_cons_zero, List.set_cons_succ]
        refine wpAnyH_ready (rs := [5]) (by kernel_rfl) (by simp) ?_
        refine AllReadyH.cons rfl (fun K hK => ?_) AllReadyH.nil
        go_simp
        have hB := below1 w2 #[.int .i8 0, .slice none 0 0] 35
        have KG := Aside0.mk (heap_alloc_new w2 (.cells #[.int .i8 0, .slice none 0 0] 35))
        have HG := Aside0.mk HB.out.size
        replace HB := Aside0.mk (below_then HB.out HB.out.size hB)
        replace TF := Aside0.mk (TF.out.below hB)
        clear hB
        refine hK.out _ _ (OK.out _ HB.out) (fun hHeld => ?_)
        clear hK K
        try simp only [Act.put, List.setIfInBounds_toArray, List.set_cons_zero, List.set_cons_succ]
        generalize w2.heap.size = g at *
        generalize w2.alloc (.cells #[.int .i8 0, .slice none 0 0] 35) = w3 at *
        refine wpAnyH_ready (rs := [6]) (by kernel_rfl) (by simp) ?_
        refine AllReadyH.cons rfl (fun K hK => ?_) AllReadyH.nil
        have e0 := (blk_cell KG.out 0).trans rfl
        have e1 := (blk_cell KG.out 1).trans rfl
        have z0 := blk_frozen KG.out 0
        have z1 := blk_frozen KG.out 1
        simp at e0 e1
        go_simp
        clear e0 e1 z0 z1
        have k1 := blk_lt K1.out
        have hB := below2s (a' := .int .i8 3) (b' := .slice A4 2 c4) HB.out (g := g) HG.out
        refine hK.out _ _ (OK.out _ hB) (fun hHeld => ?_)
        clear hK K
        refine wpAnyH_done (by kernel_rfl) ?_ _
        go_wp2_with fail
        go_meet
        exact ⟨g, A4, c4, rfl, Nat.lt_of_lt_of_le k1 HG.out, blk2 KG.out, blk_below K1.out hB, isT_far KG.out (kept2 w3 g (.int .i8 3) (.slice A4 2 c4)) rF TF.out, below_then HW.out HW.out.size hB⟩
      · go_simp
        have hB := below1 w1 #[.int .i8 0, .slice none 0 0] 35
        have KG := Aside0.mk (heap_alloc_new w1 (.cells #[.int .i8 0, .slice none 0 0] 35))
        have HG := Aside0.mk HB.out.size
        replace HB := Aside0.mk (below_then HB.out HB.out.size hB)
        replace TA := Aside0.mk (TA.out.below hB)
        clear hB
        refine hK.out _ _ (OK.out _ HB.out) (fun hHeld => ?_)
        clear hK K
        try simp only [Act.put, List.setIfInBounds_toArray, List.set_cons_zero, List.set_cons_succ]
        generalize w1.heap.size = g at *
        generalize w1.alloc (.cells #[.int .i8 0, .slice none 0 0] 35) = w2 at *
        refine wpAnyH_ready (rs := [4]) (by kernel_rfl) (by simp) ?_
        refine AllReadyH.cons rfl (fun K hK => ?_) AllReadyH.nil
        go_simp
        refine (Of_calls TA.out (IsT.leaf _ 1)).mono ?_
        rintro e w3 ⟨vv, rfl, ht, hB⟩
        obtain ⟨A4, c4, rfl, hl, hc⟩ := ht
        have TF := Aside0.mk (IsT.mk (k := 3) hl hc)
        replace HB := Aside0.mk (below_then HB.out HB.out.size hB)
        clear hl hc
        replace KG := Aside0.mk (blk_below KG.out hB)
        clear hB
        refine hK.out _ _ (OK.out _ HB.out) (fun hHeld => ?_)
        clear hK K
        try simp only [Act.put, List.setIfInBounds_toArray, List.set_cons_zero, List.set_cons_succ]
        refine wpAnyH_ready (rs := [6]) (by kernel_rfl) (by simp) ?_
        refine AllReadyH.cons rfl (fun K hK => ?_) AllReadyH.nil
        have e0 := (blk_cell KG.out 0).trans rfl
        have e1 := (blk_cell KG.out 1).trans rfl
        have z0 := blk_frozen KG.out 0
        have z1 := blk_frozen KG.out 1
        simp at e0 e1
        go_simp
        clear e0 e1 z0 z1
        have k1 := blk_lt K1.out
        have hB := below2s (a' := .int .i8 3) (b' := .slice A4 2 c4) HB.out (g := g) HG.out
        refine hK.out _ _ (OK.out _ hB) (fun hHeld => ?_)
        clear hK K
        refine wpAnyH_done (by kernel_rfl) ?_ _
        go_wp2_with fail
        go_meet
        exact ⟨g, A4, c4, rfl, Nat.lt_of_lt_of_le k1 HG.out, blk2 KG.out, blk_below K1.out hB, isT_far KG.out (kept2 w3 g (.int .i8 3) (.slice A4 2 c4)) rF TF.out, below_then HW.out HW.out.size hB⟩
    · go_simp
      have hB := below1 w0 #[.int .i8 0, .slice none 0 0] 35
      have KG := Aside0.mk (heap_alloc_new w0 (.cells #[.int .i8 0, .slice none 0 0] 35))
      have HG := Aside0.mk HB.out.size
      replace HB := Aside0.mk (below_then HB.out HB.out.size hB)
      clear hB
      refine hK.out _ _ (OK.out _ HB.out) (fun hHeld => ?_)
      clear hK K
      try simp only [Act.put, List.setIfInBounds_toArray, List.set_cons_zero, List.set_cons_succ]
      generalize w0.heap.size = g at *
      generalize w0.alloc (.cells #[.int .i8 0, .slice none 0 0] 35) = w1 at *
      refine wpAnyH_ready (rs := [2]) (by kernel_rfl) (by simp) ?_
      refine AllReadyH.cons rfl (fun K hK => ?_) AllReadyH.nil
      go_simp
      refine (Of_calls (IsT.leaf _ 1) (IsT.leaf _ 0)).mono ?_
      rintro e w2 ⟨vv, rfl, ht, hB⟩
      obtain ⟨A3, c3, rfl, hl, hc⟩ := ht
      have TA := Aside0.mk (IsT.mk (k := 3) hl hc)
      replace HB := Aside0.mk (below_then HB.out HB.out.size hB)
      clear hl hc
      replace KG := Aside0.mk (blk_below KG.out hB)
      clear hB
      refine hK.out _ _ (OK.out _ HB.out) (fun hHeld => ?_)
      clear hK K
      try simp only [Act.put, List.setIfInBounds_toArray, List.set_cons_zero, List.set_cons_succ]
      refine wpAnyH_ready (rs := [4]) (by kernel_rfl) (by simp) ?_
      refine AllReadyH.cons rfl (fun K hK => ?_) AllReadyH.nil
      go_simp
      refine (Of_calls TA.out (IsT.leaf _ 1)).mono ?_
      rintro e w3 ⟨vv, rfl, ht, hB⟩
      obtain ⟨A4, c4, rfl, hl, hc⟩ := ht
      have TF := Aside0.mk (IsT.mk (k := 3) hl hc)
      replace HB := Aside0.mk (below_then HB.out HB.out.size hB)
      clear hl hc
      replace KG := Aside0.mk (blk_below KG.out hB)
      clear hB
      refine hK.out _ _ (OK.out _ HB.out) (fun hHeld => ?_)
      clear hK K
      try simp only [Act.put, List.setIfInBounds_toArray, List.set_cons_zero, List.set_cons_succ]
      refine wpAnyH_ready (rs := [6]) (by kernel_rfl) (by simp) ?_
      refine AllReadyH.cons rfl (fun K hK => ?_) AllReadyH.nil
      have e0 := (blk_cell KG.out 0).trans rfl
      have e1 := (blk_cell KG.out 1).trans rfl
      have z0 := blk_frozen KG.out 0
      have z1 := blk_frozen KG.out 1
      simp at e0 e1
      go_simp
      clear e0 e1 z0 z1
      have k1 := blk_lt K1.out
      have hB := below2s (a' := .int .i8 3) (b' := .slice A4 2 c4) HB.out (g := g) HG.out
      refine hK.out _ _ (OK.out _ hB) (fun hHeld => ?_)
      clear hK K
      refine wpAnyH_done (by kernel_rfl) ?_ _
      go_wp2_with fail
      go_meet
      exact ⟨g, A4, c4, rfl, Nat.lt_of_lt_of_le k1 HG.out, blk2 KG.out, blk_below K1.out hB, isT_far KG.out (kept2 w3 g (.int .i8 3) (.slice A4 2 c4)) rF TF.out, below_then HW.out HW.out.size hB⟩
  case rest =>
    obtain ⟨g, A, c, rfl, hg, kg, k1, hT, hB⟩ := hcut
    have KG := Aside0.mk kg
    have K1 := Aside0.mk k1
    have TF := Aside0.mk hT
    have HB := Aside0.mk hB
    have FT := Aside0.mk wF_text
    have FCF := Aside0.mk wF_check
    have FG := Aside0.mk wF_ground
    have FGZ := Aside0.mk wZ_ground
    have FS := Aside0.mk wF_same
    have FC := Aside0.mk wF_fun
    have FN := Aside0.mk wF_nodes
    have FD := Aside0.mk wF_depth
    have FK1 := Aside0.mk wI_known
    have FK2 := Aside0.mk wF_known
    clear kg k1 hT hB
    have e0 : wc.cell? ⟨g, 0, none⟩ = some (.int .i8 3) := (blk_cell KG.out 0).trans rfl
    have e1 : wc.cell? ⟨g, 1, none⟩ = some (.slice A 2 c) := (blk_cell KG.out 1).trans rfl
    go_wp2_with fail
    refine (Text_calls TF.out).mono ?_
    unfold TPost
    rw [FT.out, FCF.out]
    rintro e w3 ⟨rfl, hB⟩
    replace KG := Aside0.mk (blk_below KG.out hB)
    replace K1 := Aside0.mk (blk_below K1.out hB)
    replace TF := Aside0.mk (TF.out.below hB)
    replace HB := Aside0.mk (below_then HB.out HB.out.size hB)
    clear hB
    clear e0 e1
    have e0 : w3.cell? ⟨g, 0, none⟩ = some (.int .i8 3) := (blk_cell KG.out 0).trans rfl
    have e1 : w3.cell? ⟨g, 1, none⟩ = some (.slice A 2 c) := (blk_cell KG.out 1).trans rfl
    go_wp2_with fail
    refine (Ground_calls TF.out).mono ?_
    rw [FG.out]
    rintro e w4 ⟨vv, rfl, ht, hB⟩
    obtain ⟨A5, c5, rfl, hl, hc⟩ := ht
    have T5 := Aside0.mk (IsT.mk (k := 3) hl hc)
    replace KG := Aside0.mk (blk_below KG.out hB)
    replace K1 := Aside0.mk (blk_below K1.out hB)
    replace TF := Aside0.mk (TF.out.below hB)
    replace HB := Aside0.mk (below_then HB.out HB.out.size hB)
    clear hB
    clear e0 e1 hl hc
    go_wp2_with fail
    have hB := below1 w4 #[.int .i8 3, .slice A5 2 c5] 35
    have K5 := Aside0.mk (heap_alloc_new w4 (.cells #[.int .i8 3, .slice A5 2 c5] 35))
    replace KG := Aside0.mk (blk_below KG.out hB)
    replace K1 := Aside0.mk (blk_below K1.out hB)
    replace TF := Aside0.mk (TF.out.below hB)
    replace HB := Aside0.mk (below_then HB.out HB.out.size hB)
    clear hB
    have hB := below1 w4 #[.int .i8 3, .slice A5 2 c5] 35
    replace T5 := Aside0.mk (T5.out.below hB)
    clear hB
    refine (Ground_calls (IsT.leaf _ 0)).mono ?_
    rw [show (⟨0, []⟩ : S35) = z35 from rfl, FGZ.out]
    rintro e w5 ⟨vv, rfl, ht, hB⟩
    obtain ⟨A8, c8, rfl, hl, hc⟩ := ht
    replace K5 := Aside0.mk (blk_below K5.out hB)
    replace T5 := Aside0.mk (T5.out.below hB)
    replace KG := Aside0.mk (blk_below KG.out hB)
    replace K1 := Aside0.mk (blk_below K1.out hB)
    replace TF := Aside0.mk (TF.out.below hB)
    replace HB := Aside0.mk (below_then HB.out HB.out.size hB)
    clear hB
    clear hl hc
    generalize w4.heap.size = n5 at *
    go_wp2_with fail
    have hB := below1 w5 #[.int .i8 0, .slice A8 0 c8] 35
    replace K5 := Aside0.mk (blk_below K5.out hB)
    replace T5 := Aside0.mk (T5.out.below hB)
    replace KG := Aside0.mk (blk_below KG.out hB)
    replace K1 := Aside0.mk (blk_below K1.out hB)
    replace TF := Aside0.mk (TF.out.below hB)
    replace HB := Aside0.mk (below_then HB.out HB.out.size hB)
    clear hB
    try simp only [z35, List.length_nil] at *
    generalize w5.alloc (.cells #[.int .i8 0, .slice A8 0 c8] 35) = W at *
    have OK := Aside0.mk (fun (w' : World) (h : Below W.heap.size W w') => (⟨⟨pw_cell_below h ((blk_cell K1.out 0).trans rfl), pw_cell_below h ((blk_cell K1.out 1).trans rfl)⟩, ⟨pw_cell_below h ((blk_cell KG.out 0).trans rfl), pw_cell_below h ((blk_cell KG.out 1).trans rfl)⟩, ⟨pw_cell_below h ((blk_cell K5.out 0).trans rfl), pw_cell_below h ((blk_cell K5.out 1).trans rfl)⟩⟩ : (w'.cell? ⟨w.heap.size, 0, none⟩ = some (.int .i8 1) ∧ w'.cell? ⟨w.heap.size, 1, none⟩ = some (.slice none 0 0)) ∧ (w'.cell? ⟨g, 0, none⟩ = some (.int .i8 3) ∧ w'.cell? ⟨g, 1, none⟩ = some (.slice A 2 c)) ∧ (w'.cell? ⟨n5, 0, none⟩ = some (.int .i8 3) ∧ w'.cell? ⟨n5, 1, none⟩ = some (.slice A5 2 c5))))
    have HBW := Aside0.mk (Below.refl W.heap.size W)
    refine wp_region_held_drew (S := (fun w' => (w'.cell? ⟨w.heap.size, 0, none⟩ = some (.int .i8 1) ∧ w'.cell? ⟨w.heap.size, 1, none⟩ = some (.slice none 0 0)) ∧ (w'.cell? ⟨g, 0, none⟩ = some (.int .i8 3) ∧ w'.cell? ⟨g, 1, none⟩ = some (.slice A 2 c)) ∧ (w'.cell? ⟨n5, 0, none⟩ = some (.int .i8 3) ∧ w'.cell? ⟨n5, 1, none⟩ = some (.slice A5 2 c5)))) (by kernel_rfl) (OK.out _ HBW.out.drew) (fun hHeld => ?_)
    refine takeH (d := some 30) (v := ?_) 0 rfl rfl (by kernel_rfl) (by kernel_rfl) (by kernel_rfl) (fun _ _ _ h => h) (by rfl) ?_ hHeld ?_
    rotate_left
    · intro w hSw
      try dsimp only at hSw
      go_simp <;> with_reducible rfl
    try simp only [Act.put, List.setIfInBounds_toArray, List.set_cons_zero, List.set_cons_succ]
    refine takeH (d := some 31) (v := ?_) 1 rfl rfl (by kernel_rfl) (by kernel_rfl) (by kernel_rfl) (fun _ _ _ h => h) (by rfl) ?_ hHeld ?_
    rotate_left
    · intro w hSw
      try dsimp only at hSw
      go_simp <;> with_reducible rfl
    try simp only [Act.put, List.setIfInBounds_toArray, List.set_cons_zero, List.set_cons_succ]
    refine takeH (d := some 32) (v := ?_) 2 rfl rfl (by kernel_rfl) (by kernel_rfl) (by kernel_rfl) (fun _ _ _ h => h) (by rfl) ?_ hHeld ?_
    rotate_left
    · intro w hSw
      try dsimp only at hSw
      go_simp <;> with_reducible rfl
    try simp only [Act.put, List.setIfInBounds_toArray, List.set_cons_zero, List.set_cons_succ]
    refine takeH (d := some 33) (v := ?_) 3 rfl rfl (by kernel_rfl) (by kernel_rfl) (by kernel_rfl) (fun _ _ _ h => h) (by rfl) ?_ hHeld ?_
    rotate_left
    · intro w hSw
      try dsimp only at hSw
      go_simp <;> with_reducible rfl
    try simp only [Act.put, List.setIfInBounds_toArray, List.set_cons_zero, List.set_cons_succ]
    refine takeH (d := some 34) (v := ?_) 4 rfl rfl (by kernel_rfl) (by kernel_rfl) (by kernel_rfl) (fun _ _ _ h => h) (by rfl) ?_ hHeld ?_
    rotate_left
    · intro w hSw
      try dsimp only at hSw
      go_simp <;> with_reducible rfl
    try simp only [Act.put, List.setIfInBounds_toArray, List.set_cons_zero, List.set_cons_succ]
    refine takeH (d := some 35) (v := ?_) 5 rfl rfl (by kernel_rfl) (by kernel_rfl) (by kernel_rfl) (fun _ _ _ h => h) (by rfl) ?_ hHeld ?_
    rotate_left
    · intro w hSw
      try dsimp only at hSw
      go_simp <;> with_reducible rfl
    try simp only [Act.put, List.setIfInBounds_toArray, List.set_cons_zero, List.set_cons_succ]
    refine takeH (d := some 36) (v := ?_) 6 rfl rfl (by kernel_rfl) (by kernel_rfl) (by kernel_rfl) (fun _ _ _ h => h) (by rfl) ?_ hHeld ?_
    rotate_left
    · intro w hSw
      try dsimp only at hSw
      go_simp <;> with_reducible rfl
    try simp only [Act.put, List.setIfInBounds_toArray, List.set_cons_zero, List.set_cons_succ]
    refine takeH (d := some 37) (v := ?_) 7 rfl rfl (by kernel_rfl) (by kernel_rfl) (by kernel_rfl) (fun _ _ _ h => h) (by rfl) ?_ hHeld ?_
    rotate_left
    · intro w hSw
      try dsimp only at hSw
      go_simp <;> with_reducible rfl
    try simp only [Act.put, List.setIfInBounds_toArray, List.set_cons_zero, List.set_cons_succ]
    refine takeH (d := some 38) (v := ?_) 8 rfl rfl (by kernel_rfl) (by kernel_rfl) (by kernel_rfl) (fun _ _ _ h => h) (by rfl) ?_ hHeld ?_
    rotate_left
    · intro w hSw
      try dsimp only at hSw
      go_simp <;> with_reducible rfl
    try simp only [Act.put, List.setIfInBounds_toArray, List.set_cons_zero, List.set_cons_succ]
    refine takeH (d := some 39) (v := ?_) 9 rfl rfl (by kernel_rfl) (by kernel_rfl) (by kernel_rfl) (fun _ _ _ h => h) (by rfl) ?_ hHeld ?_
    rotate_left
    · intro w hSw
      try dsimp only at hSw
      go_simp <;> with_reducible rfl
    try simp only [Act.put, List.setIfInBounds_toArray, List.set_cons_zero, List.set_cons_succ]
    refine takeH (d := some 40) (v := ?_) 10 rfl rfl (by kernel_rfl) (by kernel_rfl) (by kernel_rfl) (fun _ _ _ h => h) (by rfl) ?_ hHeld ?_
    rotate_left
    · intro w hSw
      try dsimp only at hSw
      go_simp <;> with_reducible rfl
    try simp only [Act.put, List.setIfInBounds_toArray, List.set_cons_zero, List.set_cons_succ]
    refine takeH (d := some 41) (v := ?_) 11 rfl rfl (by kernel_rfl) (by kernel_rfl) (by kernel_rfl) (fun _ _ _ h => h) (by rfl) ?_ hHeld ?_
    rotate_left
    · intro w hSw
      try dsimp only at hSw
      go_simp <;> with_reducible rfl
    try simp only [Act.put, List.setIfInBounds_toArray, List.set_cons_zero, List.set_cons_succ]
    refine takeH (d := some 42) (v := ?_) 12 rfl rfl (by kernel_rfl) (by kernel_rfl) (by kernel_rfl) (fun _ _ _ h => h) (by rfl) ?_ hHeld ?_
    rotate_left
    · intro w hSw
      try dsimp only at hSw
      go_simp <;> with_reducible rfl
    try simp only [Act.put, List.setIfInBounds_toArray, List.set_cons_zero, List.set_cons_succ]
    refine callH (d := some 43) 13 rfl rfl (by kernel_rfl) (by rfl) (by kernel_rfl) (Of_calls (k := 3) (IsT.leaf _ 0) (IsT.leaf _ 0)) ?_
    rintro e u1 ⟨vv, rfl, ht, hB⟩
    obtain ⟨A7, c7, rfl, hl, hc⟩ := ht
    have TV := Aside0.mk (IsT.mk (k := 3) hl hc)
    have H1 := Aside0.mk (below_then HBW.out.drew (HBW.out.drew).size hB)
    clear hB hl hc
    refine ⟨_, rfl, OK.out _ H1.out, fun hHeld => ?_⟩
    try simp only [Act.put, List.setIfInBounds_toArray, List.set_cons_zero, List.set_cons_succ]
    refine callH (d := some 44) 14 rfl rfl (by kernel_rfl) (by rfl) (by kernel_rfl) (Same_calls ((T5).out.below H1.out) TV.out) ?_
    rw [(FS).out]
    rintro e u2 ⟨rfl, hB⟩
    have H2 := Aside0.mk (below_then H1.out (H1.out).size hB)
    clear hB
    refine ⟨_, rfl, OK.out _ H2.out, fun hHeld => ?_⟩
    try simp only [Act.put, List.setIfInBounds_toArray, List.set_cons_zero, List.set_cons_succ]
    refine takeH (d := some 45) (v := ?_) 15 rfl rfl (by kernel_rfl) (by kernel_rfl) (by kernel_rfl) (fun _ _ _ h => h) (by rfl) ?_ hHeld ?_
    rotate_left
    · intro w hSw
      try dsimp only at hSw
      go_simp <;> with_reducible rfl
    try simp only [Act.put, List.setIfInBounds_toArray, List.set_cons_zero, List.set_cons_succ]
    refine takeH (d := some 46) (v := ?_) 16 rfl rfl (by kernel_rfl) (by kernel_rfl) (by kernel_rfl) (fun _ _ _ h => h) (by rfl) ?_ hHeld ?_
    rotate_left
    · intro w hSw
      try dsimp only at hSw
      go_simp <;> with_reducible rfl
    try simp only [Act.put, List.setIfInBounds_toArray, List.set_cons_zero, List.set_cons_succ]
    refine takeH (d := some 47) (v := ?_) 17 rfl rfl (by kernel_rfl) (by kernel_rfl) (by kernel_rfl) (fun _ _ _ h => h) (by rfl) ?_ hHeld ?_
    rotate_left
    · intro w hSw
      try dsimp only at hSw
      go_simp <;> with_reducible rfl
    try simp only [Act.put, List.setIfInBounds_toArray, List.set_cons_zero, List.set_cons_succ]
    refine takeH (d := some 48) (v := ?_) 18 rfl rfl (by kernel_rfl) (by kernel_rfl) (by kernel_rfl) (fun _ _ _ h => h) (by rfl) ?_ hHeld ?_
    rotate_left
    · intro w hSw
      try dsimp only at hSw
      go_simp <;> with_reducible rfl
    try simp only [Act.put, List.setIfInBounds_toArray, List.set_cons_zero, List.set_cons_succ]
    refine takeH (d := some 49) (v := ?_) 19 rfl rfl (by kernel_rfl) (by kernel_rfl) (by kernel_rfl) (fun _ _ _ h => h) (by rfl) ?_ hHeld ?_
    rotate_left
    · intro w hSw
      try dsimp only at hSw
      go_simp <;> with_reducible rfl
    try simp only [Act.put, List.setIfInBounds_toArray, List.set_cons_zero, List.set_cons_succ]
    refine takeH (d := some 50) (v := ?_) 20 rfl rfl (by kernel_rfl) (by kernel_rfl) (by kernel_rfl) (fun _ _ _ h => h) (by rfl) ?_ hHeld ?_
    rotate_left
    · intro w hSw
      try dsimp only at hSw
      go_simp <;> with_reducible rfl
    try simp only [Act.put, List.setIfInBounds_toArray, List.set_cons_zero, List.set_cons_succ]
    refine takeH (d := some 51) (v := ?_) 21 rfl rfl (by kernel_rfl) (by kernel_rfl) (by kernel_rfl) (fun _ _ _ h => h) (by rfl) ?_ hHeld ?_
    rotate_left
    · intro w hSw
      try dsimp only at hSw
      go_simp <;> with_reducible rfl
    try simp only [Act.put, List.setIfInBounds_toArray, List.set_cons_zero, List.set_cons_succ]
    refine callH (d := some 52) 22 rfl rfl (by kernel_rfl) (by rfl) (by kernel_rfl) (Check_calls (IsT.leaf _ 3)) ?_
    rw [(FC).out]
    rintro e u3 ⟨rfl, hB⟩
    have H3 := Aside0.mk (below_then H2.out (H2.out).size hB)
    clear hB
    refine ⟨_, rfl, OK.out _ H3.out, fun hHeld => ?_⟩
    try simp only [Act.put, List.setIfInBounds_toArray, List.set_cons_zero, List.set_cons_succ]
    refine takeH (d := some 53) (v := ?_) 23 rfl rfl (by kernel_rfl) (by kernel_rfl) (by kernel_rfl) (fun _ _ _ h => h) (by rfl) ?_ hHeld ?_
    rotate_left
    · intro w hSw
      try dsimp only at hSw
      go_simp <;> with_reducible rfl
    try simp only [Act.put, List.setIfInBounds_toArray, List.set_cons_zero, List.set_cons_succ]
    refine takeH (d := some 54) (v := ?_) 24 rfl rfl (by kernel_rfl) (by kernel_rfl) (by kernel_rfl) (fun _ _ _ h => h) (by rfl) ?_ hHeld ?_
    rotate_left
    · intro w hSw
      try dsimp only at hSw
      go_simp <;> with_reducible rfl
    try simp only [Act.put, List.setIfInBounds_toArray, List.set_cons_zero, List.set_cons_succ]
    refine takeH (d := some 55) (v := ?_) 25 rfl rfl (by kernel_rfl) (by kernel_rfl) (by kernel_rfl) (fun _ _ _ h => h) (by rfl) ?_ hHeld ?_
    rotate_left
    · intro w hSw
      try dsimp only at hSw
      go_simp <;> with_reducible rfl
    try simp only [Act.put, List.setIfInBounds_toArray, List.set_cons_zero, List.set_cons_succ]
    refine takeH (d := some 56) (v := ?_) 26 rfl rfl (by kernel_rfl) (by kernel_rfl) (by kernel_rfl) (fun _ _ _ h => h) (by rfl) ?_ hHeld ?_
    rotate_left
    · intro w hSw
      try dsimp only at hSw
      go_simp <;> with_reducible rfl
    try simp only [Act.put, List.setIfInBounds_toArray, List.set_cons_zero, List.set_cons_succ]
    refine callH (d := some 57) 27 rfl rfl (by kernel_rfl) (by rfl) (by kernel_rfl) (Nodes_calls ((TF).out.below H3.out)) ?_
    rw [(FN).out]
    rintro e u4 ⟨rfl, hB⟩
    have H4 := Aside0.mk (below_then H3.out (H3.out).size hB)
    clear hB
    refine ⟨_, rfl, OK.out _ H4.out, fun hHeld => ?_⟩
    try simp only [Act.put, List.setIfInBounds_toArray, List.set_cons_zero, List.set_cons_succ]
    refine takeH (d := some 58) (v := ?_) 28 rfl rfl (by kernel_rfl) (by kernel_rfl) (by kernel_rfl) (fun _ _ _ h => h) (by rfl) ?_ hHeld ?_
    rotate_left
    · intro w hSw
      try dsimp only at hSw
      go_simp <;> with_reducible rfl
    try simp only [Act.put, List.setIfInBounds_toArray, List.set_cons_zero, List.set_cons_succ]
    refine takeH (d := some 59) (v := ?_) 29 rfl rfl (by kernel_rfl) (by kernel_rfl) (by kernel_rfl) (fun _ _ _ h => h) (by rfl) ?_ hHeld ?_
    rotate_left
    · intro w hSw
      try dsimp only at hSw
      go_simp <;> with_reducible rfl
    try simp only [Act.put, List.setIfInBounds_toArray, List.set_cons_zero, List.set_cons_succ]
    refine takeH (d := some 60) (v := ?_) 30 rfl rfl (by kernel_rfl) (by kernel_rfl) (by kernel_rfl) (fun _ _ _ h => h) (by rfl) ?_ hHeld ?_
    rotate_left
    · intro w hSw
      try dsimp only at hSw
      go_simp <;> with_reducible rfl
    try simp only [Act.put, List.setIfInBounds_toArray, List.set_cons_zero, List.set_cons_succ]
    refine takeH (d := some 61) (v := ?_) 31 rfl rfl (by kernel_rfl) (by kernel_rfl) (by kernel_rfl) (fun _ _ _ h => h) (by rfl) ?_ hHeld ?_
    rotate_left
    · intro w hSw
      try dsimp only at hSw
      go_simp <;> with_reducible rfl
    try simp only [Act.put, List.setIfInBounds_toArray, List.set_cons_zero, List.set_cons_succ]
    refine callH (d := some 62) 32 rfl rfl (by kernel_rfl) (by rfl) (by kernel_rfl) (Depth_calls ((TF).out.below H4.out)) ?_
    rw [(FD).out]
    rintro e u5 ⟨rfl, hB⟩
    have H5 := Aside0.mk (below_then H4.out (H4.out).size hB)
    clear hB
    refine ⟨_, rfl, OK.out _ H5.out, fun hHeld => ?_⟩
    try simp only [Act.put, List.setIfInBounds_toArray, List.set_cons_zero, List.set_cons_succ]
    refine takeH (d := some 63) (v := ?_) 33 rfl rfl (by kernel_rfl) (by kernel_rfl) (by kernel_rfl) (fun _ _ _ h => h) (by rfl) ?_ hHeld ?_
    rotate_left
    · intro w hSw
      try dsimp only at hSw
      go_simp <;> with_reducible rfl
    try simp only [Act.put, List.setIfInBounds_toArray, List.set_cons_zero, List.set_cons_succ]
    refine takeH (d := some 64) (v := ?_) 34 rfl rfl (by kernel_rfl) (by kernel_rfl) (by kernel_rfl) (fun _ _ _ h => h) (by rfl) ?_ hHeld ?_
    rotate_left
    · intro w hSw
      try dsimp only at hSw
      go_simp <;> with_reducible rfl
    try simp only [Act.put, List.setIfInBounds_toArray, List.set_cons_zero, List.set_cons_succ]
    refine takeH (d := some 65) (v := ?_) 35 rfl rfl (by kernel_rfl) (by kernel_rfl) (by kernel_rfl) (fun _ _ _ h => h) (by rfl) ?_ hHeld ?_
    rotate_left
    · intro w hSw
      try dsimp only at hSw
      go_simp <;> with_reducible rfl
    try simp only [Act.put, List.setIfInBounds_toArray, List.set_cons_zero, List.set_cons_succ]
    refine takeH (d := some 66) (v := ?_) 36 rfl rfl (by kernel_rfl) (by kernel_rfl) (by kernel_rfl) (fun _ _ _ h => h) (by rfl) ?_ hHeld ?_
    rotate_left
    · intro w hSw
      try dsimp only at hSw
      go_simp <;> with_reducible rfl
    try simp only [Act.put, List.setIfInBounds_toArray, List.set_cons_zero, List.set_cons_succ]
    refine callH (d := some 67) 37 rfl rfl (by kernel_rfl) (by rfl) (by kernel_rfl) (Known_calls (IsT.leaf _ 1)) ?_
    rw [(FK1).out]
    rintro e u6 ⟨rfl, hB⟩
    have H6 := Aside0.mk (below_then H5.out (H5.out).size hB)
    clear hB
    refine ⟨_, rfl, OK.out _ H6.out, fun hHeld => ?_⟩
    try simp only [Act.put, List.setIfInBounds_toArray, List.set_cons_zero, List.set_cons_succ]
    refine takeH (d := some 68) (v := ?_) 38 rfl rfl (by kernel_rfl) (by kernel_rfl) (by kernel_rfl) (fun _ _ _ h => h) (by rfl) ?_ hHeld ?_
    rotate_left
    · intro w hSw
      try dsimp only at hSw
      go_simp <;> with_reducible rfl
    try simp only [Act.put, List.setIfInBounds_toArray, List.set_cons_zero, List.set_cons_succ]
    refine takeH (d := some 69) (v := ?_) 39 rfl rfl (by kernel_rfl) (by kernel_rfl) (by kernel_rfl) (fun _ _ _ h => h) (by rfl) ?_ hHeld ?_
    rotate_left
    · intro w hSw
      try dsimp only at hSw
      go_simp <;> with_reducible rfl
    try simp only [Act.put, List.setIfInBounds_toArray, List.set_cons_zero, List.set_cons_succ]
    refine takeH (d := some 70) (v := ?_) 40 rfl rfl (by kernel_rfl) (by kernel_rfl) (by kernel_rfl) (fun _ _ _ h => h) (by rfl) ?_ hHeld ?_
    rotate_left
    · intro w hSw
      try dsimp only at hSw
      go_simp <;> with_reducible rfl
    try simp only [Act.put, List.setIfInBounds_toArray, List.set_cons_zero, List.set_cons_succ]
    refine callH (d := some 71) 41 rfl rfl (by kernel_rfl) (by rfl) (by kernel_rfl) (Known_calls ((TF).out.below H6.out)) ?_
    rw [(FK2).out]
    rintro e u7 ⟨rfl, hB⟩
    have H7 := Aside0.mk (below_then H6.out (H6.out).size hB)
    clear hB
    refine ⟨_, rfl, OK.out _ H7.out, fun hHeld => ?_⟩
    try simp only [Act.put, List.setIfInBounds_toArray, List.set_cons_zero, List.set_cons_succ]
    refine takeH (d := some 72) (v := ?_) 42 rfl rfl (by kernel_rfl) (by kernel_rfl) (by kernel_rfl) (fun _ _ _ h => h) (by rfl) ?_ hHeld ?_
    rotate_left
    · intro w hSw
      try dsimp only at hSw
      go_simp <;> with_reducible rfl
    try simp only [Act.put, List.setIfInBounds_toArray, List.set_cons_zero, List.set_cons_succ]
    refine takeH (d := some 73) (v := ?_) 43 rfl rfl (by kernel_rfl) (by kernel_rfl) (by kernel_rfl) (fun _ _ _ h => h) (by rfl) ?_ hHeld ?_
    rotate_left
    · intro w hSw
      try dsimp only at hSw
      go_simp <;> with_reducible rfl
    try simp only [Act.put, List.setIfInBounds_toArray, List.set_cons_zero, List.set_cons_succ]
    refine takeH (d := some 0) (v := ?_) 44 rfl rfl (by kernel_rfl) (by kernel_rfl) (by kernel_rfl) (fun _ _ _ h => h) (by rfl) ?_ hHeld ?_
    rotate_left
    · intro w hSw
      try dsimp only at hSw
      go_simp <;> with_reducible rfl
    try simp only [Act.put, List.setIfInBounds_toArray, List.set_cons_zero, List.set_cons_succ]
    refine wpAnyH_done (by kernel_rfl) ?_ _
    go_wp2_with fail
    go_ret
    exact ⟨rfl, below_then HB.out HB.out.size H7.out⟩
end Go.Proofs.Ytjmpejbciniceaa.X
/- The walk of the law TypesBack. -/
namespace Go.Proofs.Ytjmpejbciniceaa.X
open Go.RowKit Go.Proofs.YtjmpejbciniceaaW.PrintWords Go.Proofs.YtjmpejbciniceaaW.PrintLast Go.Proofs.YtjmpejbciniceaaW.PrintMore
set_option linter.unusedVariables false
set_option linter.unusedSimpArgs false

set_option maxRecDepth 100000 in
set_option maxHeartbeats 3200000 in
theorem back_no (t : S35) (w : World) (A : Option Addr) (ca : Nat) (T0 : Aside0 (IsT w (.agg #[.int .i8 t.f0, .slice A t.f1.length ca]) t)) (hc : checkI t ≠ 0) :
    Calls Try.prog 5 #[.agg #[.int .i8 t.f0, .slice A t.f1.length ca]] w fun e w' => e = .returned (.bool true) ∧ Below w.heap.size w w' := by
  have hs : textS t = ⟨#[]⟩ := by unfold textS; rw [if_neg hc]
  have HS := Aside0.mk hs
  obtain ⟨ck, hck⟩ : ∃ ck, ck = checkI t := ⟨_, rfl⟩
  have HC := Aside0.mk hck
  have h1 : (ck != 0) = true := by rw [bne_iff_ne, hck]; exact hc
  have h2 : (ck == ck) = true := by simp
  have hB0 := below1 w #[.int .i8 t.f0, .slice A t.f1.length ca] 35
  have HB := Aside0.mk hB0
  have K1 := Aside0.mk (heap_alloc_new w (.cells #[.int .i8 t.f0, .slice A t.f1.length ca] 35))
  replace T0 := Aside0.mk (IsT.below T0.out hB0)
  clear hs hc hck hB0
  go_enter Try.func5, Try.ntmps5
  go_wp2_with fail
  generalize w.alloc (.cells #[.int .i8 t.f0, .slice A t.f1.length ca] 35) = wa at *
  refine (Text_calls T0.out).mono ?_
  unfold TPost
  rw [HS.out, ← HC.out]
  rintro e w1 ⟨rfl, hB⟩
  replace K1 := Aside0.mk (blk_below K1.out hB)
  replace T0 := Aside0.mk (IsT.below T0.out hB)
  replace HB := Aside0.mk (below_then HB.out HB.out.size hB)
  clear hB
  have c0 := (blk_cell K1.out 0).trans rfl
  have c1 := (blk_cell K1.out 1).trans rfl
  simp at c0 c1
  go_wp2_with fail
  refine (Check_calls T0.out).mono ?_
  rw [← HC.out]
  rintro e w2 ⟨rfl, hB⟩
  replace HB := Aside0.mk (below_then HB.out HB.out.size hB)
  clear hB c0 c1
  go_wp2_with fail
  refine (wakes2_calls _).mono ?_
  rintro e w3 ⟨rfl, hB⟩
  replace HB := Aside0.mk (below_then HB.out HB.out.size hB)
  clear hB
  go_wp2_with fail
  go_ret
  exact ⟨rfl, HB.out⟩
set_option maxRecDepth 100000 in
set_option maxHeartbeats 3200000 in
theorem back_yes (t : S35) (w : World) (A : Option Addr) (ca : Nat) (T0 : Aside0 (IsT w (.agg #[.int .i8 t.f0, .slice A t.f1.length ca]) t)) (hc : checkI t = 0) :
    Calls Try.prog 5 #[.agg #[.int .i8 t.f0, .slice A t.f1.length ca]] w fun e w' => e = .returned (.bool true) ∧ Below w.heap.size w w' := by
  have HC := Aside0.mk hc
  obtain ⟨ws, hws, htk⟩ := text_scan t hc
  obtain ⟨xs, hxs⟩ : ∃ xs, xs = ws.map wv ++ [endV (textS t).size] := ⟨_, rfl⟩
  have hx0 : toks xs 0 = tokC t ++ [tkE] := by rw [hxs, toks_words, htk]
  have hxl : xs.length = ws.length + 1 := by rw [hxs]; simp
  have hwl := b_all_len hws
  have HX := Aside0.mk hx0
  have HXL := Aside0.mk hxl
  have HXS := Aside0.mk hxs
  have HWS := Aside0.mk hws
  have hn : xs.length ≤ 65537 := by omega
  have hn1 : 1 ≤ xs.length := by omega
  obtain ⟨f, hf, hread⟩ := back_read t hc (6 * xs.length + 5)
  have HRD : Aside0 (parE f 0 (toks xs 0) = .ok (t, [tkE])) := .mk (by rw [hx0]; exact hread)
  have HSM := Aside0.mk (same_refl hc)
  have hB0 := below1 w #[.int .i8 t.f0, .slice A t.f1.length ca] 35
  have HB := Aside0.mk hB0
  have K1 := Aside0.mk (heap_alloc_new w (.cells #[.int .i8 t.f0, .slice A t.f1.length ca] 35))
  replace T0 := Aside0.mk (IsT.below T0.out hB0)
  obtain ⟨S, hS⟩ : ∃ S, S = textS t := ⟨_, rfl⟩
  rw [← hS] at HXS HWS
  have HS := Aside0.mk hS
  clear hc hws htk hxs hx0 hxl hwl hread hB0 hS
  go_enter Try.func5, Try.ntmps5
  go_wp2_with fail
  generalize w.alloc (.cells #[.int .i8 t.f0, .slice A t.f1.length ca] 35) = wa at *
  refine (Text_calls T0.out).mono ?_
  unfold TPost
  rw [HC.out, ← HS.out]
  rintro e w1 ⟨rfl, hB⟩
  replace K1 := Aside0.mk (blk_below K1.out hB)
  replace T0 := Aside0.mk (IsT.below T0.out hB)
  replace HB := Aside0.mk (below_then HB.out HB.out.size hB)
  clear hB
  go_wp2_with fail
  refine (all_calls _ _).mono ?_
  rw [HWS.out]
  intro e w2 hp
  obtain ⟨Al, cl, rfl, hR, hB⟩ := b_all_ok hp
  rw [← HXS.out, ← HXL.out] at hR
  rw [← HXL.out]
  obtain ⟨hcl, hWd⟩ : xs.length ≤ cl ∧ Kd.C k29 w2 Al xs.length xs := by
    obtain ⟨A', c', he, hl, hr⟩ := Kd.R_reads hR
    injection he with e1 e2 e3
    subst e1 e3
    exact ⟨hl, hr⟩
  replace K1 := Aside0.mk (blk_below K1.out hB)
  replace T0 := Aside0.mk (IsT.below T0.out hB)
  replace HB := Aside0.mk (below_then HB.out HB.out.size hB)
  have HW := Aside0.mk hWd
  clear hB hp hR hWd
  go_wp2_with fail
  refine (read_low HW.out (by omega) (a := 0) (by omega) f hf _ HRD).mono ?_
  rintro e w3 ⟨hB, ⟨hck, v, j, rfl, hm, hj, hj2⟩ | ⟨hck, _⟩⟩
  rotate_left
  · exact absurd HC.out hck
  have hje : j + 1 = xs.length := by
    have := congrArg List.length (show [tkE] = toks xs j from hj2)
    rw [toks_len] at this
    simp at this
    omega
  obtain ⟨Ab, cb, rfl⟩ := Kd.R_slice hm
  have TB : Aside0 (IsT w3 (.agg #[.int .i8 t.f0, .slice Ab t.f1.length cb]) t) := .mk (IsT.of_R (w1 := w3) hm)
  replace K1 := Aside0.mk (blk_below K1.out hB)
  replace T0 := Aside0.mk (IsT.below T0.out hB)
  replace HB := Aside0.mk (below_then HB.out HB.out.size hB)
  replace HW := Aside0.mk (Kd.C_below HW.out hB)
  clear hB hm hck hj hj2
  have hB := below1 w3 #[.int .i8 t.f0, .slice Ab t.f1.length cb] 35
  have K2 := Aside0.mk (heap_alloc_new w3 (.cells #[.int .i8 t.f0, .slice Ab t.f1.length cb] 35))
  replace K1 := Aside0.mk (blk_below K1.out hB)
  replace T0 := Aside0.mk (IsT.below T0.out hB)
  replace TB := Aside0.mk (IsT.below TB.out hB)
  replace HB := Aside0.mk (below_then HB.out HB.out.size hB)
  replace HW := Aside0.mk (Kd.C_below HW.out hB)
  clear hB
  have c0 := (blk_cell K1.out 0).trans rfl
  have c1 := (blk_cell K1.out 1).trans rfl
  simp at c0 c1
  have hj3 : (j : Int) = (xs.length : Int) - 1 := by omega
  have HJ := Aside0.mk hj3
  clear hj3
  have hjb : ((j : Int) != (xs.length : Int) - 1) = false := by rw [HJ.out]; simp
  go_wp2_with fail
  generalize w3.alloc (.cells #[.int .i8 t.f0, .slice Ab t.f1.length cb] 35) = w4 at *
  refine (Same_calls T0.out TB.out).mono ?_
  rw [HSM.out]
  rintro e w5 ⟨rfl, hB⟩
  replace K1 := Aside0.mk (blk_below K1.out hB)
  replace T0 := Aside0.mk (IsT.below T0.out hB)
  replace HB := Aside0.mk (below_then HB.out HB.out.size hB)
  replace HW := Aside0.mk (Kd.C_below HW.out hB)
  replace TB := Aside0.mk (IsT.below TB.out hB)
  replace K2 := Aside0.mk (blk_below K2.out hB)
  clear hB c0 c1 hjb
  have d0 := (blk_cell K2.out 0).trans rfl
  have d1 := (blk_cell K2.out 1).trans rfl
  simp at d0 d1
  go_wp2_with fail
  refine (Text_calls TB.out).mono ?_
  unfold TPost
  rw [HC.out, ← HS.out]
  rintro e w6 ⟨rfl, hB⟩
  replace K1 := Aside0.mk (blk_below K1.out hB)
  replace T0 := Aside0.mk (IsT.below T0.out hB)
  replace HB := Aside0.mk (below_then HB.out HB.out.size hB)
  replace HW := Aside0.mk (Kd.C_below HW.out hB)
  clear hB d0 d1 TB K2
  generalize w3.heap.size = n3 at *
  generalize (j : Int) = jj at *
  go_wp2_with fail
  go_loopw [12, 13] (fun m i wr => ∃ k q : Nat, i = .int .i64 k ∧ m = .int .i64 q ∧ k ≤ xs.length ∧ q ≤ 40 ∧ Below w6.heap.size w6 wr) (fun _ i _ => xs.length - (intOf i).toNat)
  case atStart => exact ⟨0, 0, rfl, rfl, Nat.zero_le _, by omega, Below.refl _ _⟩
  case round =>
    obtain ⟨k, q, rfl, rfl, hk, hq, hB⟩ := hrel
    by_cases hlt : k < xs.length
    · by_cases hq40 : q < 40
      · obtain ⟨ad, hA, _, x1, _, _⟩ := word_at (Kd.C_below HW.out hB) k hlt _ (List.getElem?_eq_getElem hlt)
        subst hA
        have HBR := Aside0.mk hB
        clear hB
        obtain ⟨T, hT⟩ : ∃ T, T = (xs[k]'hlt).f1 := ⟨_, rfl⟩
        rw [← hT] at x1
        have HT := Aside0.mk hT
        clear hT
        by_cases ho : T.toList = [40]
        · have hb : (!T.toList == [40]) = false := by rw [ho]; rfl
          have htk : tkS (xs[k]'hlt) = tkO := (tok_text (check_nodes HC.out).2.2 HX.out k hlt).1 (by rw [← ho, HT.out]; rfl)
          obtain ⟨d0, hd0, hdl⟩ := match_at (check_nodes HC.out).2.2 HX.out k hlt htk
          have HTK := Aside0.mk htk
          have HD0 := Aside0.mk hd0
          clear htk hd0 ho
          go_wp2_with fail
          clear hb
          obtain ⟨K, hK⟩ : ∃ K, K = k + d0 := ⟨_, rfl⟩
          have HKK := Aside0.mk hK
          have hKl : K + 1 < xs.length := by omega
          clear hK
          go_loop [14, 15] (fun kk oo => ∃ j o d : Nat, kk = .int .i64 j ∧ oo = .int .i64 o ∧ mtF o (toks xs (j + 1)) = some d ∧ j + d = K) (fun kk _ => K - (intOf kk).toNat)
          case atStart => exact ⟨k, 1, d0, rfl, rfl, HD0.out, HKK.out.symm⟩
          case round =>
            obtain ⟨j2, o, d, rfl, rfl, hm, hjd⟩ := hrel
            rcases o with _ | o
            · have hd : d = 0 := by simp [mtF] at hm; omega
              have hj2 : j2 = K := by omega
              subst hj2
              clear hm hjd hd
              simp only [Int.natCast_zero]
              go_wp2_with fail
              refine wp_region_held_drew (S := fun _ => True) (by kernel_rfl) trivial (fun hHeld => ?_)
              replace HBR := Aside0.mk (below_then HBR.out HBR.out.size ((Below.refl wr.heap.size wr).drew))
              clear x1
              generalize wr.drew = v0 at *
              have hw1 : IntKind.i64.wrap ((k : Int) + 1) = (k : Int) + 1 := IntWalk.i64_in _ (by omega)
              have HW1 := Aside0.mk hw1
              clear hw1
              have hkj : k + 1 ≤ j2 := by have := mt_pos HD0.out; have := HKK.out; omega
              refine takeA 117 1 (v := ?_) ?_ hHeld ?_
              rotate_left
              · intro w hSw
                try dsimp only at hSw
                go_simp <;> with_reducible rfl
              try simp only [Act.put, List.setIfInBounds_toArray, List.set_cons_zero, List.set_cons_succ]
              refine takeA 118 2 (v := ?_) ?_ hHeld ?_
              rotate_left
              · intro w hSw
                try dsimp only at hSw
                go_simp <;> with_reducible rfl
              try simp only [Act.put, List.setIfInBounds_toArray, List.set_cons_zero, List.set_cons_succ]
              refine takeH (d := some 119) (v := .slice (some ad) k cl) 3 rfl rfl (by kernel_rfl) (by kernel_rfl) (by kernel_rfl) (fun _ _ _ h => h) (by rfl) (fun w hSw => by (try dsimp only at hSw); go_simp; first | done | exact HW1.out | (intro hcc; omega) | rw [if_pos (by omega), if_pos ⟨by omega, by omega⟩, if_neg (by omega)]) hHeld ?_
              try simp only [Act.put, List.setIfInBounds_toArray, List.set_cons_zero, List.set_cons_succ]
              refine takeA 121 5 (v := ?_) ?_ hHeld ?_
              rotate_left
              · intro w hSw
                try dsimp only at hSw
                go_simp <;> with_reducible rfl
              try simp only [Act.put, List.setIfInBounds_toArray, List.set_cons_zero, List.set_cons_succ]
              refine takeA 122 6 (v := ?_) ?_ hHeld ?_
              rotate_left
              · intro w hSw
                try dsimp only at hSw
                go_simp <;> with_reducible rfl
              try simp only [Act.put, List.setIfInBounds_toArray, List.set_cons_zero, List.set_cons_succ]
              refine takeH (d := some 123) (v := .int .i64 ((k : Int) + 1)) 7 rfl rfl (by kernel_rfl) (by kernel_rfl) (by kernel_rfl) (fun _ _ _ h => h) (by rfl) (fun w hSw => by (try dsimp only at hSw); go_simp; first | done | exact HW1.out | (intro hcc; omega) | rw [if_pos (by omega), if_pos ⟨by omega, by omega⟩, if_neg (by omega)]) hHeld ?_
              try simp only [Act.put, List.setIfInBounds_toArray, List.set_cons_zero, List.set_cons_succ]
              refine takeA 124 8 (v := ?_) ?_ hHeld ?_
              rotate_left
              · intro w hSw
                try dsimp only at hSw
                go_simp <;> with_reducible rfl
              try simp only [Act.put, List.setIfInBounds_toArray, List.set_cons_zero, List.set_cons_succ]
              refine takeH (d := some 125) (v := .slice (some (ad.add ((k + 1) * 4))) (j2 - (k + 1)) (cl - (k + 1))) 9 rfl rfl (by kernel_rfl) (by kernel_rfl) (by kernel_rfl) (fun _ _ _ h => h) (by rfl) (fun w hSw => by (try dsimp only at hSw); go_simp; first | done | exact HW1.out | (intro hcc; omega) | rw [if_pos (by omega), if_pos ⟨by omega, by omega⟩, if_neg (by omega)]) hHeld ?_
              try simp only [Act.put, List.setIfInBounds_toArray, List.set_cons_zero, List.set_cons_succ]
              refine wpAnyH_ready (rs := [0]) (by kernel_rfl) (by simp) ?_
              refine AllReadyH.cons rfl (fun K hK => ?_) AllReadyH.nil
              go_simp
              refine hK.out _ _ trivial (fun hHeld => ?_)
              clear hK K
              try simp only [Act.put, List.setIfInBounds_toArray, List.set_cons_zero, List.set_cons_succ]
              have HR1 := Aside0.mk (row_empty (heap_alloc_new v0 (.cells #[] 29)) HBR.out.size)
              replace HBR := Aside0.mk (HBR.out.alloc HBR.out.size (.cells #[] 29))
              generalize (Value.slice (some ⟨v0.heap.size, 0, none⟩) 0 0) = r1 at *
              generalize v0.alloc (.cells #[] 29) = v1 at *
              refine wpAnyH_ready (rs := [4]) (by kernel_rfl) (by simp) ?_
              refine AllReadyH.cons rfl (fun K hK => ?_) AllReadyH.nil
              have q1 := HBR.out.size
              refine Kd.R_append_rows_step k29 w6.heap.size (by rfl) (.tmp 116) (.tmp 119) 22 29 (.agg #[.int .i8 0, .string ⟨#[]⟩, .int .i64 0, .int .i64 0]) 40 rfl Try.underlying22 info29 rfl (by decide) (by decide) r1 [] (xs.take k) (some ad) k cl (fun _ => True) (fun _ => False) (by rfl) (by rfl) HR1.out (words_take (Kd.C_below HW.out HBR.out) k (by omega)) (fun x cs h => word_made _ _ _ x cs h) (fun _ h => h.elim) (fun _ _ => trivial) HBR.out q1 (by simp only [List.length_nil]; omega) ?_
              intro r2 v2 hr2 hb2 hg2 hat2
              have HR2 := Aside0.mk hr2
              replace HBR := Aside0.mk hb2
              clear q1 hr2 hb2 hg2 hat2 HR1
              refine hK.out _ _ trivial (fun hHeld => ?_)
              clear hK K
              try simp only [Act.put, List.setIfInBounds_toArray, List.set_cons_zero, List.set_cons_succ]
              refine wpAnyH_ready (rs := [10]) (by kernel_rfl) (by simp) ?_
              refine AllReadyH.cons rfl (fun K hK => ?_) AllReadyH.nil
              have q1 := HBR.out.size
              refine Kd.R_append_rows_step k29 w6.heap.size (by rfl) (.tmp 120) (.tmp 125) 22 29 (.agg #[.int .i8 0, .string ⟨#[]⟩, .int .i64 0, .int .i64 0]) 40 rfl Try.underlying22 info29 rfl (by decide) (by decide) r2 ([] ++ xs.take k) ((xs.take j2).drop (k + 1)) (some (ad.add ((k + 1) * 4))) (j2 - (k + 1)) (cl - (k + 1)) (fun _ => True) (fun _ => False) (by rfl) (by rfl) HR2.out (words_mid (Kd.C_below HW.out HBR.out) hcl (k + 1) j2 hkj (by omega)) (fun x cs h => word_made _ _ _ x cs h) (fun _ h => h.elim) (fun _ _ => trivial) HBR.out q1 (by simp only [List.nil_append, List.length_take]; omega) ?_
              intro r3 v3 hr3 hb3 hg3 hat3
              have HR3 := Aside0.mk hr3
              replace HBR := Aside0.mk hb3
              clear q1 hr3 hb3 hg3 hat3 HR2
              refine hK.out _ _ trivial (fun hHeld => ?_)
              clear hK K
              try simp only [Act.put, List.setIfInBounds_toArray, List.set_cons_zero, List.set_cons_succ]
              refine takeA 16 11 (v := ?_) ?_ hHeld ?_
              rotate_left
              · intro w hSw
                try dsimp only at hSw
                go_simp <;> with_reducible rfl
              try simp only [Act.put, List.setIfInBounds_toArray, List.set_cons_zero, List.set_cons_succ]
              refine wpAnyH_done (by kernel_rfl) ?_ _
              clear hHeld
              have hwj : IntKind.i64.wrap ((j2 : Int) + 1) = (j2 : Int) + 1 := IntWalk.i64_in _ (by omega)
              have q1 := HBR.out.size
              have HLN : Aside0 (([] ++ xs.take k ++ (xs.take j2).drop (k + 1)).length ≤ 65537) := .mk (by simp only [List.nil_append, List.length_append, List.length_take, List.length_drop]; omega)
              go_wp2_with (at_builtin; refine Kd.R_append_rows k29 w6.heap.size rfl (.tmp 127) (.tmp 131) 22 29 (.agg #[.int .i8 0, .string ⟨#[]⟩, .int .i64 0, .int .i64 0]) 40 rfl Try.underlying22 info29 rfl (by decide) (by decide) r3 ([] ++ xs.take k ++ (xs.take j2).drop (k + 1)) (xs.drop (j2 + 1)) (some (ad.add ((j2 + 1) * 4))) (xs.length - (j2 + 1)) (cl - (j2 + 1)) (fun _ => True) (fun _ => False) (by rfl) (by rfl) HR3.out (words_drop (Kd.C_below HW.out HBR.out) hcl (j2 + 1) hKl) (fun x cs h => word_made _ _ _ x cs h) (fun _ h => h.elim) (fun _ _ => trivial) HBR.out q1 (by have := HLN.out; omega) ?_; intro r4 v4 hr4 hb4 hg4 hat4)
              obtain ⟨ys, hys⟩ : ∃ ys, ys = lessOf xs k j2 := ⟨_, rfl⟩
              have hr5 : k29.R 29 v4 w6.heap.size (fun _ => True) r4 ys := by rw [hys]; exact hr4
              have hyl : ys.length = xs.length - 2 := by rw [hys]; exact less_len2 xs k j2 hkj hKl
              have HNO : Aside0 (∀ f, parE f 0 (toks ys 0) ≠ .ok (t, [tkE])) := .mk (fun f => by rw [hys]; exact less_not2 (check_nodes HC.out).2.2 HX.out k d0 j2 hlt HTK.out HD0.out hKl HKK.out f)
              have HLA : Aside0 (∀ j, j + 1 = ys.length → toks ys j = [tkE]) := .mk (fun j hj => by rw [hys] at hj ⊢; exact less_last HX.out k j2 hKl j hj)
              obtain ⟨A4, c4, e4, hl4, hC4⟩ := Kd.R_reads hr5
              subst e4
              have HC4 := Aside0.mk hC4
              replace HBR := Aside0.mk hb4
              have hyn : ys.length ≤ 65537 := by omega
              have hy1 : 1 ≤ ys.length ∨ ys.length = 0 := by omega
              clear hwj q1 hr4 hb4 hg4 hat4 hys hr5 hC4 HR3 HLN HW1 hyl HTK HD0
              obtain ⟨r, hr⟩ : ∃ r, parE (6 * ys.length + 5) 0 (toks ys 0) = r := ⟨_, rfl⟩
              have HR := Aside0.mk hr
              clear hr
              refine (read_low HC4.out (by omega) (a := 0) (by omega) _ (Nat.le_refl _) r HR).mono ?_
              have he : ∀ (qq : Addr) (W : World), (binOp .eql 24 (.iface 49 (.pointer (some qq))) .nilIface).run Try.prog W = .ok (.bool false) W := fun qq W => run_eql_held_nil W 24 49 _ (by kernel_rfl)
              cases r with
              | error u =>
                rintro e v5 ⟨hB, q2, j3, _, _, rfl, _⟩
                replace HBR := Aside0.mk (below_then HBR.out HBR.out.size hB)
                clear hB
                have hBA := HBR.out.alloc HBR.out.size (.cells #[.int .i8 0, .slice none 0 0] 35)
                replace HBR := Aside0.mk hBA
                clear hBA
                go_wp2_with fail
                exact ⟨⟨k + 1, q + 1, by go_num, by go_num, hlt, by omega, HBR.out⟩, by simp [intOf]; omega⟩
              | ok x =>
                rintro e v5 ⟨hB, ⟨hck, v', j3, rfl, hm, hj3, hj4⟩ | ⟨hck, q2, rfl, _⟩⟩
                · obtain ⟨A5, c5, rfl⟩ := Kd.R_slice hm
                  have TC : Aside0 (IsT v5 (.agg #[.int .i8 x.1.f0, .slice A5 x.1.f1.length c5]) x.1) := .mk (IsT.of_R (w1 := v5) hm)
                  replace HBR := Aside0.mk (below_then HBR.out HBR.out.size hB)
                  clear hB hm
                  have hB := below1 v5 #[.int .i8 x.1.f0, .slice A5 x.1.f1.length c5] 35
                  have K3 := Aside0.mk (heap_alloc_new v5 (.cells #[.int .i8 x.1.f0, .slice A5 x.1.f1.length c5] 35))
                  replace TC := Aside0.mk (IsT.below TC.out hB)
                  replace HBR := Aside0.mk (below_then HBR.out HBR.out.size hB)
                  have T0R := Aside0.mk (IsT.below T0.out HBR.out)
                  have K1R := Aside0.mk (blk_below K1.out HBR.out)
                  clear hB
                  have c0 := (blk_cell K1R.out 0).trans rfl
                  have c1 := (blk_cell K1R.out 1).trans rfl
                  simp at c0 c1
                  by_cases hlast : j3 + 1 = ys.length
                  · have HSF : Aside0 (sameB t x.1 = false) := .mk (by
                      cases hs : sameB t x.1 with
                      | false => rfl
                      | true =>
                        have e1 : x = (t, [tkE]) := by
                          have e2 := same_iff hs
                          have e3 : x.2 = [tkE] := hj4.trans (HLA.out j3 hlast)
                          cases x
                          simp only at e2 e3
                          rw [← e2, e3]
                        exact absurd (HR.out.trans (by rw [e1])) (HNO.out _))
                    have hj5 : ((j3 : Int) == (ys.length : Int) - 1) = true := by rw [beq_iff_eq]; omega
                    clear hlast hj4 hck
                    go_wp2_with fail
                    generalize v5.alloc (.cells #[.int .i8 x.1.f0, .slice A5 x.1.f1.length c5] 35) = v6 at *
                    refine (Same_calls T0R.out TC.out).mono ?_
                    rw [HSF.out]
                    rintro e v7 ⟨rfl, hB⟩
                    replace HBR := Aside0.mk (below_then HBR.out HBR.out.size hB)
                    clear hB c0 c1 hj5
                    go_wp2_with fail
                    exact ⟨⟨k + 1, q + 1, by go_num, by go_num, hlt, by omega, HBR.out⟩, by simp [intOf]; omega⟩
                  · have hj5 : ((j3 : Int) == (ys.length : Int) - 1) = false := by rw [beq_eq_false_iff_ne]; omega
                    clear hlast hj4 hck
                    go_wp2_with fail
                    exact ⟨⟨k + 1, q + 1, by go_num, by go_num, hlt, by omega, HBR.out⟩, by simp [intOf]; omega⟩
                · replace HBR := Aside0.mk (below_then HBR.out HBR.out.size hB)
                  clear hB hck
                  have hBA := HBR.out.alloc HBR.out.size (.cells #[.int .i8 0, .slice none 0 0] 35)
                  replace HBR := Aside0.mk hBA
                  clear hBA
                  go_wp2_with fail
                  exact ⟨⟨k + 1, q + 1, by go_num, by go_num, hlt, by omega, HBR.out⟩, by simp [intOf]; omega⟩
            · obtain ⟨d', hdd, hjl, hcase⟩ := match_step (check_nodes HC.out).2.2 HX.out hm
              obtain ⟨ad2, hA2, _, y1, _, _⟩ := word_at (Kd.C_below HW.out HBR.out) (j2 + 1) hjl _ (List.getElem?_eq_getElem hjl)
              injection hA2 with hA2
              subst hA2
              have hop : ((o + 1 : Nat) : Int) > 0 := by omega
              obtain ⟨T2, hT2⟩ : ∃ T2, T2 = (xs[j2 + 1]'hjl).f1 := ⟨_, rfl⟩
              rw [← hT2] at y1 hcase
              have hge := mt_ge _ _ _ hm
              clear hT2 hm
              have hj3 : j2 ≤ 65537 := by omega
              have ho3 : o ≤ 65537 := by omega
              rcases hcase with ⟨h1, h2⟩ | ⟨h1, h2⟩ | ⟨h1, h2, h3⟩
              · have hb : (T2.toList == [40]) = true := by rw [h1]; rfl
                have H2 := Aside0.mk h2
                clear h1 h2
                go_wp2_with fail
                exact ⟨⟨j2 + 1, o + 2, d', by go_num, by go_num, H2.out, by omega⟩, by simp [intOf]; omega⟩
              · have hb : (T2.toList == [40]) = false := by rw [h1]; rfl
                have hb2 : (T2.toList == [41]) = true := by rw [h1]; rfl
                have H2 := Aside0.mk h2
                clear h1 h2
                go_wp2_with fail
                exact ⟨⟨j2 + 1, o, d', by go_num, by first | rfl | go_num, H2.out, by omega⟩, by simp [intOf]; omega⟩
              · have hb : (T2.toList == [40]) = false := by simp [h1]
                have hb2 : (T2.toList == [41]) = false := by simp [h2]
                have H2 := Aside0.mk h3
                clear h1 h2 h3
                go_wp2_with fail
                exact ⟨⟨j2 + 1, o + 1, d', by go_num, by first | rfl | go_num, H2.out, by omega⟩, by simp [intOf]; omega⟩
        · have hb : (!T.toList == [40]) = true := by simp [ho]
          clear ho
          go_wp2_with fail
          go_roundw
          case rel => exact ⟨k + 1, q, by go_num, rfl, hlt, hq, HBR.out⟩
          case measure => simp [intOf]; omega
      · have hq41 : q = 40 := by omega
        have hqf : decide ((q : Int) < 40) = false := by simp; omega
        have HBR := Aside0.mk hB
        clear hB hq41
        go_wp2_with fail
        refine (wakes2_calls _).mono ?_
        rintro e v9 ⟨rfl, hB⟩
        replace HBR := Aside0.mk (below_then HBR.out HBR.out.size hB)
        clear hB
        go_wp2_with fail
        go_ret
        exact ⟨rfl, below_then HB.out HB.out.size HBR.out⟩
    · have HBR := Aside0.mk hB
      clear hB
      go_wp2_with fail
      refine (wakes2_calls _).mono ?_
      rintro e v9 ⟨rfl, hB⟩
      replace HBR := Aside0.mk (below_then HBR.out HBR.out.size hB)
      clear hB
      go_wp2_with fail
      go_ret
      exact ⟨rfl, below_then HB.out HB.out.size HBR.out⟩
theorem back_calls (t : S35) (w : World) (A : Option Addr) (ca : Nat) (h : IsT w (.agg #[.int .i8 t.f0, .slice A t.f1.length ca]) t) :
    Calls Try.prog 5 #[.agg #[.int .i8 t.f0, .slice A t.f1.length ca]] w fun e w' => e = .returned (.bool true) ∧ Below w.heap.size w w' := by
  by_cases hc : checkI t = 0
  · exact back_yes t w A ca (.mk h) hc
  · exact back_no t w A ca (.mk h) hc
theorem back_walk (v : Value) (t : S35) (w : World) (h : IsT w v t) : Calls Try.prog 5 #[v] w fun e w' => e = .returned (.bool true) ∧ Below w.heap.size w w' := by
  obtain ⟨A, c, rfl, h1, h2⟩ := h
  exact back_calls t w A c ⟨A, c, rfl, h1, h2⟩
end Go.Proofs.Ytjmpejbciniceaa.X
