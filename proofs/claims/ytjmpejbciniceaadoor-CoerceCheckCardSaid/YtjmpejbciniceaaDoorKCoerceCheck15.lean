/- Texts of this claim, joined: HText2, HCq, GSign2, HRefText, HRtx. -/
import Derived.Lib.ItoaMem
import Derived.Lib.Join
import Derived.RegionTactic
import Derived.Test.YtjmpejbciniceaaDoorKCoerceCheck1
import Derived.Test.YtjmpejbciniceaaDoorKCoerceCheck3
import Derived.Test.YtjmpejbciniceaaDoorKCoerceCheck5
import Derived.Test.YtjmpejbciniceaaDoorKCoerceCheck7
import Derived.Test.YtjmpejbciniceaaDoorKCoerceCheck8
import Derived.Test.YtjmpejbciniceaaDoorKCoerceCheck14
namespace Go.Proofs.YtjmpejbciniceaaDoor.X
open Go.RowKit Go.Proofs.YtjmpejbciniceaaDoorW.PrintWords Go.Proofs.YtjmpejbciniceaaDoorW.PrintLast Go.Proofs.YtjmpejbciniceaaDoorW.PrintMore
set_option linter.unusedVariables false
set_option linter.unusedSimpArgs false
theorem brk_fits {l : List UInt8} {t : S43} (h : l.length + 6 * nodes t ≤ 100000000) (hr : rightB t = true) : (l ++ [40] ++ core t).length + 1 ≤ 1000000000 := by
  have := core_len t hr
  simp only [List.length_append, List.length_cons, List.length_nil]
  omega
set_option maxRecDepth 100000 in
set_option maxHeartbeats 1600000 in
theorem write_brk (t : S43) (hk : leafK t.f0 ∨ nodeK t.f0) (least : Int) (h4 : tightI t.f0 < least) (v : Value) (l : List UInt8) (W0 w : World) (A : Option Addr) (c : Nat) (HR : Aside0 (rightB t = true)) (HT : Aside0 (IsT W0 (.agg #[.int .i8 t.f0, .slice A t.f1.length c]) t)) (HO : Aside0 (OwnB W0 v l w)) (HLEN : Aside0 (l.length + 6 * nodes t ≤ 100000000))
    (IH : Aside0 (∀ (v : Value) (w : World), OwnB W0 v (l ++ [40]) w → Calls Tryd.prog 73 #[v, .agg #[.int .i8 t.f0, .slice A t.f1.length c], .int .i64 0] w (WPost W0 v w (l ++ [40] ++ core t)))) :
    Calls Tryd.prog 73 #[v, .agg #[.int .i8 t.f0, .slice A t.f1.length c], .int .i64 least] w (WPost W0 v w (l ++ (40 :: (core t ++ [41])))) := by
  have hlen := HLEN.out
  have ne := HO.out.ne
  have NE := Aside0.mk ne
  clear ne
  go_enter Tryd.func73, Tryd.ntmps73
  go_wp2_with fail
  refine (tight_calls hk _).mono ?_
  rintro e w1 ⟨rfl, hB⟩
  obtain ⟨k1, hB1⟩ := one_block hB
  have K1 := Aside0.mk k1
  have G1 := Aside0.mk (Grew.below (v := v) hB1)
  replace HO := Aside0.mk (HO.out.after hB1)
  clear hB hB1 k1
  go_wp2_with fail
  have OK := Aside0.mk (fun (w' : World) (h : w'.heap[w.heap.size]? = some (.cells #[.int .i8 t.f0, .slice A t.f1.length c] 43 (0, 0))) => (⟨(blk_cell h 0).trans rfl, (blk_cell h 1).trans rfl⟩ : w'.cell? ⟨w.heap.size, 0, none⟩ = some (.int .i8 t.f0) ∧ w'.cell? ⟨w.heap.size, 1, none⟩ = some (.slice A t.f1.length c)))
  refine wp_region_held_drew (S := fun w' => w'.cell? ⟨w.heap.size, 0, none⟩ = some (.int .i8 t.f0) ∧ w'.cell? ⟨w.heap.size, 1, none⟩ = some (.slice A t.f1.length c)) (by kernel_rfl) (OK.out _ (blk_below K1.out (Below.refl _ _).drew)) (fun hHeld => ?_)
  replace K1 := Aside0.mk (blk_below K1.out (Below.refl _ _).drew)
  replace G1 := Aside0.mk (G1.out.trans (Grew.below (Below.refl _ _).drew))
  replace HO := Aside0.mk (HO.out.after (Below.refl _ _).drew)
  generalize w1.drew = wd at *
  refine takeH (d := some 16) (v := ?_) 0 rfl rfl (by kernel_rfl) (by kernel_rfl) (by kernel_rfl) (fun _ _ _ h => h) (by rfl) ?_ hHeld ?_
  rotate_left
  · intro w hSw
    try dsimp only at hSw
    go_simp <;> with_reducible rfl
  try simp only [Act.put, List.setIfInBounds_toArray, List.set_cons_zero, List.set_cons_succ]
  refine takeH (d := some 19) (v := ?_) 3 rfl rfl (by kernel_rfl) (by kernel_rfl) (by kernel_rfl) (fun _ _ _ h => h) (by rfl) ?_ hHeld ?_
  rotate_left
  · intro w hSw
    try dsimp only at hSw
    go_simp <;> with_reducible rfl
  try simp only [Act.put, List.setIfInBounds_toArray, List.set_cons_zero, List.set_cons_succ]
  refine wpAnyH_ready (rs := [1, 5]) (by kernel_rfl) (by simp) ?_
  refine AllReadyH.cons rfl (fun K hK => ?_) (AllReadyH.cons rfl (fun K hK => ?_) AllReadyH.nil)
  · go_simp
    have nx := HO.out.ne
    have hx := heap_alloc_new wd (.cells #[.int .u8 40] 5)
    have hB := below1 wd #[.int .u8 40] 5
    refine hK.out _ _ (OK.out _ (blk_below K1.out hB)) (fun hHeld => ?_)
    clear hK K
    replace K1 := Aside0.mk (blk_below K1.out hB)
    have H40 := Aside0.mk hx
    have N40 := Aside0.mk nx
    replace G1 := Aside0.mk (G1.out.trans (Grew.below hB))
    replace HO := Aside0.mk (HO.out.after hB)
    clear hx nx
    clear hB
    generalize wd.heap.size = g40 at *
    generalize wd.alloc (.cells #[.int .u8 40] 5) = w2 at *
    try simp only [Act.put, List.setIfInBounds_toArray, List.set_cons_zero, List.set_cons_succ]
    refine wpAnyH_ready (rs := [2, 5]) (by kernel_rfl) (by simp) ?_
    refine AllReadyH.cons rfl (fun K hK => ?_) (AllReadyH.cons rfl (fun K hK => ?_) AllReadyH.nil)
    · rw [if_pos (by rfl)]
      refine wp_byte (.tmp 16) (.tmp 17) (d := some 18) rfl rfl (by rfl) HO.out _ 40 (by rfl) H40.out (by omega) ?_
      intro v3 w3 hO hG
      have hk := hG.keep K1.out NE.out
      replace K1 := Aside0.mk hk.1
      replace NE := Aside0.mk hk.2
      clear hk
      refine hK.out _ _ (OK.out _ K1.out) (fun hHeld => ?_)
      clear hK K
      replace G1 := Aside0.mk (G1.out.trans hG)
      replace HO := Aside0.mk hO
      clear hO hG
      try simp only [Act.put, List.setIfInBounds_toArray, List.set_cons_zero, List.set_cons_succ]
      refine wpAnyH_ready (rs := [4, 5]) (by kernel_rfl) (by simp) ?_
      refine AllReadyH.cons rfl (fun K hK => ?_) (AllReadyH.cons rfl (fun K hK => ?_) AllReadyH.nil)
      · go_simp
        refine (IH.out _ _ HO.out).mono ?_
        rintro e w4 ⟨v4, rfl, hO, hG⟩
        have hk := hG.keep K1.out NE.out
        replace K1 := Aside0.mk hk.1
        replace NE := Aside0.mk hk.2
        clear hk
        refine hK.out _ _ (OK.out _ K1.out) (fun hHeld => ?_)
        clear hK K
        replace G1 := Aside0.mk (G1.out.trans hG)
        replace HO := Aside0.mk hO
        clear hO hG
        try simp only [Act.put, List.setIfInBounds_toArray, List.set_cons_zero, List.set_cons_succ]
        refine wpAnyH_ready (rs := [5]) (by kernel_rfl) (by simp) ?_
        refine AllReadyH.cons rfl (fun K hK => ?_) AllReadyH.nil
        go_simp
        have nx := HO.out.ne
        have hx := heap_alloc_new w4 (.cells #[.int .u8 41] 5)
        have hB := below1 w4 #[.int .u8 41] 5
        refine hK.out _ _ (OK.out _ (blk_below K1.out hB)) (fun hHeld => ?_)
        clear hK K
        replace K1 := Aside0.mk (blk_below K1.out hB)
        have H41 := Aside0.mk hx
        have N41 := Aside0.mk nx
        replace G1 := Aside0.mk (G1.out.trans (Grew.below hB))
        replace HO := Aside0.mk (HO.out.after hB)
        clear hx nx
        clear hB
        generalize w4.heap.size = g41 at *
        generalize w4.alloc (.cells #[.int .u8 41] 5) = w5 at *
        try simp only [Act.put, List.setIfInBounds_toArray, List.set_cons_zero, List.set_cons_succ]
        refine wpAnyH_ready (rs := [6]) (by kernel_rfl) (by simp) ?_
        refine AllReadyH.cons rfl (fun K hK => ?_) AllReadyH.nil
        rw [if_pos (by rfl)]
        refine wp_byte (.tmp 20) (.tmp 21) (d := some 22) rfl rfl (by rfl) HO.out _ 41 (by rfl) H41.out (brk_fits HLEN.out HR.out) ?_
        intro v6 w6 hO hG
        have hk := hG.keep K1.out NE.out
        replace K1 := Aside0.mk hk.1
        replace NE := Aside0.mk hk.2
        clear hk
        refine hK.out _ _ (OK.out _ K1.out) (fun hHeld => ?_)
        clear hK K
        replace G1 := Aside0.mk (G1.out.trans hG)
        replace HO := Aside0.mk hO
        clear hO hG
        try simp only [Act.put, List.setIfInBounds_toArray, List.set_cons_zero, List.set_cons_succ]
        refine takeH (d := some 6) (v := ?_) 7 rfl rfl (by kernel_rfl) (by kernel_rfl) (by kernel_rfl) (fun _ _ _ h => h) (by rfl) ?_ hHeld ?_
        rotate_left
        · intro w hSw
          try dsimp only at hSw
          go_simp <;> with_reducible rfl
        try simp only [Act.put, List.setIfInBounds_toArray, List.set_cons_zero, List.set_cons_succ]
        refine wpAnyH_done (by kernel_rfl) ?_ _
        go_wp2_with fail
        go_ret
        refine ⟨_, rfl, ?_, G1.out⟩
        have hh := HO.out
        rwa [List.append_assoc, List.append_assoc] at hh
      · go_simp
        have nx := HO.out.ne
        have hx := heap_alloc_new w3 (.cells #[.int .u8 41] 5)
        have hB := below1 w3 #[.int .u8 41] 5
        refine hK.out _ _ (OK.out _ (blk_below K1.out hB)) (fun hHeld => ?_)
        clear hK K
        replace K1 := Aside0.mk (blk_below K1.out hB)
        have H41 := Aside0.mk hx
        have N41 := Aside0.mk nx
        replace G1 := Aside0.mk (G1.out.trans (Grew.below hB))
        replace HO := Aside0.mk (HO.out.after hB)
        clear hx nx
        clear hB
        generalize w3.heap.size = g41 at *
        generalize w3.alloc (.cells #[.int .u8 41] 5) = w4 at *
        try simp only [Act.put, List.setIfInBounds_toArray, List.set_cons_zero, List.set_cons_succ]
        refine wpAnyH_ready (rs := [4]) (by kernel_rfl) (by simp) ?_
        refine AllReadyH.cons rfl (fun K hK => ?_) AllReadyH.nil
        go_simp
        refine (IH.out _ _ HO.out).mono ?_
        rintro e w5 ⟨v5, rfl, hO, hG⟩
        have hk := hG.keep K1.out NE.out
        replace K1 := Aside0.mk hk.1
        replace NE := Aside0.mk hk.2
        clear hk
        refine hK.out _ _ (OK.out _ K1.out) (fun hHeld => ?_)
        clear hK K
        replace G1 := Aside0.mk (G1.out.trans hG)
        replace HO := Aside0.mk hO
        have hk := hG.keep H41.out N41.out
        replace H41 := Aside0.mk hk.1
        replace N41 := Aside0.mk hk.2
        clear hk
        clear hO hG
        try simp only [Act.put, List.setIfInBounds_toArray, List.set_cons_zero, List.set_cons_succ]
        refine wpAnyH_ready (rs := [6]) (by kernel_rfl) (by simp) ?_
        refine AllReadyH.cons rfl (fun K hK => ?_) AllReadyH.nil
        rw [if_pos (by rfl)]
        refine wp_byte (.tmp 20) (.tmp 21) (d := some 22) rfl rfl (by rfl) HO.out _ 41 (by rfl) H41.out (brk_fits HLEN.out HR.out) ?_
        intro v6 w6 hO hG
        have hk := hG.keep K1.out NE.out
        replace K1 := Aside0.mk hk.1
        replace NE := Aside0.mk hk.2
        clear hk
        refine hK.out _ _ (OK.out _ K1.out) (fun hHeld => ?_)
        clear hK K
        replace G1 := Aside0.mk (G1.out.trans hG)
        replace HO := Aside0.mk hO
        clear hO hG
        try simp only [Act.put, List.setIfInBounds_toArray, List.set_cons_zero, List.set_cons_succ]
        refine takeH (d := some 6) (v := ?_) 7 rfl rfl (by kernel_rfl) (by kernel_rfl) (by kernel_rfl) (fun _ _ _ h => h) (by rfl) ?_ hHeld ?_
        rotate_left
        · intro w hSw
          try dsimp only at hSw
          go_simp <;> with_reducible rfl
        try simp only [Act.put, List.setIfInBounds_toArray, List.set_cons_zero, List.set_cons_succ]
        refine wpAnyH_done (by kernel_rfl) ?_ _
        go_wp2_with fail
        go_ret
        refine ⟨_, rfl, ?_, G1.out⟩
        have hh := HO.out
        rwa [List.append_assoc, List.append_assoc] at hh
    · go_simp
      have nx := HO.out.ne
      have hx := heap_alloc_new w2 (.cells #[.int .u8 41] 5)
      have hB := below1 w2 #[.int .u8 41] 5
      refine hK.out _ _ (OK.out _ (blk_below K1.out hB)) (fun hHeld => ?_)
      clear hK K
      replace K1 := Aside0.mk (blk_below K1.out hB)
      have H41 := Aside0.mk hx
      have N41 := Aside0.mk nx
      replace G1 := Aside0.mk (G1.out.trans (Grew.below hB))
      replace HO := Aside0.mk (HO.out.after hB)
      clear hx nx
      replace H40 := Aside0.mk (blk_below H40.out hB)
      clear hB
      generalize w2.heap.size = g41 at *
      generalize w2.alloc (.cells #[.int .u8 41] 5) = w3 at *
      try simp only [Act.put, List.setIfInBounds_toArray, List.set_cons_zero, List.set_cons_succ]
      refine wpAnyH_ready (rs := [2]) (by kernel_rfl) (by simp) ?_
      refine AllReadyH.cons rfl (fun K hK => ?_) AllReadyH.nil
      rw [if_pos (by rfl)]
      refine wp_byte (.tmp 16) (.tmp 17) (d := some 18) rfl rfl (by rfl) HO.out _ 40 (by rfl) H40.out (by omega) ?_
      intro v4 w4 hO hG
      have hk := hG.keep K1.out NE.out
      replace K1 := Aside0.mk hk.1
      replace NE := Aside0.mk hk.2
      clear hk
      refine hK.out _ _ (OK.out _ K1.out) (fun hHeld => ?_)
      clear hK K
      replace G1 := Aside0.mk (G1.out.trans hG)
      replace HO := Aside0.mk hO
      have hk := hG.keep H41.out N41.out
      replace H41 := Aside0.mk hk.1
      replace N41 := Aside0.mk hk.2
      clear hk
      clear hO hG
      try simp only [Act.put, List.setIfInBounds_toArray, List.set_cons_zero, List.set_cons_succ]
      refine wpAnyH_ready (rs := [4]) (by kernel_rfl) (by simp) ?_
      refine AllReadyH.cons rfl (fun K hK => ?_) AllReadyH.nil
      go_simp
      refine (IH.out _ _ HO.out).mono ?_
      rintro e w5 ⟨v5, rfl, hO, hG⟩
      have hk := hG.keep K1.out NE.out
      replace K1 := Aside0.mk hk.1
      replace NE := Aside0.mk hk.2
      clear hk
      refine hK.out _ _ (OK.out _ K1.out) (fun hHeld => ?_)
      clear hK K
      replace G1 := Aside0.mk (G1.out.trans hG)
      replace HO := Aside0.mk hO
      have hk := hG.keep H41.out N41.out
      replace H41 := Aside0.mk hk.1
      replace N41 := Aside0.mk hk.2
      clear hk
      clear hO hG
      try simp only [Act.put, List.setIfInBounds_toArray, List.set_cons_zero, List.set_cons_succ]
      refine wpAnyH_ready (rs := [6]) (by kernel_rfl) (by simp) ?_
      refine AllReadyH.cons rfl (fun K hK => ?_) AllReadyH.nil
      rw [if_pos (by rfl)]
      refine wp_byte (.tmp 20) (.tmp 21) (d := some 22) rfl rfl (by rfl) HO.out _ 41 (by rfl) H41.out (brk_fits HLEN.out HR.out) ?_
      intro v6 w6 hO hG
      have hk := hG.keep K1.out NE.out
      replace K1 := Aside0.mk hk.1
      replace NE := Aside0.mk hk.2
      clear hk
      refine hK.out _ _ (OK.out _ K1.out) (fun hHeld => ?_)
      clear hK K
      replace G1 := Aside0.mk (G1.out.trans hG)
      replace HO := Aside0.mk hO
      clear hO hG
      try simp only [Act.put, List.setIfInBounds_toArray, List.set_cons_zero, List.set_cons_succ]
      refine takeH (d := some 6) (v := ?_) 7 rfl rfl (by kernel_rfl) (by kernel_rfl) (by kernel_rfl) (fun _ _ _ h => h) (by rfl) ?_ hHeld ?_
      rotate_left
      · intro w hSw
        try dsimp only at hSw
        go_simp <;> with_reducible rfl
      try simp only [Act.put, List.setIfInBounds_toArray, List.set_cons_zero, List.set_cons_succ]
      refine wpAnyH_done (by kernel_rfl) ?_ _
      go_wp2_with fail
      go_ret
      refine ⟨_, rfl, ?_, G1.out⟩
      have hh := HO.out
      rwa [List.append_assoc, List.append_assoc] at hh
  · go_simp
    have nx := HO.out.ne
    have hx := heap_alloc_new wd (.cells #[.int .u8 41] 5)
    have hB := below1 wd #[.int .u8 41] 5
    refine hK.out _ _ (OK.out _ (blk_below K1.out hB)) (fun hHeld => ?_)
    clear hK K
    replace K1 := Aside0.mk (blk_below K1.out hB)
    have H41 := Aside0.mk hx
    have N41 := Aside0.mk nx
    replace G1 := Aside0.mk (G1.out.trans (Grew.below hB))
    replace HO := Aside0.mk (HO.out.after hB)
    clear hx nx
    clear hB
    generalize wd.heap.size = g41 at *
    generalize wd.alloc (.cells #[.int .u8 41] 5) = w2 at *
    try simp only [Act.put, List.setIfInBounds_toArray, List.set_cons_zero, List.set_cons_succ]
    refine wpAnyH_ready (rs := [1]) (by kernel_rfl) (by simp) ?_
    refine AllReadyH.cons rfl (fun K hK => ?_) AllReadyH.nil
    go_simp
    have nx := HO.out.ne
    have hx := heap_alloc_new w2 (.cells #[.int .u8 40] 5)
    have hB := below1 w2 #[.int .u8 40] 5
    refine hK.out _ _ (OK.out _ (blk_below K1.out hB)) (fun hHeld => ?_)
    clear hK K
    replace K1 := Aside0.mk (blk_below K1.out hB)
    have H40 := Aside0.mk hx
    have N40 := Aside0.mk nx
    replace G1 := Aside0.mk (G1.out.trans (Grew.below hB))
    replace HO := Aside0.mk (HO.out.after hB)
    clear hx nx
    replace H41 := Aside0.mk (blk_below H41.out hB)
    clear hB
    generalize w2.heap.size = g40 at *
    generalize w2.alloc (.cells #[.int .u8 40] 5) = w3 at *
    try simp only [Act.put, List.setIfInBounds_toArray, List.set_cons_zero, List.set_cons_succ]
    refine wpAnyH_ready (rs := [2]) (by kernel_rfl) (by simp) ?_
    refine AllReadyH.cons rfl (fun K hK => ?_) AllReadyH.nil
    rw [if_pos (by rfl)]
    refine wp_byte (.tmp 16) (.tmp 17) (d := some 18) rfl rfl (by rfl) HO.out _ 40 (by rfl) H40.out (by omega) ?_
    intro v4 w4 hO hG
    have hk := hG.keep K1.out NE.out
    replace K1 := Aside0.mk hk.1
    replace NE := Aside0.mk hk.2
    clear hk
    refine hK.out _ _ (OK.out _ K1.out) (fun hHeld => ?_)
    clear hK K
    replace G1 := Aside0.mk (G1.out.trans hG)
    replace HO := Aside0.mk hO
    have hk := hG.keep H41.out N41.out
    replace H41 := Aside0.mk hk.1
    replace N41 := Aside0.mk hk.2
    clear hk
    clear hO hG
    try simp only [Act.put, List.setIfInBounds_toArray, List.set_cons_zero, List.set_cons_succ]
    refine wpAnyH_ready (rs := [4]) (by kernel_rfl) (by simp) ?_
    refine AllReadyH.cons rfl (fun K hK => ?_) AllReadyH.nil
    go_simp
    refine (IH.out _ _ HO.out).mono ?_
    rintro e w5 ⟨v5, rfl, hO, hG⟩
    have hk := hG.keep K1.out NE.out
    replace K1 := Aside0.mk hk.1
    replace NE := Aside0.mk hk.2
    clear hk
    refine hK.out _ _ (OK.out _ K1.out) (fun hHeld => ?_)
    clear hK K
    replace G1 := Aside0.mk (G1.out.trans hG)
    replace HO := Aside0.mk hO
    have hk := hG.keep H41.out N41.out
    replace H41 := Aside0.mk hk.1
    replace N41 := Aside0.mk hk.2
    clear hk
    clear hO hG
    try simp only [Act.put, List.setIfInBounds_toArray, List.set_cons_zero, List.set_cons_succ]
    refine wpAnyH_ready (rs := [6]) (by kernel_rfl) (by simp) ?_
    refine AllReadyH.cons rfl (fun K hK => ?_) AllReadyH.nil
    rw [if_pos (by rfl)]
    refine wp_byte (.tmp 20) (.tmp 21) (d := some 22) rfl rfl (by rfl) HO.out _ 41 (by rfl) H41.out (brk_fits HLEN.out HR.out) ?_
    intro v6 w6 hO hG
    have hk := hG.keep K1.out NE.out
    replace K1 := Aside0.mk hk.1
    replace NE := Aside0.mk hk.2
    clear hk
    refine hK.out _ _ (OK.out _ K1.out) (fun hHeld => ?_)
    clear hK K
    replace G1 := Aside0.mk (G1.out.trans hG)
    replace HO := Aside0.mk hO
    clear hO hG
    try simp only [Act.put, List.setIfInBounds_toArray, List.set_cons_zero, List.set_cons_succ]
    refine takeH (d := some 6) (v := ?_) 7 rfl rfl (by kernel_rfl) (by kernel_rfl) (by kernel_rfl) (fun _ _ _ h => h) (by rfl) ?_ hHeld ?_
    rotate_left
    · intro w hSw
      try dsimp only at hSw
      go_simp <;> with_reducible rfl
    try simp only [Act.put, List.setIfInBounds_toArray, List.set_cons_zero, List.set_cons_succ]
    refine wpAnyH_done (by kernel_rfl) ?_ _
    go_wp2_with fail
    go_ret
    refine ⟨_, rfl, ?_, G1.out⟩
    have hh := HO.out
    rwa [List.append_assoc, List.append_assoc] at hh
theorem write_all (n : Nat) : WriteIH n := by
  induction n with
  | zero => intro t least v l W0 w vt h; omega
  | succ n ih =>
    have own : ∀ (t : S43) (least : Int) (v : Value) (l : List UInt8) (W0 w : World) (vt : Value), nodes t < n + 1 → rightB t = true → IsT W0 vt t → 0 ≤ least → least ≤ tightI t.f0 → OwnB W0 v l w → l.length + 6 * nodes t ≤ 100000001 →
        Calls Tryd.prog 73 #[v, vt, .int .i64 least] w (WPost W0 v w (l ++ core t)) := by
      intro t least v l W0 w vt hn hr hT h0 h4 hO hl
      rcases right_cases hr with ⟨k, hk, rfl⟩ | ⟨k, x, y, hk, hx, hy, rfl⟩
      · obtain ⟨A, c, rfl, _, _⟩ := hT
        rw [core_leaf]
        exact write_leaf k hk least (by have h5 : tightI k ≤ 4 := by (rcases hk with rfl | rfl | rfl <;> decide)
                                        exact Int.le_trans h4 h5) h0 v l W0 w A c (.mk hO) (.mk (by rw [nodes_leaf] at hl; omega))
      · exact write_node n k x y hk least h4 h0 v l W0 w vt (.mk ih) (.mk hn) (.mk hx) (.mk hy) (.mk hT) (.mk hO) (.mk hl)
    intro t least v l W0 w vt hn hr hT h0 h4 hO hl
    by_cases hb : tightI t.f0 < least
    · rw [parT_brk hb]
      have hk : leafK t.f0 ∨ nodeK t.f0 := by
        rcases right_cases hr with ⟨k, hk, rfl⟩ | ⟨k, x, y, hk, hx, hy, rfl⟩
        · exact .inl hk
        · exact .inr hk
      have ht0 : 0 ≤ tightI t.f0 := by unfold tightI; (repeat' split) <;> omega
      have hT2 := hT
      obtain ⟨A, c, rfl, _, _⟩ := hT
      exact write_brk t hk least hb v l W0 w A c (.mk hr) (.mk hT2) (.mk hO) (.mk hl) (.mk fun v' w' hO' => own t 0 v' _ W0 w' _ hn hr hT2 (Int.le_refl _) ht0 hO' (by simp only [List.length_append, List.length_cons, List.length_nil]; omega))
    · rw [parT_own (by omega)]
      exact own t least v l W0 w vt hn hr hT h0 (by omega) hO (by omega)
def textS (t : S43) : ByteArray := if checkI t = 0 then ⟨(core t).toArray⟩ else ⟨#[]⟩
def TPost (t : S43) (w : World) (e : Ending) (w' : World) : Prop := e = .returned (.tuple #[.string (textS t), .int .i64 (checkI t)]) ∧ Below w.heap.size w w'
set_option maxRecDepth 100000 in
set_option maxHeartbeats 1600000 in
theorem Text_calls {t : S43} {v : Value} {w : World} (h : IsT w v t) : Calls Tryd.prog 31 #[v] w (TPost t w) := by
  have HT := Aside0.mk h
  obtain ⟨A, c, rfl, _, _⟩ := h
  by_cases hc : checkI t = 0
  · have HC := Aside0.mk hc
    have HS : Aside0 (textS t = ⟨(core t).toArray⟩) := .mk (by unfold textS; rw [if_pos hc])
    have HR := Aside0.mk (check_nodes hc).2.2
    have HN := Aside0.mk (check_nodes hc).1
    clear hc
    go_enter Tryd.func31, Tryd.ntmps31
    go_wp2_with fail
    refine (Check_calls (HT.out.below (below1 ..))).mono ?_
    rw [HC.out]
    rintro e w1 ⟨rfl, hB⟩
    obtain ⟨k1, hB1⟩ := one_block hB
    have HB := Aside0.mk hB1
    replace HT := Aside0.mk (HT.out.below hB1)
    have e10 := (blk_cell k1 0).trans rfl
    have e11 := (blk_cell k1 1).trans rfl
    simp at e10 e11
    clear hB hB1 k1
    go_wp2_with fail
    refine (write_all (nodes t + 1) t 0 _ [] w1 w1 _ (by omega) HR.out HT.out (by omega) (by omega) (OwnB.nil w1) (by have := HN.out; simp only [List.length_nil]; omega)).mono ?_
    rintro e w2 ⟨v2, rfl, hO, hG⟩
    rw [List.nil_append, parT_own (by unfold tightI; (repeat' split) <;> omega)] at hO
    have hcv := bytes_back hO (core_ne t HR.out)
    have HB2 := Aside0.mk (below_then HB.out HB.out.size hO.below)
    clear hO hG e10 e11
    go_wp2_with fail
    go_ret2
    refine ⟨?_, HB2.out⟩
    rw [HS.out, HC.out]
    rfl
  · have HC : Aside0 ((checkI t != 0) = true) := .mk (by simp [hc])
    have HS : Aside0 (textS t = ⟨#[]⟩) := .mk (by unfold textS; rw [if_neg hc])
    clear hc
    go_enter Tryd.func31, Tryd.ntmps31
    go_wp2_with fail
    refine (Check_calls (HT.out.below (below1 ..))).mono ?_
    rintro e w1 ⟨rfl, hB⟩
    obtain ⟨k1, hB1⟩ := one_block hB
    have HB := Aside0.mk hB1
    have hc := HC.out
    clear hB hB1 k1 HC
    go_wp2_with fail
    go_ret2
    refine ⟨?_, HB.out⟩
    rw [HS.out]
    rfl
end Go.Proofs.YtjmpejbciniceaaDoor.X
namespace Go.Proofs.YtjmpejbciniceaaDoor.X
open Go.RowKit Go.Proofs.YtjmpejbciniceaaDoorW.PrintWords Go.Proofs.YtjmpejbciniceaaDoorW.PrintLast Go.Proofs.YtjmpejbciniceaaDoorW.PrintMore
set_option linter.unusedVariables false
set_option linter.unusedSimpArgs false
mutual
def csize : S54 → Nat
  | ⟨k, _, _, _, _, l⟩ => if l.length = 0 then 1 else csizeL l + (if k = 7 then 0 else 1)
def csizeL : List S54 → Nat
  | [] => 0
  | x :: l => csize x + csizeL l
end
mutual
def chigh : S54 → Nat
  | ⟨k, t, _, _, _, l⟩ => if k = 0 ∨ k = 1 then 1 else if k = 2 ∨ k = 3 then depth t else chighL l + (if k = 7 then 0 else 1)
def chighL : List S54 → Nat
  | [] => 0
  | x :: l => max (chigh x) (chighL l)
end
def braceC (t : S43) : List UInt8 := [123, 32] ++ (core t ++ [32, 125])
def sideC (la : Int) (ne : Bool) : List UInt8 := (if ne then [45] else []) ++ Lib.itoa la
def signC (k : Int) : List UInt8 := if k = 4 then [45, 62] else if k = 5 then [42] else [43]
def leafTextC (k : Int) (t u : S43) (la : Int) (ne : Bool) : List UInt8 :=
  if k = 0 then [105, 100, 32] ++ braceC t else if k = 1 then [102, 97, 105, 108, 32] ++ (braceC t ++ ([32] ++ (braceC u ++ ([32] ++ sideC la ne))))
  else if k = 2 then braceC t ++ [32, 33] else braceC t ++ ([32, 63, 32] ++ sideC la ne)
def joinTextC (k : Int) : List (List UInt8) → List UInt8
  | [a, b] => if k = 7 then a ++ ([32, 59, 32] ++ b) else [40, 32] ++ (a ++ ([32] ++ (signC k ++ ([32] ++ (b ++ [32, 41])))))
  | _ => []
mutual
def ctext : S54 → List UInt8
  | ⟨k, t, u, la, ne, l⟩ => if leafB k then leafTextC k t u la ne else joinTextC k (ctextL l)
def ctextL : List S54 → List (List UInt8)
  | [] => []
  | x :: l => ctext x :: ctextL l
end
def leafWordsC (k : Int) (t u : S43) (la : Int) (ne : Bool) : List (List UInt8) :=
  if k = 0 then [[105, 100], [123], core t, [125]] else if k = 1 then [[102, 97, 105, 108], [123], core t, [125], [123], core u, [125], sideC la ne]
  else if k = 2 then [[123], core t, [125], [33]] else [[123], core t, [125], [63], sideC la ne]
def joinWordsC (k : Int) : List (List (List UInt8)) → List (List UInt8)
  | [a, b] => if k = 7 then a ++ ([[59]] ++ b) else [[40]] ++ (a ++ ([signC k] ++ (b ++ [[41]])))
  | _ => []
mutual
def cwords : S54 → List (List UInt8)
  | ⟨k, t, u, la, ne, l⟩ => if leafB k then leafWordsC k t u la ne else joinWordsC k (cwordsL l)
def cwordsL : List S54 → List (List (List UInt8))
  | [] => []
  | x :: l => cwords x :: cwordsL l
end
mutual
def labI : S54 → Prop
  | ⟨_, _, _, la, _, l⟩ => -9223372036854775808 ≤ la ∧ la ≤ 9223372036854775807 ∧ labIL l
def labIL : List S54 → Prop
  | [] => True
  | x :: l => labI x ∧ labIL l
end
theorem csize_leaf {x : S54} (h : x.f5 = []) : csize x = 1 := by cases x; simp only at h; subst h; simp [csize]
theorem csize_two {x p q : S54} (h : x.f5 = [p, q]) : csize x = csize p + csize q + (if x.f0 = 7 then 0 else 1) := by cases x; simp only at h; subst h; simp [csize, csizeL]
theorem chigh_one {x : S54} (h : x.f0 = 0 ∨ x.f0 = 1) : chigh x = 1 := by cases x; simp only at h; simp [chigh, h]
theorem chigh_in {x : S54} (h : x.f0 = 2 ∨ x.f0 = 3) : chigh x = depth x.f1 := by
  cases x; simp only at h; rw [chigh, if_neg (by omega), if_pos h]
theorem leafB_cases {k : Int} (h : leafB k = true) : k = 0 ∨ k = 1 ∨ k = 2 ∨ k = 3 := by unfold leafB at h; simp at h; omega
theorem leafB_not {k : Int} (h : leafB k = false) : k ≠ 0 ∧ k ≠ 1 ∧ k ≠ 2 ∧ k ≠ 3 := by unfold leafB at h; simp at h; omega
theorem chigh_two {x p q : S54} (hk : leafB x.f0 = false) (h : x.f5 = [p, q]) : chigh x = max (chigh p) (chigh q) + (if x.f0 = 7 then 0 else 1) := by
  have hn := leafB_not hk
  cases x; simp only at h hn; subst h
  rw [chigh, if_neg (by omega), if_neg (by omega)]
  simp [chighL]
theorem ctext_leaf {x : S54} (hk : leafB x.f0 = true) : ctext x = leafTextC x.f0 x.f1 x.f2 x.f3 x.f4 := by cases x; simp only at hk; rw [ctext, if_pos hk]
theorem ctext_two {x p q : S54} (hk : leafB x.f0 = false) (h : x.f5 = [p, q]) : ctext x = joinTextC x.f0 [ctext p, ctext q] := by
  cases x; simp only at h hk; subst h; rw [ctext, if_neg (by simp [hk])]; simp [ctextL]
theorem cwords_leaf {x : S54} (hk : leafB x.f0 = true) : cwords x = leafWordsC x.f0 x.f1 x.f2 x.f3 x.f4 := by cases x; simp only at hk; rw [cwords, if_pos hk]
theorem cwords_two {x p q : S54} (hk : leafB x.f0 = false) (h : x.f5 = [p, q]) : cwords x = joinWordsC x.f0 [cwords p, cwords q] := by
  cases x; simp only at h hk; subst h; rw [cwords, if_neg (by simp [hk])]; simp [cwordsL]
theorem labI_own {x : S54} (h : labI x) : -9223372036854775808 ≤ x.f3 ∧ x.f3 ≤ 9223372036854775807 := by cases x; rw [labI] at h; exact ⟨h.1, h.2.1⟩
theorem labI_two {x p q : S54} (hx : x.f5 = [p, q]) (h : labI x) : labI p ∧ labI q := by
  cases x; simp only at hx; subst hx; simp only [labI, labIL] at h; exact ⟨h.2.2.1, h.2.2.2.1⟩
theorem join_append (s : List UInt8) {a b : List (List UInt8)} (ha : a ≠ []) (hb : b ≠ []) : Lib.join (a ++ b) s = Lib.join a s ++ (s ++ Lib.join b s) := by
  cases a with
  | nil => exact absurd rfl ha
  | cons x a =>
    cases b with
    | nil => exact absurd rfl hb
    | cons y b =>
      rw [List.cons_append, Lib.join_cons, Lib.join_cons, Lib.join_cons]
      simp [Lib.joinTail]
theorem cnodes_kids {x p q : S54} (h : x.f5 = [p, q]) : cnodes p < cnodes x ∧ cnodes q < cnodes x ∧ cnodes p + cnodes q + 1 ≤ cnodes x := by
  have e := cnodes_eq x
  rw [h] at e
  simp only [cnodesL] at e
  omega
theorem co_ind {P : S54 → Prop} (h1 : ∀ x : S54, leafB x.f0 = true → x.f5 = [] → (endsC x).isSome = true → P x)
    (h2 : ∀ (x p q : S54), leafB x.f0 = false → x.f5 = [p, q] → (endsC x).isSome = true → (endsC p).isSome = true → (endsC q).isSome = true → P p → P q → P x) :
    ∀ x : S54, (endsC x).isSome = true → P x := by
  have all : ∀ (n : Nat) (x : S54), cnodes x < n → (endsC x).isSome = true → P x := by
    intro n
    induction n with
    | zero => intro x h; omega
    | succ n ih =>
      intro x hn hx
      rcases ends_kids hx with ⟨hk, hl⟩ | ⟨hk, p, q, hl, hp, hq⟩
      · exact h1 x hk hl hx
      · have hc := cnodes_kids hl
        exact h2 x p q hk hl hx hp hq (ih p (by omega) hp) (ih q (by omega) hq)
  exact fun x => all (cnodes x + 1) x (by omega)
theorem leaf_facts {x : S54} (hk : leafB x.f0 = true) (hx : (endsC x).isSome = true) : checkI x.f1 = 0 ∧ (x.f0 = 1 → checkI x.f2 = 0 ∧ labB x.f3 = true) ∧ (x.f0 = 3 → labB x.f3 = true) := by
  obtain ⟨k, t, u, la, ne, l⟩ := x
  simp only at hk ⊢
  rw [endsC, if_pos hk] at hx
  split at hx
  · unfold leafC at hx
    split at hx
    · rename_i hc
      refine ⟨hc, fun h => ?_, fun h => ?_⟩
      · subst h
        simp at hx
        exact ⟨hx.2, hx.1.1⟩
      · subst h
        simp at hx
        exact hx.2
    · simp at hx
  · simp at hx
theorem two_kind {x p q : S54} (hk : leafB x.f0 = false) (hl : x.f5 = [p, q]) (hx : (endsC x).isSome = true) : x.f0 = 4 ∨ x.f0 = 5 ∨ x.f0 = 6 ∨ x.f0 = 7 := by
  obtain ⟨k, t, u, la, ne, l⟩ := x
  simp only at hk hl ⊢
  subst hl
  rw [endsC, if_neg (by simp [hk])] at hx
  split at hx
  · unfold joinC at hx
    split at hx
    · omega
    split at hx
    · omega
    split at hx
    · omega
    split at hx
    · omega
    simp at hx
  · simp at hx
theorem leaf_nodes {x : S54} (hk : leafB x.f0 = true) (hx : (endsC x).isSome = true) : nodes x.f1 + 1 ≤ cnodes x ∧ rightB x.f1 = true ∧ depth x.f1 ≤ 200 ∧ (x.f0 = 1 → nodes x.f1 + nodes x.f2 + 1 ≤ cnodes x ∧ rightB x.f2 = true) := by
  obtain ⟨h1, h2, h3⟩ := leaf_facts hk hx
  have n1 := check_nodes h1
  have e := cnodes_eq x
  rw [if_pos hk] at e
  refine ⟨by omega, n1.2.2, n1.2.1, fun h => ?_⟩
  have n2 := check_nodes (h2 h).1
  rw [if_pos h] at e
  exact ⟨by omega, n2.2.2⟩
theorem csize_le (x : S54) (hx : (endsC x).isSome = true) : 1 ≤ csize x ∧ csize x ≤ cnodes x := by
  refine co_ind (P := fun x => 1 ≤ csize x ∧ csize x ≤ cnodes x) (fun x hk hl hx => ?_) (fun x p q hk hl hx hp hq h1 h2 => ?_) x hx
  · rw [csize_leaf hl]; have := cnodes_eq x; omega
  · rw [csize_two hl]; have := cnodes_kids hl; split <;> omega
theorem depth_pos (t : S43) : 1 ≤ depth t := by rw [depth_eq]; omega
theorem chigh_le (x : S54) (hx : (endsC x).isSome = true) : 1 ≤ chigh x ∧ chigh x ≤ 200 + cnodes x := by
  refine co_ind (P := fun x => 1 ≤ chigh x ∧ chigh x ≤ 200 + cnodes x) (fun x hk hl hx => ?_) (fun x p q hk hl hx hp hq h1 h2 => ?_) x hx
  · have hn := leaf_nodes hk hx
    have hd := depth_pos x.f1
    rcases leafB_cases hk with h | h | h | h
    · rw [chigh_one (.inl h)]; omega
    · rw [chigh_one (.inr h)]; omega
    · rw [chigh_in (.inl h)]; omega
    · rw [chigh_in (.inr h)]; omega
  · rw [chigh_two hk hl]; have := cnodes_kids hl; split <;> omega
theorem braceC_len (t : S43) (h : rightB t = true) : (braceC t).length ≤ 6 * nodes t + 4 := by
  have := core_len t h
  simp only [braceC, List.length_append, List.length_cons, List.length_nil]
  omega
theorem dec_len' : ∀ (k u : Nat), u < 10 ^ (k + 1) → (Lib.decDigits u).length ≤ k + 1 := by
  intro k
  induction k with
  | zero => intro u h; rw [Lib.decDigits, dif_pos (by simpa using h)]; simp
  | succ k ih =>
    intro u h
    rw [Lib.decDigits]
    split
    · simp
    · have := ih (u / 10) (by rw [Nat.div_lt_iff_lt_mul (by decide)]; rw [Nat.pow_succ] at h; exact h)
      simp; omega
theorem itoa_len' (n : Int) (h0 : -9223372036854775808 ≤ n) (h1 : n ≤ 9223372036854775807) : (Lib.itoa n).length ≤ 20 := by
  have h : ∀ u : Nat, u < 10 ^ 19 → (Lib.decDigits u).length ≤ 19 := fun u hu => dec_len' 18 u hu
  unfold Lib.itoa
  split
  · have := h n.natAbs (by omega); simp; omega
  · have := h n.toNat (by omega); omega
theorem sideC_len {la : Int} (ne : Bool) (h0 : -9223372036854775808 ≤ la) (h1 : la ≤ 9223372036854775807) : (sideC la ne).length ≤ 21 := by
  have := itoa_len' la h0 h1
  unfold sideC
  cases ne <;> simp <;> omega
theorem leafText_len {x : S54} (hk : leafB x.f0 = true) (hx : (endsC x).isSome = true) (h0 : -9223372036854775808 ≤ x.f3) (h1 : x.f3 ≤ 9223372036854775807) : (leafTextC x.f0 x.f1 x.f2 x.f3 x.f4).length ≤ 50 * cnodes x := by
  obtain ⟨n1, r1, -, n2⟩ := leaf_nodes hk hx
  have b1 := braceC_len _ r1
  have s := sideC_len x.f4 h0 h1
  have e := cnodes_eq x
  unfold leafTextC
  split
  · simp only [List.length_append, List.length_cons, List.length_nil]; omega
  split
  · rename_i h
    obtain ⟨n3, r2⟩ := n2 h
    have b2 := braceC_len _ r2
    simp only [List.length_append, List.length_cons, List.length_nil]; omega
  split
  · simp only [List.length_append, List.length_cons, List.length_nil]; omega
  · simp only [List.length_append, List.length_cons, List.length_nil]; omega
theorem signC_len (k : Int) : (signC k).length ≤ 2 := by unfold signC; split; simp; split <;> simp
theorem ctext_len (x : S54) (hx : (endsC x).isSome = true) (hl : labI x) : (ctext x).length ≤ 50 * cnodes x := by
  refine co_ind (P := fun x => labI x → (ctext x).length ≤ 50 * cnodes x) (fun x hk hl hx hL => ?_) (fun x p q hk hl hx hp hq h1 h2 hL => ?_) x hx hl
  · rw [ctext_leaf hk]
    exact leafText_len hk hx (labI_own hL).1 (labI_own hL).2
  · rw [ctext_two hk hl]
    have l1 := h1 (labI_two hl hL).1
    have l2 := h2 (labI_two hl hL).2
    have hc := cnodes_kids hl
    have hs := signC_len x.f0
    unfold joinTextC
    simp only
    split <;> simp only [List.length_append, List.length_cons, List.length_nil] <;> omega
theorem cwords_len (x : S54) (hx : (endsC x).isSome = true) : 1 ≤ (cwords x).length ∧ (cwords x).length ≤ 8 * cnodes x := by
  refine co_ind (P := fun x => 1 ≤ (cwords x).length ∧ (cwords x).length ≤ 8 * cnodes x) (fun x hk hl hx => ?_) (fun x p q hk hl hx hp hq h1 h2 => ?_) x hx
  · rw [cwords_leaf hk]
    have e := cnodes_eq x
    unfold leafWordsC
    (repeat' split) <;> simp only [List.length_append, List.length_cons, List.length_nil] <;> omega
  · rw [cwords_two hk hl]
    have hc := cnodes_kids hl
    unfold joinWordsC
    simp only
    split <;> simp only [List.length_append, List.length_cons, List.length_nil] <;> omega
theorem words_text (x : S54) (hx : (endsC x).isSome = true) : Lib.join (cwords x) [32] = ctext x := by
  refine co_ind (P := fun x => Lib.join (cwords x) [32] = ctext x) (fun x hk hl hx => ?_) (fun x p q hk hl hx hp hq h1 h2 => ?_) x hx
  · rw [cwords_leaf hk, ctext_leaf hk]
    unfold leafWordsC leafTextC braceC
    (repeat' split) <;> simp [Lib.join_cons, Lib.joinTail]
  · have np : cwords p ≠ [] := fun e => by have := (cwords_len p hp).1; rw [e] at this; simp at this
    have nq : cwords q ≠ [] := fun e => by have := (cwords_len q hq).1; rw [e] at this; simp at this
    rw [cwords_two hk hl, ctext_two hk hl]
    unfold joinWordsC joinTextC
    simp only
    split
    · rw [join_append _ np (by simp), join_append _ (by simp) nq, h1, h2, Lib.join_one]
      simp
    · rw [join_append _ (by simp) (by simp), join_append _ np (by simp), join_append _ (by simp) (by simp), join_append _ nq (by simp), h1, h2, Lib.join_one, Lib.join_one, Lib.join_one]
      simp
end Go.Proofs.YtjmpejbciniceaaDoor.X
namespace Go.Proofs.YtjmpejbciniceaaDoor.X
open Go.RowKit Go.Proofs.YtjmpejbciniceaaDoorW.PrintWords Go.Proofs.YtjmpejbciniceaaDoorW.PrintLast Go.Proofs.YtjmpejbciniceaaDoorW.PrintMore
attribute [local go_sem] max2_int min2_int max_two min_two max_three min_three max_four min_four
set_option linter.unusedVariables false
set_option linter.unusedSimpArgs false
def lychgateref02_strength.f (a0 : Int) : Option (Int) := if a0 = 3 then (some 1) else (if a0 = 5 then (some 2) else (if a0 = 4 then (some 3) else (some 4)))
set_option maxHeartbeats 8000000 in
set_option maxRecDepth 100000 in
theorem lychgateref02_strength.calls (a0 : Int) (r : Int) (w : World) (h : lychgateref02_strength.f a0 = some r) :
    Calls Tryd.prog 147 #[.int .i8 a0] w fun e w' => e = .returned (.int .i64 r) ∧ Drawn0 w w' := by
  have H : (if a0 = 3 then (some 1) else (if a0 = 5 then (some 2) else (if a0 = 4 then (some 3) else (some 4)))) = some r := h
  clear h
  by_cases c2 : a0 = 3
  · rw [if_pos c2] at H
    have c2b0 : (a0 == 3) = true := beq_iff_eq.mpr c2
    have c2b1 : (a0 != 3) = false := bne_eq_false_iff_eq.mpr c2
    clear c2
    obtain rfl := Option.some.inj H
    go_enter Tryd.func147, Tryd.ntmps147
    go_wp2
    go_ret
    exact ⟨by first | rfl | (simp; done) | (simp [*]; done), by repeat (first | exact Drawn0.refl _ | apply Drawn0.step)⟩
  · rw [if_neg c2] at H
    have c2b0 : (a0 == 3) = false := beq_eq_false_iff_ne.mpr c2
    have c2b1 : (a0 != 3) = true := bne_iff_ne.mpr c2
    by_cases c3 : a0 = 5
    · rw [if_pos c3] at H
      have c3b0 : (a0 == 5) = true := beq_iff_eq.mpr c3
      have c3b1 : (a0 != 5) = false := bne_eq_false_iff_eq.mpr c3
      clear c3
      obtain rfl := Option.some.inj H
      go_enter Tryd.func147, Tryd.ntmps147
      go_wp2
      go_ret
      exact ⟨by first | rfl | (simp; done) | (simp [*]; done), by repeat (first | exact Drawn0.refl _ | apply Drawn0.step)⟩
    · rw [if_neg c3] at H
      have c3b0 : (a0 == 5) = false := beq_eq_false_iff_ne.mpr c3
      have c3b1 : (a0 != 5) = true := bne_iff_ne.mpr c3
      by_cases c4 : a0 = 4
      · rw [if_pos c4] at H
        have c4b0 : (a0 == 4) = true := beq_iff_eq.mpr c4
        have c4b1 : (a0 != 4) = false := bne_eq_false_iff_eq.mpr c4
        clear c4
        obtain rfl := Option.some.inj H
        go_enter Tryd.func147, Tryd.ntmps147
        go_wp2
        go_ret
        exact ⟨by first | rfl | (simp; done) | (simp [*]; done), by repeat (first | exact Drawn0.refl _ | apply Drawn0.step)⟩
      · rw [if_neg c4] at H
        have c4b0 : (a0 == 4) = false := beq_eq_false_iff_ne.mpr c4
        have c4b1 : (a0 != 4) = true := bne_iff_ne.mpr c4
        obtain rfl := Option.some.inj H
        go_enter Tryd.func147, Tryd.ntmps147
        go_wp2
        go_ret
        exact ⟨by first | rfl | (simp; done) | (simp [*]; done), by repeat (first | exact Drawn0.refl _ | apply Drawn0.step)⟩
def lychgateref02_sign.f (a0 : Int) : Option (ByteArray) := if a0 = 3 then (some (⟨#[45, 62]⟩ : ByteArray)) else (if a0 = 5 then (some (⟨#[43]⟩ : ByteArray)) else (some (⟨#[42]⟩ : ByteArray)))
set_option maxHeartbeats 8000000 in
set_option maxRecDepth 100000 in
theorem lychgateref02_sign.calls (a0 : Int) (r : ByteArray) (w : World) (h : lychgateref02_sign.f a0 = some r) :
    Calls Tryd.prog 148 #[.int .i8 a0] w fun e w' => e = .returned (.string r) ∧ Drawn0 w w' := by
  have H : (if a0 = 3 then (some (⟨#[45, 62]⟩ : ByteArray)) else (if a0 = 5 then (some (⟨#[43]⟩ : ByteArray)) else (some (⟨#[42]⟩ : ByteArray)))) = some r := h
  clear h
  by_cases c2 : a0 = 3
  · rw [if_pos c2] at H
    have c2b0 : (a0 == 3) = true := beq_iff_eq.mpr c2
    have c2b1 : (a0 != 3) = false := bne_eq_false_iff_eq.mpr c2
    clear c2
    obtain rfl := Option.some.inj H
    go_enter Tryd.func148, Tryd.ntmps148
    go_wp2
    go_ret
    exact ⟨by first | rfl | (simp; done) | (simp [*]; done), by repeat (first | exact Drawn0.refl _ | apply Drawn0.step)⟩
  · rw [if_neg c2] at H
    have c2b0 : (a0 == 3) = false := beq_eq_false_iff_ne.mpr c2
    have c2b1 : (a0 != 3) = true := bne_iff_ne.mpr c2
    by_cases c3 : a0 = 5
    · rw [if_pos c3] at H
      have c3b0 : (a0 == 5) = true := beq_iff_eq.mpr c3
      have c3b1 : (a0 != 5) = false := bne_eq_false_iff_eq.mpr c3
      clear c3
      obtain rfl := Option.some.inj H
      go_enter Tryd.func148, Tryd.ntmps148
      go_wp2
      go_ret
      exact ⟨by first | rfl | (simp; done) | (simp [*]; done), by repeat (first | exact Drawn0.refl _ | apply Drawn0.step)⟩
    · rw [if_neg c3] at H
      have c3b0 : (a0 == 5) = false := beq_eq_false_iff_ne.mpr c3
      have c3b1 : (a0 != 5) = true := bne_iff_ne.mpr c3
      obtain rfl := Option.some.inj H
      go_enter Tryd.func148, Tryd.ntmps148
      go_wp2
      go_ret
      exact ⟨by first | rfl | (simp; done) | (simp [*]; done), by repeat (first | exact Drawn0.refl _ | apply Drawn0.step)⟩
end Go.Proofs.YtjmpejbciniceaaDoor.X
namespace Go.Proofs.YtjmpejbciniceaaDoor.X
open Go.RowKit Go.Proofs.YtjmpejbciniceaaDoorW.PrintWords Go.Proofs.YtjmpejbciniceaaDoorW.PrintLast Go.Proofs.YtjmpejbciniceaaDoorW.PrintMore
set_option linter.unusedVariables false
set_option linter.unusedSimpArgs false
def bytesS (l : List UInt8) : ByteArray := ⟨l.toArray⟩
theorem bytesS_append (l m : List UInt8) : bytesS l ++ bytesS m = bytesS (l ++ m) := by
  apply ByteArray.ext
  show (bytesS l ++ bytesS m).data = _
  rw [ByteArray.data_append]
  simp [bytesS]
def RefIH (n : Nat) : Prop := ∀ (t : S43) (least : Int) (w : World) (vt : Value), nodes t < n → nodes t ≤ 8192 → rightB t = true → IsT w vt t → 0 ≤ least → least ≤ 4 →
    Calls Tryd.prog 139 #[vt, .int .i64 least] w fun e w' => e = .returned (.string (bytesS (parT t least))) ∧ Below w.heap.size w w'
theorem bytesS_size (l : List UInt8) : (bytesS l).size = l.length := by simp [bytesS, ByteArray.size]
theorem par_size {t : S43} {l : Int} (h : rightB t = true) (hn : nodes t ≤ 8192) : (bytesS (parT t l)).size ≤ 50000 := by
  rw [bytesS_size]
  have := parT_len t l h
  omega
theorem add_size {a b : ByteArray} {m n k : Nat} (ha : a.size ≤ m) (hb : b.size ≤ n) (h : m + n ≤ k) : (a ++ b).size ≤ k := by
  rw [ByteArray.size_append]
  omega
theorem brk_yes {t : S43} {l : Int} (h : tightI t.f0 < l) : (⟨#[40]⟩ : ByteArray) ++ bytesS (core t) ++ ⟨#[41]⟩ = bytesS (parT t l) := by
  rw [parT_brk h]
  show bytesS [40] ++ bytesS (core t) ++ bytesS [41] = _
  rw [bytesS_append, bytesS_append]
  rfl
theorem strength_calls {k : Int} (w : World) : Calls Tryd.prog 147 #[.int .i8 k] w fun e w' => e = .returned (.int .i64 (tightI k)) ∧ Below w.heap.size w w' := by
  refine (lychgateref02_strength.calls k (tightI k) w ?_).mono fun e w' h => ⟨h.1, h.2.below⟩
  unfold lychgateref02_strength.f tightI
  by_cases h3 : k = 3
  · simp [h3]
  by_cases h4 : k = 4
  · simp [h4]
  by_cases h5 : k = 5 <;> simp [h3, h4, h5]
theorem refsign_calls {k : Int} (w : World) : Calls Tryd.prog 148 #[.int .i8 k] w fun e w' => e = .returned (.string (if k = 3 then ⟨#[45, 62]⟩ else if k = 5 then ⟨#[43]⟩ else ⟨#[42]⟩)) ∧ Below w.heap.size w w' := by
  refine (lychgateref02_sign.calls k _ w ?_).mono fun e w' h => ⟨h.1, h.2.below⟩
  unfold lychgateref02_sign.f
  by_cases h3 : k = 3
  · simp [h3]
  by_cases h5 : k = 5 <;> simp [h3, h5]
theorem refCheck2_calls {t : S43} {v : Value} {w : World} (h : IsT w v t) : Calls Tryd.prog 42 #[v] w fun e w' => e = .returned (.int .i64 (checkI t)) ∧ Below w.heap.size w w' := by
  obtain ⟨A, c, rfl, h1, h2⟩ := h
  obtain ⟨k, hk⟩ := (refCheck_ev t.f0 t.f1).rounds
  rw [S43.eta] at hk
  exact lychgateref02_Check.calls k t.f0 A c t.f1 _ w h2 h1 hk
theorem refsign4_calls (w : World) : Calls Tryd.prog 148 #[.int .i8 4] w fun e w' => e = .returned (.string ⟨#[42]⟩) ∧ Below w.heap.size w w' := refsign_calls (k := 4) w
theorem refsign5_calls (w : World) : Calls Tryd.prog 148 #[.int .i8 5] w fun e w' => e = .returned (.string ⟨#[43]⟩) ∧ Below w.heap.size w w' := refsign_calls (k := 5) w
set_option maxRecDepth 100000 in
set_option maxHeartbeats 3200000 in
theorem rtext_leaf (k : Int) (hk : leafK k) (least : Int) (h4 : least ≤ 4) (h0 : 0 ≤ least) (w : World) (A : Option Addr) (c : Nat) :
    Calls Tryd.prog 139 #[.agg #[.int .i8 k, .slice A 0 c], .int .i64 least] w (fun e w' => e = .returned (.string (bytesS (parT ⟨k, []⟩ least))) ∧ Below w.heap.size w w') := by
  have hv : bytesS (parT ⟨k, []⟩ least) = bytesS (signL k) := by rw [parT_own (by have h5 : tightI k = 4 := by (rcases hk with rfl | rfl | rfl <;> rfl)
                                                                                  show least ≤ tightI k
                                                                                  omega), core_leaf]
  rw [hv]
  clear hv
  rcases hk with rfl | rfl | rfl
  · go_enter Tryd.func139, Tryd.ntmps139
    go_wp2_with fail
    refine (strength_calls (k := 0) _).mono ?_
    rintro e w1 ⟨rfl, hB⟩
    rw [show tightI 0 = 4 from rfl]
    obtain ⟨k1, hB1⟩ := one_block hB
    have K1 := Aside0.mk k1
    have HB := Aside0.mk hB1
    clear hB hB1 k1
    have e10 := (blk_cell K1.out 0).trans rfl
    have e11 := (blk_cell K1.out 1).trans rfl
    simp at e10 e11
    go_wp2_with fail
    go_ret
    exact ⟨rfl, HB.out⟩
  · go_enter Tryd.func139, Tryd.ntmps139
    go_wp2_with fail
    refine (strength_calls (k := 1) _).mono ?_
    rintro e w1 ⟨rfl, hB⟩
    rw [show tightI 1 = 4 from rfl]
    obtain ⟨k1, hB1⟩ := one_block hB
    have K1 := Aside0.mk k1
    have HB := Aside0.mk hB1
    clear hB hB1 k1
    have e10 := (blk_cell K1.out 0).trans rfl
    have e11 := (blk_cell K1.out 1).trans rfl
    simp at e10 e11
    go_wp2_with fail
    go_ret
    exact ⟨rfl, HB.out⟩
  · go_enter Tryd.func139, Tryd.ntmps139
    go_wp2_with fail
    refine (strength_calls (k := 2) _).mono ?_
    rintro e w1 ⟨rfl, hB⟩
    rw [show tightI 2 = 4 from rfl]
    obtain ⟨k1, hB1⟩ := one_block hB
    have K1 := Aside0.mk k1
    have HB := Aside0.mk hB1
    clear hB hB1 k1
    have e10 := (blk_cell K1.out 0).trans rfl
    have e11 := (blk_cell K1.out 1).trans rfl
    simp at e10 e11
    go_wp2_with fail
    go_ret
    exact ⟨rfl, HB.out⟩
theorem rx_two3 (x y : S43) : bytesS (parT x 2) ++ ⟨#[32, 45, 62, 32]⟩ ++ bytesS (parT y 1) = bytesS (core ⟨3, [x, y]⟩) := by
  show bytesS _ ++ bytesS [32, 45, 62, 32] ++ bytesS _ = _
  rw [bytesS_append, bytesS_append, core_two]
  rfl
theorem rx_two4 (x y : S43) : bytesS (parT x 3) ++ ⟨#[32]⟩ ++ ⟨#[42]⟩ ++ ⟨#[32]⟩ ++ bytesS (parT y 4) = bytesS (core ⟨4, [x, y]⟩) := by
  show bytesS _ ++ bytesS [32] ++ bytesS [42] ++ bytesS [32] ++ bytesS _ = _
  rw [bytesS_append, bytesS_append, bytesS_append, bytesS_append, core_two, List.append_assoc (parT x 3), List.append_assoc (parT x 3)]
  rfl
theorem rx_two5 (x y : S43) : bytesS (parT x 2) ++ ⟨#[32]⟩ ++ ⟨#[43]⟩ ++ ⟨#[32]⟩ ++ bytesS (parT y 3) = bytesS (core ⟨5, [x, y]⟩) := by
  show bytesS _ ++ bytesS [32] ++ bytesS [43] ++ bytesS [32] ++ bytesS _ = _
  rw [bytesS_append, bytesS_append, bytesS_append, bytesS_append, core_two, List.append_assoc (parT x 2), List.append_assoc (parT x 2)]
  rfl
set_option maxRecDepth 100000 in
set_option maxHeartbeats 3200000 in
theorem rtext_node3 (n : Nat) (x y : S43) (least : Int) (h4 : least ≤ 4) (h0 : 0 ≤ least) (w : World) (ad : Addr) (c : Nat) (Bx : Option Addr) (dx : Nat) (By : Option Addr) (dy : Nat) (IH : Aside0 (RefIH n)) (HNx : Aside0 (nodes x < n)) (HNy : Aside0 (nodes y < n)) (HMx : Aside0 (nodes x ≤ 8192)) (HMy : Aside0 (nodes y ≤ 8192)) (HXx : Aside0 (rightB x = true)) (HXy : Aside0 (rightB y = true)) (HF0 : Aside0 ((w.cell? ad = some (.int .i8 x.f0) ∧ w.cell? ⟨ad.block, ad.off + 1, none⟩ = some (.slice Bx x.f1.length dx) ∧ w.cell? ⟨ad.block, ad.off + 2, none⟩ = some (.int .i8 y.f0) ∧ w.cell? ⟨ad.block, ad.off + 2 + 1, none⟩ = some (.slice By y.f1.length dy)))) (TX0 : Aside0 (IsT w (.agg #[.int .i8 x.f0, .slice Bx x.f1.length dx]) x)) (TY0 : Aside0 (IsT w (.agg #[.int .i8 y.f0, .slice By y.f1.length dy]) y)) :
    Calls Tryd.prog 139 #[.agg #[.int .i8 3, .slice (some ad) 2 c], .int .i64 least] w (fun e w' => e = .returned (.string (bytesS (parT ⟨3, [x, y]⟩ least))) ∧ Below w.heap.size w w') := by
  have z0 : (bytesS (parT x 2)).size ≤ 50000 := par_size HXx.out HMx.out
  have zy : (bytesS (parT y 1)).size ≤ 50000 := par_size HXy.out HMy.out
  have z1 : (bytesS (parT x 2) ++ ⟨#[32, 45, 62, 32]⟩).size ≤ 50004 := add_size z0 (Nat.le_refl _) (by decide)
  have z2 : (bytesS (parT x 2) ++ ⟨#[32, 45, 62, 32]⟩ ++ bytesS (parT y 1)).size ≤ 110000 := add_size z1 zy (by decide)
  have z3 : ((⟨#[40]⟩ : ByteArray) ++ (bytesS (parT x 2) ++ ⟨#[32, 45, 62, 32]⟩ ++ bytesS (parT y 1))).size ≤ 110001 := add_size (a := ⟨#[40]⟩) (Nat.le_refl _) z2 (by decide)
  go_enter Tryd.func139, Tryd.ntmps139
  go_wp2_with fail
  refine (strength_calls (k := 3) _).mono ?_
  rintro e w1 ⟨rfl, hB⟩
  rw [show tightI 3 = 1 from rfl]
  obtain ⟨k1, hB1⟩ := one_block hB
  have K1 := Aside0.mk k1
  have HB := Aside0.mk hB1
  clear hB hB1 k1
  have e10 := (blk_cell K1.out 0).trans rfl
  have e11 := (blk_cell K1.out 1).trans rfl
  simp at e10 e11
  have HF := Aside0.mk (four_of HF0.out HB.out)
  have Tx := Aside0.mk (TX0.out.below HB.out)
  have Ty := Aside0.mk (TY0.out.below HB.out)
  go_wp2_with fail
  clear e10 e11
  have OK := Aside0.mk (fun (w' : World) (h : Below w1.heap.size w1 w') => (⟨⟨pw_cell_below h ((blk_cell K1.out 0).trans rfl), pw_cell_below h ((blk_cell K1.out 1).trans rfl)⟩, four_of HF.out h⟩ : (w'.cell? ⟨w.heap.size, 0, none⟩ = some (.int .i8 3) ∧ w'.cell? ⟨w.heap.size, 1, none⟩ = some (.slice (some ad) 2 c)) ∧ (w'.cell? ad = some (.int .i8 x.f0) ∧ w'.cell? ⟨ad.block, ad.off + 1, none⟩ = some (.slice Bx x.f1.length dx) ∧ w'.cell? ⟨ad.block, ad.off + 2, none⟩ = some (.int .i8 y.f0) ∧ w'.cell? ⟨ad.block, ad.off + 2 + 1, none⟩ = some (.slice By y.f1.length dy))))
  have HBW := Aside0.mk (Below.refl w1.heap.size w1)
  refine wp_region_held_drew (S := (fun w' => (w'.cell? ⟨w.heap.size, 0, none⟩ = some (.int .i8 3) ∧ w'.cell? ⟨w.heap.size, 1, none⟩ = some (.slice (some ad) 2 c)) ∧ (w'.cell? ad = some (.int .i8 x.f0) ∧ w'.cell? ⟨ad.block, ad.off + 1, none⟩ = some (.slice Bx x.f1.length dx) ∧ w'.cell? ⟨ad.block, ad.off + 2, none⟩ = some (.int .i8 y.f0) ∧ w'.cell? ⟨ad.block, ad.off + 2 + 1, none⟩ = some (.slice By y.f1.length dy)))) (by kernel_rfl) (OK.out _ HBW.out.drew) (fun hHeld => ?_)
  refine takeA 40 0 (v := ?_) ?_ hHeld ?_
  rotate_left
  · intro w hSw
    try dsimp only at hSw
    go_simp <;> with_reducible rfl
  try simp only [Act.put, List.setIfInBounds_toArray, List.set_cons_zero, List.set_cons_succ]
  refine takeA 41 1 (v := ?_) ?_ hHeld ?_
  rotate_left
  · intro w hSw
    try dsimp only at hSw
    go_simp <;> with_reducible rfl
  try simp only [Act.put, List.setIfInBounds_toArray, List.set_cons_zero, List.set_cons_succ]
  refine takeA 42 2 (v := ?_) ?_ hHeld ?_
  rotate_left
  · intro w hSw
    try dsimp only at hSw
    go_simp <;> with_reducible rfl
  try simp only [Act.put, List.setIfInBounds_toArray, List.set_cons_zero, List.set_cons_succ]
  refine takeA 43 3 (v := ?_) ?_ hHeld ?_
  rotate_left
  · intro w hSw
    try dsimp only at hSw
    go_simp <;> with_reducible rfl
  try simp only [Act.put, List.setIfInBounds_toArray, List.set_cons_zero, List.set_cons_succ]
  refine takeA 44 4 (v := ?_) ?_ hHeld ?_
  rotate_left
  · intro w hSw
    try dsimp only at hSw
    go_simp <;> with_reducible rfl
  try simp only [Act.put, List.setIfInBounds_toArray, List.set_cons_zero, List.set_cons_succ]
  refine takeA 45 5 (v := ?_) ?_ hHeld ?_
  rotate_left
  · intro w hSw
    try dsimp only at hSw
    go_simp <;> with_reducible rfl
  try simp only [Act.put, List.setIfInBounds_toArray, List.set_cons_zero, List.set_cons_succ]
  refine takeA 48 8 (v := ?_) ?_ hHeld ?_
  rotate_left
  · intro w hSw
    try dsimp only at hSw
    go_simp <;> with_reducible rfl
  try simp only [Act.put, List.setIfInBounds_toArray, List.set_cons_zero, List.set_cons_succ]
  refine takeA 49 9 (v := ?_) ?_ hHeld ?_
  rotate_left
  · intro w hSw
    try dsimp only at hSw
    go_simp <;> with_reducible rfl
  try simp only [Act.put, List.setIfInBounds_toArray, List.set_cons_zero, List.set_cons_succ]
  refine takeA 50 10 (v := ?_) ?_ hHeld ?_
  rotate_left
  · intro w hSw
    try dsimp only at hSw
    go_simp <;> with_reducible rfl
  try simp only [Act.put, List.setIfInBounds_toArray, List.set_cons_zero, List.set_cons_succ]
  refine takeA 51 11 (v := ?_) ?_ hHeld ?_
  rotate_left
  · intro w hSw
    try dsimp only at hSw
    go_simp <;> with_reducible rfl
  try simp only [Act.put, List.setIfInBounds_toArray, List.set_cons_zero, List.set_cons_succ]
  refine takeA 52 12 (v := ?_) ?_ hHeld ?_
  rotate_left
  · intro w hSw
    try dsimp only at hSw
    go_simp <;> with_reducible rfl
  try simp only [Act.put, List.setIfInBounds_toArray, List.set_cons_zero, List.set_cons_succ]
  refine callH (d := some 46) 6 rfl rfl (by kernel_rfl) (by rfl) (by kernel_rfl) (IH.out x 2 _ _ HNx.out HMx.out HXx.out ((Tx).out.below HBW.out.drew) (by omega) (by omega)) ?_
  rintro e v1 ⟨rfl, hB⟩
  have H1 := Aside0.mk (below_then HBW.out.drew (HBW.out.drew).size hB)
  clear hB
  refine ⟨_, rfl, OK.out _ H1.out, fun hHeld => ?_⟩
  try simp only [Act.put, List.setIfInBounds_toArray, List.set_cons_zero, List.set_cons_succ]
  refine takeH (d := some 47) (v := ?_) 7 rfl rfl (by kernel_rfl) (by kernel_rfl) (by kernel_rfl) (fun _ _ _ h => h) (by rfl) ?_ hHeld ?_
  rotate_left
  · intro w hSw
    try dsimp only at hSw
    go_simp
    rw [if_neg (by omega)]
  try simp only [Act.put, List.setIfInBounds_toArray, List.set_cons_zero, List.set_cons_succ]
  refine callH (d := some 53) 13 rfl rfl (by kernel_rfl) (by rfl) (by kernel_rfl) (IH.out y 1 _ _ HNy.out HMy.out HXy.out ((Ty).out.below H1.out) (by omega) (by omega)) ?_
  rintro e v2 ⟨rfl, hB⟩
  have H2 := Aside0.mk (below_then H1.out (H1.out).size hB)
  clear hB
  refine ⟨_, rfl, OK.out _ H2.out, fun hHeld => ?_⟩
  try simp only [Act.put, List.setIfInBounds_toArray, List.set_cons_zero, List.set_cons_succ]
  refine takeH (d := some 54) (v := ?_) 14 rfl rfl (by kernel_rfl) (by kernel_rfl) (by kernel_rfl) (fun _ _ _ h => h) (by rfl) ?_ hHeld ?_
  rotate_left
  · intro w hSw
    try dsimp only at hSw
    go_simp
    rw [if_neg (by omega)]
  try simp only [Act.put, List.setIfInBounds_toArray, List.set_cons_zero, List.set_cons_succ]
  refine takeA 5 15 (v := ?_) ?_ hHeld ?_
  rotate_left
  · intro w hSw
    try dsimp only at hSw
    go_simp <;> with_reducible rfl
  try simp only [Act.put, List.setIfInBounds_toArray, List.set_cons_zero, List.set_cons_succ]
  refine wpAnyH_done (by kernel_rfl) ?_ _
  replace HB := Aside0.mk (below_then HB.out HB.out.size H2.out)
  clear OK HBW H1 H2
  have HS := Aside0.mk (rx_two3 x y)
  by_cases hb : 1 < least
  · go_wp2_with fail
    go_ret
    refine ⟨congrArg (fun s => Ending.returned (Value.string s)) ?_, HB.out⟩
    show ⟨#[40]⟩ ++ (bytesS (parT x 2) ++ ⟨#[32, 45, 62, 32]⟩ ++ bytesS (parT y 1)) ++ ⟨#[41]⟩ = _
    rw [HS.out]
    exact brk_yes (t := ⟨3, [x, y]⟩) (l := least) hb
  · go_wp2_with fail
    go_ret
    refine ⟨congrArg (fun s => Ending.returned (Value.string s)) ?_, HB.out⟩
    show bytesS (parT x 2) ++ ⟨#[32, 45, 62, 32]⟩ ++ bytesS (parT y 1) = _
    rw [HS.out, parT_own (t := ⟨3, [x, y]⟩) (l := least) (by show least ≤ 1; omega)]
set_option maxRecDepth 100000 in
set_option maxHeartbeats 3200000 in
theorem rtext_node4 (n : Nat) (x y : S43) (least : Int) (h4 : least ≤ 4) (h0 : 0 ≤ least) (w : World) (ad : Addr) (c : Nat) (Bx : Option Addr) (dx : Nat) (By : Option Addr) (dy : Nat) (IH : Aside0 (RefIH n)) (HNx : Aside0 (nodes x < n)) (HNy : Aside0 (nodes y < n)) (HMx : Aside0 (nodes x ≤ 8192)) (HMy : Aside0 (nodes y ≤ 8192)) (HXx : Aside0 (rightB x = true)) (HXy : Aside0 (rightB y = true)) (HF0 : Aside0 ((w.cell? ad = some (.int .i8 x.f0) ∧ w.cell? ⟨ad.block, ad.off + 1, none⟩ = some (.slice Bx x.f1.length dx) ∧ w.cell? ⟨ad.block, ad.off + 2, none⟩ = some (.int .i8 y.f0) ∧ w.cell? ⟨ad.block, ad.off + 2 + 1, none⟩ = some (.slice By y.f1.length dy)))) (TX0 : Aside0 (IsT w (.agg #[.int .i8 x.f0, .slice Bx x.f1.length dx]) x)) (TY0 : Aside0 (IsT w (.agg #[.int .i8 y.f0, .slice By y.f1.length dy]) y)) :
    Calls Tryd.prog 139 #[.agg #[.int .i8 4, .slice (some ad) 2 c], .int .i64 least] w (fun e w' => e = .returned (.string (bytesS (parT ⟨4, [x, y]⟩ least))) ∧ Below w.heap.size w w') := by
  have z0 : (bytesS (parT x 3)).size ≤ 50000 := par_size HXx.out HMx.out
  have zy : (bytesS (parT y 4)).size ≤ 50000 := par_size HXy.out HMy.out
  have z1 : (bytesS (parT x 3) ++ ⟨#[32]⟩).size ≤ 50004 := add_size z0 (Nat.le_refl _) (by decide)
  have z2 : (bytesS (parT x 3) ++ ⟨#[32]⟩ ++ ⟨#[42]⟩).size ≤ 50008 := add_size z1 (Nat.le_refl _) (by decide)
  have z3 : (bytesS (parT x 3) ++ ⟨#[32]⟩ ++ ⟨#[42]⟩ ++ ⟨#[32]⟩).size ≤ 50012 := add_size z2 (Nat.le_refl _) (by decide)
  have z4 : (bytesS (parT x 3) ++ ⟨#[32]⟩ ++ ⟨#[42]⟩ ++ ⟨#[32]⟩ ++ bytesS (parT y 4)).size ≤ 110000 := add_size z3 zy (by decide)
  have z5 : ((⟨#[40]⟩ : ByteArray) ++ (bytesS (parT x 3) ++ ⟨#[32]⟩ ++ ⟨#[42]⟩ ++ ⟨#[32]⟩ ++ bytesS (parT y 4))).size ≤ 110001 := add_size (a := ⟨#[40]⟩) (Nat.le_refl _) z4 (by decide)
  go_enter Tryd.func139, Tryd.ntmps139
  go_wp2_with fail
  refine (strength_calls (k := 4) _).mono ?_
  rintro e w1 ⟨rfl, hB⟩
  rw [show tightI 4 = 3 from rfl]
  obtain ⟨k1, hB1⟩ := one_block hB
  have K1 := Aside0.mk k1
  have HB := Aside0.mk hB1
  clear hB hB1 k1
  have e10 := (blk_cell K1.out 0).trans rfl
  have e11 := (blk_cell K1.out 1).trans rfl
  simp at e10 e11
  have HF := Aside0.mk (four_of HF0.out HB.out)
  have Tx := Aside0.mk (TX0.out.below HB.out)
  have Ty := Aside0.mk (TY0.out.below HB.out)
  go_wp2_with fail
  clear e10 e11
  have OK := Aside0.mk (fun (w' : World) (h : Below w1.heap.size w1 w') => (⟨⟨pw_cell_below h ((blk_cell K1.out 0).trans rfl), pw_cell_below h ((blk_cell K1.out 1).trans rfl)⟩, four_of HF.out h⟩ : (w'.cell? ⟨w.heap.size, 0, none⟩ = some (.int .i8 4) ∧ w'.cell? ⟨w.heap.size, 1, none⟩ = some (.slice (some ad) 2 c)) ∧ (w'.cell? ad = some (.int .i8 x.f0) ∧ w'.cell? ⟨ad.block, ad.off + 1, none⟩ = some (.slice Bx x.f1.length dx) ∧ w'.cell? ⟨ad.block, ad.off + 2, none⟩ = some (.int .i8 y.f0) ∧ w'.cell? ⟨ad.block, ad.off + 2 + 1, none⟩ = some (.slice By y.f1.length dy))))
  have HBW := Aside0.mk (Below.refl w1.heap.size w1)
  refine wp_region_held_drew (S := (fun w' => (w'.cell? ⟨w.heap.size, 0, none⟩ = some (.int .i8 4) ∧ w'.cell? ⟨w.heap.size, 1, none⟩ = some (.slice (some ad) 2 c)) ∧ (w'.cell? ad = some (.int .i8 x.f0) ∧ w'.cell? ⟨ad.block, ad.off + 1, none⟩ = some (.slice Bx x.f1.length dx) ∧ w'.cell? ⟨ad.block, ad.off + 2, none⟩ = some (.int .i8 y.f0) ∧ w'.cell? ⟨ad.block, ad.off + 2 + 1, none⟩ = some (.slice By y.f1.length dy)))) (by kernel_rfl) (OK.out _ HBW.out.drew) (fun hHeld => ?_)
  refine takeA 12 0 (v := ?_) ?_ hHeld ?_
  rotate_left
  · intro w hSw
    try dsimp only at hSw
    go_simp <;> with_reducible rfl
  try simp only [Act.put, List.setIfInBounds_toArray, List.set_cons_zero, List.set_cons_succ]
  refine takeA 13 1 (v := ?_) ?_ hHeld ?_
  rotate_left
  · intro w hSw
    try dsimp only at hSw
    go_simp <;> with_reducible rfl
  try simp only [Act.put, List.setIfInBounds_toArray, List.set_cons_zero, List.set_cons_succ]
  refine takeA 14 2 (v := ?_) ?_ hHeld ?_
  rotate_left
  · intro w hSw
    try dsimp only at hSw
    go_simp <;> with_reducible rfl
  try simp only [Act.put, List.setIfInBounds_toArray, List.set_cons_zero, List.set_cons_succ]
  refine takeA 15 3 (v := ?_) ?_ hHeld ?_
  rotate_left
  · intro w hSw
    try dsimp only at hSw
    go_simp <;> with_reducible rfl
  try simp only [Act.put, List.setIfInBounds_toArray, List.set_cons_zero, List.set_cons_succ]
  refine takeA 16 4 (v := ?_) ?_ hHeld ?_
  rotate_left
  · intro w hSw
    try dsimp only at hSw
    go_simp <;> with_reducible rfl
  try simp only [Act.put, List.setIfInBounds_toArray, List.set_cons_zero, List.set_cons_succ]
  refine takeA 19 7 (v := ?_) ?_ hHeld ?_
  rotate_left
  · intro w hSw
    try dsimp only at hSw
    go_simp <;> with_reducible rfl
  try simp only [Act.put, List.setIfInBounds_toArray, List.set_cons_zero, List.set_cons_succ]
  refine takeA 20 8 (v := ?_) ?_ hHeld ?_
  rotate_left
  · intro w hSw
    try dsimp only at hSw
    go_simp <;> with_reducible rfl
  try simp only [Act.put, List.setIfInBounds_toArray, List.set_cons_zero, List.set_cons_succ]
  refine takeA 24 12 (v := ?_) ?_ hHeld ?_
  rotate_left
  · intro w hSw
    try dsimp only at hSw
    go_simp <;> with_reducible rfl
  try simp only [Act.put, List.setIfInBounds_toArray, List.set_cons_zero, List.set_cons_succ]
  refine takeA 25 13 (v := ?_) ?_ hHeld ?_
  rotate_left
  · intro w hSw
    try dsimp only at hSw
    go_simp <;> with_reducible rfl
  try simp only [Act.put, List.setIfInBounds_toArray, List.set_cons_zero, List.set_cons_succ]
  refine takeA 26 14 (v := ?_) ?_ hHeld ?_
  rotate_left
  · intro w hSw
    try dsimp only at hSw
    go_simp <;> with_reducible rfl
  try simp only [Act.put, List.setIfInBounds_toArray, List.set_cons_zero, List.set_cons_succ]
  refine takeA 27 15 (v := ?_) ?_ hHeld ?_
  rotate_left
  · intro w hSw
    try dsimp only at hSw
    go_simp <;> with_reducible rfl
  try simp only [Act.put, List.setIfInBounds_toArray, List.set_cons_zero, List.set_cons_succ]
  refine takeA 28 16 (v := ?_) ?_ hHeld ?_
  rotate_left
  · intro w hSw
    try dsimp only at hSw
    go_simp <;> with_reducible rfl
  try simp only [Act.put, List.setIfInBounds_toArray, List.set_cons_zero, List.set_cons_succ]
  refine takeA 29 17 (v := ?_) ?_ hHeld ?_
  rotate_left
  · intro w hSw
    try dsimp only at hSw
    go_simp <;> with_reducible rfl
  try simp only [Act.put, List.setIfInBounds_toArray, List.set_cons_zero, List.set_cons_succ]
  refine callH (d := some 17) 5 rfl rfl (by kernel_rfl) (by rfl) (by kernel_rfl) (IH.out x 3 _ _ HNx.out HMx.out HXx.out ((Tx).out.below HBW.out.drew) (by omega) (by omega)) ?_
  rintro e v1 ⟨rfl, hB⟩
  have H1 := Aside0.mk (below_then HBW.out.drew (HBW.out.drew).size hB)
  clear hB
  refine ⟨_, rfl, OK.out _ H1.out, fun hHeld => ?_⟩
  try simp only [Act.put, List.setIfInBounds_toArray, List.set_cons_zero, List.set_cons_succ]
  refine takeH (d := some 18) (v := ?_) 6 rfl rfl (by kernel_rfl) (by kernel_rfl) (by kernel_rfl) (fun _ _ _ h => h) (by rfl) ?_ hHeld ?_
  rotate_left
  · intro w hSw
    try dsimp only at hSw
    go_simp
    rw [if_neg (by omega)]
  try simp only [Act.put, List.setIfInBounds_toArray, List.set_cons_zero, List.set_cons_succ]
  refine callH (d := some 21) 9 rfl rfl (by kernel_rfl) (by rfl) (by kernel_rfl) (refsign4_calls _) ?_
  rintro e v2 ⟨rfl, hB⟩
  have H2 := Aside0.mk (below_then H1.out (H1.out).size hB)
  clear hB
  refine ⟨_, rfl, OK.out _ H2.out, fun hHeld => ?_⟩
  try simp only [Act.put, List.setIfInBounds_toArray, List.set_cons_zero, List.set_cons_succ]
  refine takeH (d := some 22) (v := ?_) 10 rfl rfl (by kernel_rfl) (by kernel_rfl) (by kernel_rfl) (fun _ _ _ h => h) (by rfl) ?_ hHeld ?_
  rotate_left
  · intro w hSw
    try dsimp only at hSw
    go_simp
    rw [if_neg (by omega)]
  try simp only [Act.put, List.setIfInBounds_toArray, List.set_cons_zero, List.set_cons_succ]
  refine takeH (d := some 23) (v := ?_) 11 rfl rfl (by kernel_rfl) (by kernel_rfl) (by kernel_rfl) (fun _ _ _ h => h) (by rfl) ?_ hHeld ?_
  rotate_left
  · intro w hSw
    try dsimp only at hSw
    go_simp
    rw [if_neg (by omega)]
  try simp only [Act.put, List.setIfInBounds_toArray, List.set_cons_zero, List.set_cons_succ]
  refine callH (d := some 30) 18 rfl rfl (by kernel_rfl) (by rfl) (by kernel_rfl) (IH.out y 4 _ _ HNy.out HMy.out HXy.out ((Ty).out.below H2.out) (by omega) (by omega)) ?_
  rintro e v3 ⟨rfl, hB⟩
  have H3 := Aside0.mk (below_then H2.out (H2.out).size hB)
  clear hB
  refine ⟨_, rfl, OK.out _ H3.out, fun hHeld => ?_⟩
  try simp only [Act.put, List.setIfInBounds_toArray, List.set_cons_zero, List.set_cons_succ]
  refine takeH (d := some 31) (v := ?_) 19 rfl rfl (by kernel_rfl) (by kernel_rfl) (by kernel_rfl) (fun _ _ _ h => h) (by rfl) ?_ hHeld ?_
  rotate_left
  · intro w hSw
    try dsimp only at hSw
    go_simp
    rw [if_neg (by omega)]
  try simp only [Act.put, List.setIfInBounds_toArray, List.set_cons_zero, List.set_cons_succ]
  refine takeA 5 20 (v := ?_) ?_ hHeld ?_
  rotate_left
  · intro w hSw
    try dsimp only at hSw
    go_simp <;> with_reducible rfl
  try simp only [Act.put, List.setIfInBounds_toArray, List.set_cons_zero, List.set_cons_succ]
  refine wpAnyH_done (by kernel_rfl) ?_ _
  replace HB := Aside0.mk (below_then HB.out HB.out.size H3.out)
  clear OK HBW H1 H2 H3
  have HS := Aside0.mk (rx_two4 x y)
  by_cases hb : 3 < least
  · go_wp2_with fail
    go_ret
    refine ⟨congrArg (fun s => Ending.returned (Value.string s)) ?_, HB.out⟩
    show ⟨#[40]⟩ ++ (bytesS (parT x 3) ++ ⟨#[32]⟩ ++ ⟨#[42]⟩ ++ ⟨#[32]⟩ ++ bytesS (parT y 4)) ++ ⟨#[41]⟩ = _
    rw [HS.out]
    exact brk_yes (t := ⟨4, [x, y]⟩) (l := least) hb
  · go_wp2_with fail
    go_ret
    refine ⟨congrArg (fun s => Ending.returned (Value.string s)) ?_, HB.out⟩
    show bytesS (parT x 3) ++ ⟨#[32]⟩ ++ ⟨#[42]⟩ ++ ⟨#[32]⟩ ++ bytesS (parT y 4) = _
    rw [HS.out, parT_own (t := ⟨4, [x, y]⟩) (l := least) (by show least ≤ 3; omega)]
set_option maxRecDepth 100000 in
set_option maxHeartbeats 3200000 in
theorem rtext_node5 (n : Nat) (x y : S43) (least : Int) (h4 : least ≤ 4) (h0 : 0 ≤ least) (w : World) (ad : Addr) (c : Nat) (Bx : Option Addr) (dx : Nat) (By : Option Addr) (dy : Nat) (IH : Aside0 (RefIH n)) (HNx : Aside0 (nodes x < n)) (HNy : Aside0 (nodes y < n)) (HMx : Aside0 (nodes x ≤ 8192)) (HMy : Aside0 (nodes y ≤ 8192)) (HXx : Aside0 (rightB x = true)) (HXy : Aside0 (rightB y = true)) (HF0 : Aside0 ((w.cell? ad = some (.int .i8 x.f0) ∧ w.cell? ⟨ad.block, ad.off + 1, none⟩ = some (.slice Bx x.f1.length dx) ∧ w.cell? ⟨ad.block, ad.off + 2, none⟩ = some (.int .i8 y.f0) ∧ w.cell? ⟨ad.block, ad.off + 2 + 1, none⟩ = some (.slice By y.f1.length dy)))) (TX0 : Aside0 (IsT w (.agg #[.int .i8 x.f0, .slice Bx x.f1.length dx]) x)) (TY0 : Aside0 (IsT w (.agg #[.int .i8 y.f0, .slice By y.f1.length dy]) y)) :
    Calls Tryd.prog 139 #[.agg #[.int .i8 5, .slice (some ad) 2 c], .int .i64 least] w (fun e w' => e = .returned (.string (bytesS (parT ⟨5, [x, y]⟩ least))) ∧ Below w.heap.size w w') := by
  have z0 : (bytesS (parT x 2)).size ≤ 50000 := par_size HXx.out HMx.out
  have zy : (bytesS (parT y 3)).size ≤ 50000 := par_size HXy.out HMy.out
  have z1 : (bytesS (parT x 2) ++ ⟨#[32]⟩).size ≤ 50004 := add_size z0 (Nat.le_refl _) (by decide)
  have z2 : (bytesS (parT x 2) ++ ⟨#[32]⟩ ++ ⟨#[43]⟩).size ≤ 50008 := add_size z1 (Nat.le_refl _) (by decide)
  have z3 : (bytesS (parT x 2) ++ ⟨#[32]⟩ ++ ⟨#[43]⟩ ++ ⟨#[32]⟩).size ≤ 50012 := add_size z2 (Nat.le_refl _) (by decide)
  have z4 : (bytesS (parT x 2) ++ ⟨#[32]⟩ ++ ⟨#[43]⟩ ++ ⟨#[32]⟩ ++ bytesS (parT y 3)).size ≤ 110000 := add_size z3 zy (by decide)
  have z5 : ((⟨#[40]⟩ : ByteArray) ++ (bytesS (parT x 2) ++ ⟨#[32]⟩ ++ ⟨#[43]⟩ ++ ⟨#[32]⟩ ++ bytesS (parT y 3))).size ≤ 110001 := add_size (a := ⟨#[40]⟩) (Nat.le_refl _) z4 (by decide)
  go_enter Tryd.func139, Tryd.ntmps139
  go_wp2_with fail
  refine (strength_calls (k := 5) _).mono ?_
  rintro e w1 ⟨rfl, hB⟩
  rw [show tightI 5 = 2 from rfl]
  obtain ⟨k1, hB1⟩ := one_block hB
  have K1 := Aside0.mk k1
  have HB := Aside0.mk hB1
  clear hB hB1 k1
  have e10 := (blk_cell K1.out 0).trans rfl
  have e11 := (blk_cell K1.out 1).trans rfl
  simp at e10 e11
  have HF := Aside0.mk (four_of HF0.out HB.out)
  have Tx := Aside0.mk (TX0.out.below HB.out)
  have Ty := Aside0.mk (TY0.out.below HB.out)
  go_wp2_with fail
  clear e10 e11
  have OK := Aside0.mk (fun (w' : World) (h : Below w1.heap.size w1 w') => (⟨⟨pw_cell_below h ((blk_cell K1.out 0).trans rfl), pw_cell_below h ((blk_cell K1.out 1).trans rfl)⟩, four_of HF.out h⟩ : (w'.cell? ⟨w.heap.size, 0, none⟩ = some (.int .i8 5) ∧ w'.cell? ⟨w.heap.size, 1, none⟩ = some (.slice (some ad) 2 c)) ∧ (w'.cell? ad = some (.int .i8 x.f0) ∧ w'.cell? ⟨ad.block, ad.off + 1, none⟩ = some (.slice Bx x.f1.length dx) ∧ w'.cell? ⟨ad.block, ad.off + 2, none⟩ = some (.int .i8 y.f0) ∧ w'.cell? ⟨ad.block, ad.off + 2 + 1, none⟩ = some (.slice By y.f1.length dy))))
  have HBW := Aside0.mk (Below.refl w1.heap.size w1)
  refine wp_region_held_drew (S := (fun w' => (w'.cell? ⟨w.heap.size, 0, none⟩ = some (.int .i8 5) ∧ w'.cell? ⟨w.heap.size, 1, none⟩ = some (.slice (some ad) 2 c)) ∧ (w'.cell? ad = some (.int .i8 x.f0) ∧ w'.cell? ⟨ad.block, ad.off + 1, none⟩ = some (.slice Bx x.f1.length dx) ∧ w'.cell? ⟨ad.block, ad.off + 2, none⟩ = some (.int .i8 y.f0) ∧ w'.cell? ⟨ad.block, ad.off + 2 + 1, none⟩ = some (.slice By y.f1.length dy)))) (by kernel_rfl) (OK.out _ HBW.out.drew) (fun hHeld => ?_)
  refine takeA 12 0 (v := ?_) ?_ hHeld ?_
  rotate_left
  · intro w hSw
    try dsimp only at hSw
    go_simp <;> with_reducible rfl
  try simp only [Act.put, List.setIfInBounds_toArray, List.set_cons_zero, List.set_cons_succ]
  refine takeA 13 1 (v := ?_) ?_ hHeld ?_
  rotate_left
  · intro w hSw
    try dsimp only at hSw
    go_simp <;> with_reducible rfl
  try simp only [Act.put, List.setIfInBounds_toArray, List.set_cons_zero, List.set_cons_succ]
  refine takeA 14 2 (v := ?_) ?_ hHeld ?_
  rotate_left
  · intro w hSw
    try dsimp only at hSw
    go_simp <;> with_reducible rfl
  try simp only [Act.put, List.setIfInBounds_toArray, List.set_cons_zero, List.set_cons_succ]
  refine takeA 15 3 (v := ?_) ?_ hHeld ?_
  rotate_left
  · intro w hSw
    try dsimp only at hSw
    go_simp <;> with_reducible rfl
  try simp only [Act.put, List.setIfInBounds_toArray, List.set_cons_zero, List.set_cons_succ]
  refine takeA 16 4 (v := ?_) ?_ hHeld ?_
  rotate_left
  · intro w hSw
    try dsimp only at hSw
    go_simp <;> with_reducible rfl
  try simp only [Act.put, List.setIfInBounds_toArray, List.set_cons_zero, List.set_cons_succ]
  refine takeA 19 7 (v := ?_) ?_ hHeld ?_
  rotate_left
  · intro w hSw
    try dsimp only at hSw
    go_simp <;> with_reducible rfl
  try simp only [Act.put, List.setIfInBounds_toArray, List.set_cons_zero, List.set_cons_succ]
  refine takeA 20 8 (v := ?_) ?_ hHeld ?_
  rotate_left
  · intro w hSw
    try dsimp only at hSw
    go_simp <;> with_reducible rfl
  try simp only [Act.put, List.setIfInBounds_toArray, List.set_cons_zero, List.set_cons_succ]
  refine takeA 24 12 (v := ?_) ?_ hHeld ?_
  rotate_left
  · intro w hSw
    try dsimp only at hSw
    go_simp <;> with_reducible rfl
  try simp only [Act.put, List.setIfInBounds_toArray, List.set_cons_zero, List.set_cons_succ]
  refine takeA 25 13 (v := ?_) ?_ hHeld ?_
  rotate_left
  · intro w hSw
    try dsimp only at hSw
    go_simp <;> with_reducible rfl
  try simp only [Act.put, List.setIfInBounds_toArray, List.set_cons_zero, List.set_cons_succ]
  refine takeA 26 14 (v := ?_) ?_ hHeld ?_
  rotate_left
  · intro w hSw
    try dsimp only at hSw
    go_simp <;> with_reducible rfl
  try simp only [Act.put, List.setIfInBounds_toArray, List.set_cons_zero, List.set_cons_succ]
  refine takeA 27 15 (v := ?_) ?_ hHeld ?_
  rotate_left
  · intro w hSw
    try dsimp only at hSw
    go_simp <;> with_reducible rfl
  try simp only [Act.put, List.setIfInBounds_toArray, List.set_cons_zero, List.set_cons_succ]
  refine takeA 28 16 (v := ?_) ?_ hHeld ?_
  rotate_left
  · intro w hSw
    try dsimp only at hSw
    go_simp <;> with_reducible rfl
  try simp only [Act.put, List.setIfInBounds_toArray, List.set_cons_zero, List.set_cons_succ]
  refine takeA 29 17 (v := ?_) ?_ hHeld ?_
  rotate_left
  · intro w hSw
    try dsimp only at hSw
    go_simp <;> with_reducible rfl
  try simp only [Act.put, List.setIfInBounds_toArray, List.set_cons_zero, List.set_cons_succ]
  refine callH (d := some 17) 5 rfl rfl (by kernel_rfl) (by rfl) (by kernel_rfl) (IH.out x 2 _ _ HNx.out HMx.out HXx.out ((Tx).out.below HBW.out.drew) (by omega) (by omega)) ?_
  rintro e v1 ⟨rfl, hB⟩
  have H1 := Aside0.mk (below_then HBW.out.drew (HBW.out.drew).size hB)
  clear hB
  refine ⟨_, rfl, OK.out _ H1.out, fun hHeld => ?_⟩
  try simp only [Act.put, List.setIfInBounds_toArray, List.set_cons_zero, List.set_cons_succ]
  refine takeH (d := some 18) (v := ?_) 6 rfl rfl (by kernel_rfl) (by kernel_rfl) (by kernel_rfl) (fun _ _ _ h => h) (by rfl) ?_ hHeld ?_
  rotate_left
  · intro w hSw
    try dsimp only at hSw
    go_simp
    rw [if_neg (by omega)]
  try simp only [Act.put, List.setIfInBounds_toArray, List.set_cons_zero, List.set_cons_succ]
  refine callH (d := some 21) 9 rfl rfl (by kernel_rfl) (by rfl) (by kernel_rfl) (refsign5_calls _) ?_
  rintro e v2 ⟨rfl, hB⟩
  have H2 := Aside0.mk (below_then H1.out (H1.out).size hB)
  clear hB
  refine ⟨_, rfl, OK.out _ H2.out, fun hHeld => ?_⟩
  try simp only [Act.put, List.setIfInBounds_toArray, List.set_cons_zero, List.set_cons_succ]
  refine takeH (d := some 22) (v := ?_) 10 rfl rfl (by kernel_rfl) (by kernel_rfl) (by kernel_rfl) (fun _ _ _ h => h) (by rfl) ?_ hHeld ?_
  rotate_left
  · intro w hSw
    try dsimp only at hSw
    go_simp
    rw [if_neg (by omega)]
  try simp only [Act.put, List.setIfInBounds_toArray, List.set_cons_zero, List.set_cons_succ]
  refine takeH (d := some 23) (v := ?_) 11 rfl rfl (by kernel_rfl) (by kernel_rfl) (by kernel_rfl) (fun _ _ _ h => h) (by rfl) ?_ hHeld ?_
  rotate_left
  · intro w hSw
    try dsimp only at hSw
    go_simp
    rw [if_neg (by omega)]
  try simp only [Act.put, List.setIfInBounds_toArray, List.set_cons_zero, List.set_cons_succ]
  refine callH (d := some 30) 18 rfl rfl (by kernel_rfl) (by rfl) (by kernel_rfl) (IH.out y 3 _ _ HNy.out HMy.out HXy.out ((Ty).out.below H2.out) (by omega) (by omega)) ?_
  rintro e v3 ⟨rfl, hB⟩
  have H3 := Aside0.mk (below_then H2.out (H2.out).size hB)
  clear hB
  refine ⟨_, rfl, OK.out _ H3.out, fun hHeld => ?_⟩
  try simp only [Act.put, List.setIfInBounds_toArray, List.set_cons_zero, List.set_cons_succ]
  refine takeH (d := some 31) (v := ?_) 19 rfl rfl (by kernel_rfl) (by kernel_rfl) (by kernel_rfl) (fun _ _ _ h => h) (by rfl) ?_ hHeld ?_
  rotate_left
  · intro w hSw
    try dsimp only at hSw
    go_simp
    rw [if_neg (by omega)]
  try simp only [Act.put, List.setIfInBounds_toArray, List.set_cons_zero, List.set_cons_succ]
  refine takeA 5 20 (v := ?_) ?_ hHeld ?_
  rotate_left
  · intro w hSw
    try dsimp only at hSw
    go_simp <;> with_reducible rfl
  try simp only [Act.put, List.setIfInBounds_toArray, List.set_cons_zero, List.set_cons_succ]
  refine wpAnyH_done (by kernel_rfl) ?_ _
  replace HB := Aside0.mk (below_then HB.out HB.out.size H3.out)
  clear OK HBW H1 H2 H3
  have HS := Aside0.mk (rx_two5 x y)
  by_cases hb : 2 < least
  · go_wp2_with fail
    go_ret
    refine ⟨congrArg (fun s => Ending.returned (Value.string s)) ?_, HB.out⟩
    show ⟨#[40]⟩ ++ (bytesS (parT x 2) ++ ⟨#[32]⟩ ++ ⟨#[43]⟩ ++ ⟨#[32]⟩ ++ bytesS (parT y 3)) ++ ⟨#[41]⟩ = _
    rw [HS.out]
    exact brk_yes (t := ⟨5, [x, y]⟩) (l := least) hb
  · go_wp2_with fail
    go_ret
    refine ⟨congrArg (fun s => Ending.returned (Value.string s)) ?_, HB.out⟩
    show bytesS (parT x 2) ++ ⟨#[32]⟩ ++ ⟨#[43]⟩ ++ ⟨#[32]⟩ ++ bytesS (parT y 3) = _
    rw [HS.out, parT_own (t := ⟨5, [x, y]⟩) (l := least) (by show least ≤ 2; omega)]
theorem rtext_all (n : Nat) : RefIH n := by
  induction n with
  | zero => intro t least w vt h; omega
  | succ n ih =>
    intro t least w vt hn hm hr hT h0 h4
    rcases right_cases hr with ⟨k, hk, rfl⟩ | ⟨k, x, y, hk, hx, hy, rfl⟩
    · obtain ⟨A, c, rfl, _, _⟩ := hT
      exact rtext_leaf k hk least h4 h0 w A c
    · obtain ⟨ad, c, Bx, dx, By, dy, rfl, hF, hX, hY, _⟩ := hT.open2
      rw [nodes_two] at hn hm
      have p1 := nodes_pos x
      have p2 := nodes_pos y
      rcases hk with rfl | rfl | rfl
      · exact rtext_node3 n x y least h4 h0 w ad c Bx dx By dy (.mk ih) (.mk (by omega)) (.mk (by omega)) (.mk (by omega)) (.mk (by omega)) (.mk hx) (.mk hy) (.mk hF) (.mk hX) (.mk hY)
      · exact rtext_node4 n x y least h4 h0 w ad c Bx dx By dy (.mk ih) (.mk (by omega)) (.mk (by omega)) (.mk (by omega)) (.mk (by omega)) (.mk hx) (.mk hy) (.mk hF) (.mk hX) (.mk hY)
      · exact rtext_node5 n x y least h4 h0 w ad c Bx dx By dy (.mk ih) (.mk (by omega)) (.mk (by omega)) (.mk (by omega)) (.mk (by omega)) (.mk hx) (.mk hy) (.mk hF) (.mk hX) (.mk hY)
set_option maxRecDepth 100000 in
set_option maxHeartbeats 1600000 in
theorem refText_calls {t : S43} {v : Value} {w : World} (h : IsT w v t) : Calls Tryd.prog 131 #[v] w (TPost t w) := by
  have HT := Aside0.mk h
  obtain ⟨A, c, rfl, _, _⟩ := h
  by_cases hc : checkI t = 0
  · have HC := Aside0.mk hc
    have HS : Aside0 (textS t = ⟨(core t).toArray⟩) := .mk (by unfold textS; rw [if_pos hc])
    have HR := Aside0.mk (check_nodes hc).2.2
    have HN := Aside0.mk (check_nodes hc).1
    clear hc
    go_enter Tryd.func131, Tryd.ntmps131
    go_wp2_with fail
    refine (refCheck2_calls (HT.out.below (below1 ..))).mono ?_
    rw [HC.out]
    rintro e w1 ⟨rfl, hB⟩
    obtain ⟨k1, hB1⟩ := one_block hB
    have HB := Aside0.mk hB1
    replace HT := Aside0.mk (HT.out.below hB1)
    have e10 := (blk_cell k1 0).trans rfl
    have e11 := (blk_cell k1 1).trans rfl
    simp at e10 e11
    clear hB hB1 k1
    go_wp2_with fail
    refine (rtext_all (nodes t + 1) t 0 w1 _ (by omega) HN.out HR.out HT.out (by omega) (by omega)).mono ?_
    rintro e w2 ⟨rfl, hB⟩
    replace HB := Aside0.mk (below_then HB.out HB.out.size hB)
    clear hB e10 e11
    go_wp2_with fail
    go_ret2
    refine ⟨?_, HB.out⟩
    rw [HS.out, HC.out, parT_own (by unfold tightI; (repeat' split) <;> omega)]
    rfl
  · have HC : Aside0 ((checkI t != 0) = true) := .mk (by simp [hc])
    have HS : Aside0 (textS t = ⟨#[]⟩) := .mk (by unfold textS; rw [if_neg hc])
    clear hc
    go_enter Tryd.func131, Tryd.ntmps131
    go_wp2_with fail
    refine (refCheck2_calls (HT.out.below (below1 ..))).mono ?_
    rintro e w1 ⟨rfl, hB⟩
    obtain ⟨k1, hB1⟩ := one_block hB
    have HB := Aside0.mk hB1
    have hc := HC.out
    clear hB hB1 k1 HC
    go_wp2_with fail
    go_ret2
    refine ⟨?_, HB.out⟩
    rw [HS.out]
    rfl
end Go.Proofs.YtjmpejbciniceaaDoor.X
namespace Go.Proofs.YtjmpejbciniceaaDoor.X
open Go.RowKit Go.Proofs.YtjmpejbciniceaaDoorW.PrintWords Go.Proofs.YtjmpejbciniceaaDoorW.PrintLast Go.Proofs.YtjmpejbciniceaaDoorW.PrintMore
set_option linter.unusedVariables false
set_option linter.unusedSimpArgs false
def bS (l : List UInt8) : ByteArray := ⟨l.toArray⟩
theorem bS_app (l m : List UInt8) : bS l ++ bS m = bS (l ++ m) := by
  apply ByteArray.ext
  rw [ByteArray.data_append]
  simp [bS]
theorem bS_size (l : List UInt8) : (bS l).size = l.length := by simp [bS, ByteArray.size]
def StrPost (l : List UInt8) (w : World) (e : Ending) (w' : World) : Prop := e = .returned (.string (bS l)) ∧ Below w.heap.size w w'
set_option maxRecDepth 100000 in
set_option maxHeartbeats 1600000 in
theorem rkind_calls {t : S43} {v : Value} {w : World} (h : IsT w v t) (hc : checkI t = 0) : Calls Tryd.prog 109 #[v] w (StrPost (braceC t) w) := by
  have HT := Aside0.mk h
  obtain ⟨A, c, rfl, -, -⟩ := h
  have HC := Aside0.mk hc
  have HS : Aside0 (textS t = bS (core t)) := .mk (by unfold textS; rw [if_pos hc]; rfl)
  have HN := Aside0.mk (check_nodes hc)
  have HL : Aside0 ((bS (core t)).size ≤ 50000) := .mk (by rw [bS_size]; have := core_len t HN.out.2.2; have := HN.out.1; omega)
  clear hc
  have hb0 : Below w.heap.size w (w.alloc (.cells #[.int .i8 t.f0, .slice A t.f1.length c] 43)) := (Below.refl _ _).alloc (Nat.le_refl _) _
  replace HT := Aside0.mk (HT.out.below hb0)
  have HW := Aside0.mk hb0
  clear hb0
  go_enter Tryd.func109, Tryd.ntmps109
  go_wp2_with fail
  generalize w.alloc (.cells #[.int .i8 t.f0, .slice A t.f1.length c] 43) = wa at *
  refine (refText_calls HT.out).mono ?_
  unfold TPost
  rw [HS.out, HC.out]
  rintro e w1 ⟨rfl, hB⟩
  replace HW := Aside0.mk (below_then HW.out HW.out.size hB)
  clear hB
  have q0 : ¬ (9223372036854775807 < 2 + (bS (core t)).size) := by have := HL.out; omega
  have q1 : ¬ (9223372036854775807 < 2 + (bS (core t)).size + 2) := by have := HL.out; omega
  go_wp2_with fail
  go_ret
  refine ⟨?_, HW.out⟩
  show Ending.returned (.string ((bS [123, 32] ++ bS (core t)) ++ bS [32, 125])) = _
  rw [bS_app, bS_app]
  simp [braceC]
theorem enc_digit (d : Nat) (h : d < 10) : Utf8.encode (48 + (d : Int)) = ⟨#[UInt8.ofNat (48 + d)]⟩ := by
  have hk : d = 0 ∨ d = 1 ∨ d = 2 ∨ d = 3 ∨ d = 4 ∨ d = 5 ∨ d = 6 ∨ d = 7 ∨ d = 8 ∨ d = 9 := by omega
  rcases hk with rfl | rfl | rfl | rfl | rfl | rfl | rfl | rfl | rfl | rfl <;> rfl
set_option maxRecDepth 100000 in
set_option maxHeartbeats 3200000 in
theorem digits_calls (N : Nat) (w : World) (h : N ≤ 9223372036854775807) : Calls Tryd.prog 132 #[.int .i64 (N : Int)] w (StrPost (Lib.decDigits N) w) := by
  have hlen := dec_len' 18 N (by omega)
  go_enter Tryd.func132, Tryd.ntmps132
  go_wp2_with fail
  go_loopw [0, 3] (fun nv sv wr => ∃ (m : Nat) (t : ByteArray), nv = .int .i64 m ∧ sv = .string t ∧ m ≤ 9223372036854775807 ∧ Lib.decDigits N = Lib.decDigits m ++ t.data.toList ∧ Below w.heap.size w wr) (fun nv _ _ => (intOf nv).toNat)
  case atStart => exact ⟨N, ⟨#[]⟩, rfl, rfl, h, by simp, Below.refl _ _⟩
  case round =>
    obtain ⟨m, t, rfl, rfl, hm, hd, hB⟩ := hrel
    have htl : t.size ≤ 19 := by
      have := congrArg List.length hd
      simp at this
      omega
    have HD := Aside0.mk hd
    have HB := Aside0.mk hB
    clear hd hB hlen
    by_cases h9 : m < 10
    · have hn : ¬ ((9 : Int) < (m : Int)) := by omega
      have he := enc_digit m h9
      have HC := Aside0.mk (Lib.decDigits_one h9)
      generalize UInt8.ofNat (48 + m) = c at he HC
      have q0 : ¬ (9223372036854775807 < 1 + t.size) := by omega
      go_wp2_with fail
      go_ret
      refine ⟨?_, HB.out⟩
      unfold bS
      rw [HD.out, HC.out]
      show Ending.returned (.string _) = _
      congr 2
    · have hn : ((9 : Int) < (m : Int)) := by omega
      have he := enc_digit (m % 10) (by omega)
      rw [show ((m % 10 : Nat) : Int) = (m : Int) % 10 from rfl] at he
      have HC : Aside0 (Lib.decDigits m = Lib.decDigits (m / 10) ++ [UInt8.ofNat (48 + m % 10)]) := .mk (by rw [Lib.decDigits, dif_neg h9])
      generalize UInt8.ofNat (48 + m % 10) = c at he HC
      have q0 : ¬ (9223372036854775807 < 1 + t.size) := by omega
      go_wp2_with fail
      refine ⟨⟨m / 10, (⟨#[c]⟩ : ByteArray) ++ t, by simp, by simp, by omega, ?_, HB.out⟩, by simp [intOf]; omega⟩
      rw [HD.out, HC.out, List.append_assoc]
      simp [ByteArray.data_append]
theorem digitsI_calls (i : Int) (w : World) (h0 : 0 ≤ i) (h1 : i ≤ 9223372036854775807) : Calls Tryd.prog 132 #[.int .i64 i] w (StrPost (Lib.itoa i) w) := by
  obtain ⟨n, rfl⟩ : ∃ n : Nat, i = (n : Int) := ⟨i.toNat, by omega⟩
  rw [Lib.itoa_nonneg]
  exact digits_calls n w (by omega)
set_option maxRecDepth 100000 in
set_option maxHeartbeats 3200000 in
theorem side_calls {x : S54} {v : Value} {w : World} (hx : IsC w v x) (h0 : 0 ≤ x.f3) (h1 : x.f3 ≤ 9223372036854775807) : Calls Tryd.prog 110 #[v] w (StrPost (sideC x.f3 x.f4) w) := by
  obtain ⟨A2, c2, A4, c4, A7, c7, rfl, -⟩ := hx
  have hB0 : Below w.heap.size w (w.alloc (.cells #[.int .i8 x.f0, .int .i8 x.f1.f0, .slice A2 x.f1.f1.length c2, .int .i8 x.f2.f0, .slice A4 x.f2.f1.length c4, .int .i64 x.f3, .bool x.f4, .slice A7 x.f5.length c7] 54)) := (Below.refl _ _).alloc (Nat.le_refl _) _
  have K0 := Aside0.mk (heap_alloc_new w (.cells #[.int .i8 x.f0, .int .i8 x.f1.f0, .slice A2 x.f1.f1.length c2, .int .i8 x.f2.f0, .slice A4 x.f2.f1.length c4, .int .i64 x.f3, .bool x.f4, .slice A7 x.f5.length c7] 54))
  have HW := Aside0.mk hB0
  clear hB0
  have H0 := Aside0.mk h0
  have H1 := Aside0.mk h1
  have HD := Aside0.mk (itoa_len' x.f3 (by omega) h1)
  clear h0 h1
  go_enter Tryd.func110, Tryd.ntmps110
  go_wp2_with fail
  generalize w.alloc (.cells #[.int .i8 x.f0, .int .i8 x.f1.f0, .slice A2 x.f1.f1.length c2, .int .i8 x.f2.f0, .slice A4 x.f2.f1.length c4, .int .i64 x.f3, .bool x.f4, .slice A7 x.f5.length c7] 54) = wa at *
  refine (digitsI_calls x.f3 wa H0.out H1.out).mono ?_
  rintro e w1 ⟨rfl, hB⟩
  replace K0 := Aside0.mk (blk_below K0.out hB)
  replace HW := Aside0.mk (below_then HW.out HW.out.size hB)
  clear hB
  obtain ⟨b0, b1, b2, b3, b4, b5, b6, b7⟩ := cells8 K0.out
  have q0 : ¬ (9223372036854775807 < 1 + (bS (Lib.itoa x.f3)).size) := by rw [bS_size]; have := HD.out; omega
  cases hn : x.f4 with
  | true =>
    rw [hn] at b6
    go_wp2_with fail
    go_ret
    refine ⟨?_, HW.out⟩
    unfold sideC
    rw [hn, if_pos rfl, ← bS_app]
    rfl
  | false =>
    rw [hn] at b6
    go_wp2_with fail
    go_ret
    refine ⟨?_, HW.out⟩
    unfold sideC
    rw [hn]
    rfl
end Go.Proofs.YtjmpejbciniceaaDoor.X
