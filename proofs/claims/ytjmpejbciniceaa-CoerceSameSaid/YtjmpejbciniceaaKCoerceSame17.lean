/- Texts of this claim, joined: HCpW, HCpK. -/
import Derived.RegionTactic
import Derived.Test.YtjmpejbciniceaaKCoerceSame16
namespace Go.Proofs.Ytjmpejbciniceaa.X
open Go.RowKit Go.Proofs.YtjmpejbciniceaaW.PrintWords Go.Proofs.YtjmpejbciniceaaW.PrintLast Go.Proofs.YtjmpejbciniceaaW.PrintMore
set_option linter.unusedVariables false
set_option linter.unusedSimpArgs false
def AtT (w : World) (q : Addr) (t : S35) : Prop := ∃ A c, w.cell? q = some (.int .i8 t.f0) ∧ w.cell? ⟨q.block, q.off + 1, none⟩ = some (.slice A t.f1.length c) ∧ t.f1.length ≤ c ∧ Kd.C k35 w A t.f1.length t.f1
theorem AtT.below {w w' : World} {q : Addr} {t : S35} (h : AtT w q t) (hB : Below w.heap.size w w') : AtT w' q t := by
  obtain ⟨A, c, h1, h2, h3, h4⟩ := h
  exact ⟨A, c, pw_cell_below hB h1, pw_cell_below hB h2, h3, Kd.C_below h4 hB⟩
theorem AtT_kid {w : World} {A : Option Addr} {n : Nat} {xs : List S35} (h : Kd.C k35 w A n xs) (i : Int) (h0 : 0 ≤ i) (h1 : i < n) {x : S35} (hx : rd_T35 xs i = x) : ∃ ad, A = some ad ∧ AtT w (ad.add (i.toNat * 2)) x := by
  obtain ⟨ad, A1, c1, e, k0, k1, l1, l2⟩ := at_T35 h i h0 h1
  rw [hx] at k0 k1 l1 l2
  exact ⟨ad, e, A1, c1, k0, k1, l1, l2⟩
theorem AtT_box {w : World} {g : Nat} {A : Option Addr} {c : Nat} {t : S35} (hb : w.heap[g]? = some (.cells #[.int .i8 t.f0, .slice A t.f1.length c] 35 (0, 0))) (hx : IsT w (.agg #[.int .i8 t.f0, .slice A t.f1.length c]) t) : AtT w ⟨g, 0, none⟩ t := by
  obtain ⟨B, d, e, h1, h2⟩ := hx
  have e' : A = B ∧ c = d := by simpa using e
  obtain ⟨rfl, rfl⟩ := e'
  exact ⟨A, c, (blk_cell hb 0).trans rfl, (blk_cell hb 1).trans rfl, h1, h2⟩
def WholePost (t : S35) (w : World) (e : Ending) (w' : World) : Prop := ∃ v1, e = .returned (.agg #[.int .i8 t.f0, v1]) ∧ k35.R 35 w' w.heap.size (fun _ => True) v1 t.f1 ∧ Below w.heap.size w w'
def WholeIH (n : Nat) : Prop := ∀ (t : S35) (q : Addr) (w : World), nodes t < n → nodes t ≤ 32768 → AtT w q t → Calls Try.prog 52 #[.pointer (some q)] w (WholePost t w)
structure WhIn (w : World) (k : Int) (done : List S35) (v3 : Value) (wr : World) : Prop where
  b2 : wr.heap[w.heap.size]? = some (.cells #[.int .i8 0, .slice none 0 0] 35 (0, 0))
  b3 : wr.heap[w.heap.size + 1]? = some (.cells #[.int .i8 k, v3] 35 (0, 0))
  row : k35.R 35 wr w.heap.size (fun b => w.heap.size + 1 < b) v3 done
  below : Below w.heap.size w wr
theorem WhIn.after {w : World} {k : Int} {done : List S35} {v3 : Value} {wr w' : World} (h : WhIn w k done v3 wr) (hB : Below wr.heap.size wr w') : WhIn w k done v3 w' :=
  ⟨blk_below h.b2 hB, blk_below h.b3 hB, Kd.R_below h.row hB, below_then h.below h.below.size hB⟩
theorem WhIn.own {w : World} {k : Int} {done : List S35} {v3 : Value} {wr : World} (h : WhIn w k done v3 wr) : ∀ b, v3.ownBlock = some b → b < wr.heap.size ∧ w.heap.size + 1 < b := by
  intro b hb
  obtain ⟨inner, ho⟩ := Kd.R_own h.row
  exact ⟨own_lt ho b hb, h.row.1 b hb⟩
theorem WhIn.grown {w : World} {k : Int} {done : List S35} {v3 : Value} {wr w1 : World} (h : WhIn w k done v3 wr) (hg : wr.grownBy w1 v3.ownBlock) :
    w1.heap[w.heap.size]? = some (.cells #[.int .i8 0, .slice none 0 0] 35 (0, 0)) ∧ w1.heap[w.heap.size + 1]? = some (.cells #[.int .i8 k, v3] 35 (0, 0)) := by
  have hne : ∀ g, g ≤ w.heap.size + 1 → some g ≠ v3.ownBlock := fun g hg e => by
    have := h.own g e.symm
    omega
  exact ⟨blk_grown h.b2 hg (hne _ (by omega)), blk_grown h.b3 hg (hne _ (by omega))⟩
theorem WhIn.push {w : World} {k : Int} {done done' : List S35} {v3 v1 : Value} {wr w1 : World} (h : WhIn w k done v3 wr) (hg : wr.grownBy w1 v3.ownBlock) (hb : Below w.heap.size w w1)
    (hr : k35.R 35 w1 w.heap.size (fun b => w.heap.size + 1 < b) v1 done') : WhIn w k done' v1 (w1.setCell ⟨w.heap.size + 1, 1, none⟩ v1) := by
  obtain ⟨h2, h3⟩ := h.grown hg
  exact ⟨blk_far h2 (p := ⟨w.heap.size + 1, 1, none⟩) (by show _ ≠ w.heap.size + 1; omega) _, blk_put h3 1 v1 (by simp), Kd.R_far hr (p := ⟨w.heap.size + 1, 1, none⟩) (fun b hk => by show b ≠ w.heap.size + 1; omega) _, hb.setCell (p := ⟨w.heap.size + 1, 1, none⟩) (by show w.heap.size ≤ w.heap.size + 1; omega) _⟩
theorem copy_made {Wc W2 : World} {b0 : Nat} {v1 : Value} {x : S35} (hr : k35.R 35 W2 Wc.heap.size (fun _ => True) v1 x.f1) (hb : b0 ≤ Wc.heap.size) : k35.M W2 b0 (fun b => Wc.heap.size ≤ b) x [.int .i8 x.f0, v1] :=
  k35_mkM _ _ _ x (Kd.R_lower (Kd.R_mono (Kd.R_bound hr) (fun _ h => h.2.1)) hb)
theorem take_more (l : List S35) (j : Nat) (h : j < l.length) : l.take j ++ [rd_T35 l j] = l.take (j + 1) := by
  rw [List.take_succ_eq_append_getElem h]
  simp [rd_T35, List.getD_eq_getElem?_getD, h]
theorem length_le_nodesL' (l : List S35) : l.length ≤ nodesL l := by
  induction l with
  | nil => simp
  | cons x l ih => simp only [List.length_cons, nodesL]; have := nodes_eq x; omega
theorem nodes_rd_le' (l : List S35) (i : Nat) (h : i < l.length) : nodes (rd_T35 l i) ≤ nodesL l := by
  have h1 := nodesL_take l i h
  have h2 := nodesL_take_le l (i + 1)
  omega
set_option maxRecDepth 100000 in
set_option maxHeartbeats 1600000 in
theorem whole_node (n : Nat) (k : Int) (l : List S35) (A : Option Addr) (c : Nat) (q : Addr) (w : World) (IH : Aside0 (WholeIH n)) (HN : Aside0 (nodes ⟨k, l⟩ < n + 1)) (HM : Aside0 (nodes ⟨k, l⟩ ≤ 32768)) (hl : l.length ≤ 32768) (h0 : w.cell? q = some (.int .i8 k)) (h1 : w.cell? ⟨q.block, q.off + 1, none⟩ = some (.slice A l.length c)) (HR : Aside0 (Kd.C k35 w A l.length l)) (hc : l.length ≤ c) :
    Calls Try.prog 52 #[.pointer (some q)] w (WholePost ⟨k, l⟩ w) := by
  have H1 := Aside0.mk h1
  have hb0 : Below w.heap.size w (w.alloc (.cells #[.int .i8 0, .slice none 0 0] 35)) := (Below.refl _ _).alloc (Nat.le_refl _) _
  have hb1 : Below w.heap.size w ((w.alloc (.cells #[.int .i8 0, .slice none 0 0] 35)).alloc (.cells #[.int .i8 k, .slice none 0 0] 35)) := hb0.alloc (by simp) _
  have c0 := pw_cell_below hb0 h0
  have c1 := pw_cell_below hb1 h1
  have HI : Aside0 (WhIn w k [] (.slice none 0 0) ((w.alloc (.cells #[.int .i8 0, .slice none 0 0] 35)).alloc (.cells #[.int .i8 k, .slice none 0 0] 35))) := .mk ⟨blk_alloc (heap_alloc_new w _) _, by have := heap_alloc_new (w.alloc (.cells #[.int .i8 0, .slice none 0 0] 35)) (.cells #[.int .i8 k, .slice none 0 0] 35); simpa using this, Kd.R_nil _ _ _ _ _, hb1⟩
  clear hb0 hb1 h0 h1
  go_enter Try.func52, Try.ntmps52
  go_wp2_with fail
  clear c0 c1
  generalize (w.alloc (.cells #[.int .i8 0, .slice none 0 0] 35)).alloc (.cells #[.int .i8 k, .slice none 0 0] 35) = w0 at *
  go_loopw [15] (fun i wr => ∃ j : Nat, i = .int .i64 j ∧ j ≤ l.length ∧ ∃ v, WhIn w k (l.take j) v wr) (fun i _ => l.length - (intOf i).toNat)
  case atStart => exact ⟨0, rfl, Nat.zero_le _, _, by simpa using HI.out⟩
  case round =>
    obtain ⟨j, rfl, hj, v, hI⟩ := hrel
    clear HI
    have HI := Aside0.mk hI
    clear hI
    generalize wr = wc0 at *
    by_cases hlt : j < l.length
    · obtain ⟨ad, rfl, hkid⟩ := AtT_kid HR.out (j : Int) (by omega) (by omega) rfl
      have hnx := nodes_rd_le' l j hlt
      have hn0 := HN.out
      have hm0 := HM.out
      rw [nodes] at hn0 hm0
      generalize hel : rd_T35 l (j : Int) = x at *
      have HEL := Aside0.mk hel
      have TX0 := Aside0.mk hkid
      have OK := Aside0.mk (fun (w' : World) (hb : Below w.heap.size w w') => (pw_cell_below hb H1.out : w'.cell? ⟨q.block, q.off + 1, none⟩ = some (.slice (some ad) l.length c)))
      clear hkid hel
      go_wp2_with fail
      refine wp_region_held_drew (S := fun w' => w'.cell? ⟨q.block, q.off + 1, none⟩ = some (.slice (some ad) l.length c)) (by kernel_rfl) (OK.out _ (HI.out.after (Below.refl _ _).drew).below) (fun hHeld => ?_)
      replace HI := Aside0.mk (HI.out.after (Below.refl _ _).drew)
      have TX := Aside0.mk (TX0.out.below HI.out.below)
      have HX := Aside0.mk HI.out.b3
      have HG3 := Aside0.mk (blk_lt HI.out.b3)
      have HV : Aside0 (∀ b, v.ownBlock = some b → b < wc0.drew.heap.size) := .mk fun b hb => (HI.out.own b hb).1
      have HBS := Aside0.mk HI.out.below.size
      generalize wc0.drew = wc0 at *
      refine takeA 18 0 (v := ?_) ?_ hHeld ?_
      rotate_left
      · intro w hSw
        try dsimp only at hSw
        go_simp <;> with_reducible rfl
      try simp only [Act.put, List.setIfInBounds_toArray, List.set_cons_zero, List.set_cons_succ]
      refine takeA 20 2 (v := ?_) ?_ hHeld ?_
      rotate_left
      · intro w hSw
        try dsimp only at hSw
        go_simp <;> with_reducible rfl
      try simp only [Act.put, List.setIfInBounds_toArray, List.set_cons_zero, List.set_cons_succ]
      refine takeA 21 3 (v := ?_) ?_ hHeld ?_
      rotate_left
      · intro w hSw
        try dsimp only at hSw
        go_simp <;> with_reducible rfl
      try simp only [Act.put, List.setIfInBounds_toArray, List.set_cons_zero, List.set_cons_succ]
      refine takeA 22 4 (v := ?_) ?_ hHeld ?_
      rotate_left
      · intro w hSw
        try dsimp only at hSw
        go_simp <;> with_reducible rfl
      try simp only [Act.put, List.setIfInBounds_toArray, List.set_cons_zero, List.set_cons_succ]
      refine takeA 23 5 (v := ?_) ?_ hHeld ?_
      rotate_left
      · intro w hSw
        try dsimp only at hSw
        go_simp <;> with_reducible rfl
      try simp only [Act.put, List.setIfInBounds_toArray, List.set_cons_zero, List.set_cons_succ]
      refine takeA 24 6 (v := ?_) ?_ hHeld ?_
      rotate_left
      · intro w hSw
        try dsimp only at hSw
        go_simp <;> with_reducible rfl
      try simp only [Act.put, List.setIfInBounds_toArray, List.set_cons_zero, List.set_cons_succ]
      refine takeA 25 7 (v := ?_) ?_ hHeld ?_
      rotate_left
      · intro w hSw
        try dsimp only at hSw
        go_simp <;> with_reducible rfl
      try simp only [Act.put, List.setIfInBounds_toArray, List.set_cons_zero, List.set_cons_succ]
      refine wpAnyH_ready (rs := [1, 8]) (by kernel_rfl) (by simp) ?_
      refine AllReadyH.cons rfl (fun K hK => ?_) (AllReadyH.cons rfl (fun K hK => ?_) AllReadyH.nil)
      · have e3 := (blk_cell HX.out 1).trans rfl
        simp at e3
        go_simp
        clear e3
        refine hK.out _ _ (hHeld) (fun hHeld => ?_)
        clear hK K
        try simp only [Act.put, List.setIfInBounds_toArray, List.set_cons_zero, List.set_cons_succ]
        clear HX
        refine wpAnyH_ready (rs := [8]) (by kernel_rfl) (by simp) ?_
        refine AllReadyH.cons rfl (fun K hK => ?_) AllReadyH.nil
        refine callK (by rfl) (by kernel_rfl) (IH.out x _ _ (by omega) (by omega) TX.out) ?_
        rintro e w2 ⟨v1, rfl, hR, hB⟩
        have RX := Aside0.mk hR
        replace HI := Aside0.mk (HI.out.after hB)
        have HX := Aside0.mk HI.out.b3
        have HSZ := Aside0.mk hB.size
        refine ⟨_, rfl, ?_⟩
        refine hK.out _ _ (OK.out _ HI.out.below) (fun hHeld => ?_)
        clear hK K
        try simp only [Act.put, List.setIfInBounds_toArray, List.set_cons_zero, List.set_cons_succ]
        clear hR hB
        refine wpAnyH_ready (rs := [9]) (by kernel_rfl) (by simp) ?_
        refine AllReadyH.cons rfl (fun K hK => ?_) AllReadyH.nil
        go_simp
        replace HX := Aside0.mk (blk_alloc HX.out (.cells #[.int .i8 x.f0, v1] 35))
        refine hK.out _ _ (OK.out _ (HI.out.below.alloc HI.out.below.size (.cells #[.int .i8 x.f0, v1] 35))) (fun hHeld => ?_)
        clear hK K
        try simp only [Act.put, List.setIfInBounds_toArray, List.set_cons_zero, List.set_cons_succ]
        refine wpAnyH_ready (rs := [10]) (by kernel_rfl) (by simp) ?_
        refine AllReadyH.cons rfl (fun K hK => ?_) AllReadyH.nil
        have qo := HI.out.own
        have qz := HSZ.out
        have qg := HG3.out
        refine Kd.R_append_step k35 w.heap.size (by rfl) (.tmp 19) (.tmp 27) 33 35 (.agg #[.int .i8 0, .slice none 0 0]) 32 rfl Try.underlying33 info35 rfl (by decide) (by decide) v (l.take j) x [.int .i8 x.f0, v1] (fun b => w.heap.size + 1 < b) (fun b => wc0.heap.size ≤ b) (by rfl) (by rfl) (copy_made RX.out HBS.out) (fun b hb => ⟨by omega, fun e => by have := HV.out b e.symm; omega⟩) (fun b hb => by omega) HI.out.row HI.out.below HI.out.below.size (by have := List.length_take_le j l; omega) ?_
        intro v4 w1 hr4 hb4 hg4 hat4
        obtain ⟨A4, c4, e4⟩ := Kd.R_slice hr4
        obtain ⟨n4, hn4⟩ : ∃ n, n = (l.take j ++ [x]).length := ⟨_, rfl⟩
        rw [← hn4] at e4
        subst e4
        clear hn4
        have hI := HI.out.push hg4 hb4 hr4
        have hG := HI.out.grown hg4
        have e30 := (blk_cell hG.2 0).trans rfl
        have e31 := (blk_cell hG.2 1).trans rfl
        have z31 := blk_frozen hG.2 1
        simp at e30 e31
        clear qo qz qg
        refine hK.out _ _ (OK.out _ hb4) (fun hHeld => ?_)
        clear hK K
        try simp only [Act.put, List.setIfInBounds_toArray, List.set_cons_zero, List.set_cons_succ]
        refine takeA 29 11 (v := ?_) ?_ hHeld ?_
        rotate_left
        · intro w hSw
          try dsimp only at hSw
          go_simp <;> with_reducible rfl
        try simp only [Act.put, List.setIfInBounds_toArray, List.set_cons_zero, List.set_cons_succ]
        refine wpAnyH_ready (rs := [12]) (by kernel_rfl) (by simp) ?_
        refine AllReadyH.cons rfl (fun K hK => ?_) AllReadyH.nil
        have HJ := Aside0.mk hI
        clear hr4 hb4 hg4 hat4 hI hG
        go_simp
        clear e30 e31 z31
        refine hK.out _ _ (OK.out _ HJ.out.below) (fun hHeld => ?_)
        clear hK K
        try simp only [Act.put, List.setIfInBounds_toArray, List.set_cons_zero, List.set_cons_succ]
        refine wpAnyH_done (by kernel_rfl) ?_ _
        go_wp2_with fail
        go_roundw
        case rel => exact ⟨j + 1, by go_num, by omega, _, (take_more l j hlt) ▸ HEL.out ▸ HJ.out⟩
        case measure => simp [intOf]; omega
      · clear HX
        refine callK (by rfl) (by kernel_rfl) (IH.out x _ _ (by omega) (by omega) TX.out) ?_
        rintro e w2 ⟨v1, rfl, hR, hB⟩
        have RX := Aside0.mk hR
        replace HI := Aside0.mk (HI.out.after hB)
        have HX := Aside0.mk HI.out.b3
        have HSZ := Aside0.mk hB.size
        refine ⟨_, rfl, ?_⟩
        refine hK.out _ _ (OK.out _ HI.out.below) (fun hHeld => ?_)
        clear hK K
        try simp only [Act.put, List.setIfInBounds_toArray, List.set_cons_zero, List.set_cons_succ]
        clear hR hB
        refine wpAnyH_ready (rs := [1, 9]) (by kernel_rfl) (by simp) ?_
        refine AllReadyH.cons rfl (fun K hK => ?_) (AllReadyH.cons rfl (fun K hK => ?_) AllReadyH.nil)
        · have e3 := (blk_cell HX.out 1).trans rfl
          simp at e3
          go_simp
          clear e3
          refine hK.out _ _ (hHeld) (fun hHeld => ?_)
          clear hK K
          try simp only [Act.put, List.setIfInBounds_toArray, List.set_cons_zero, List.set_cons_succ]
          refine wpAnyH_ready (rs := [9]) (by kernel_rfl) (by simp) ?_
          refine AllReadyH.cons rfl (fun K hK => ?_) AllReadyH.nil
          go_simp
          replace HX := Aside0.mk (blk_alloc HX.out (.cells #[.int .i8 x.f0, v1] 35))
          refine hK.out _ _ (OK.out _ (HI.out.below.alloc HI.out.below.size (.cells #[.int .i8 x.f0, v1] 35))) (fun hHeld => ?_)
          clear hK K
          try simp only [Act.put, List.setIfInBounds_toArray, List.set_cons_zero, List.set_cons_succ]
          refine wpAnyH_ready (rs := [10]) (by kernel_rfl) (by simp) ?_
          refine AllReadyH.cons rfl (fun K hK => ?_) AllReadyH.nil
          have qo := HI.out.own
          have qz := HSZ.out
          have qg := HG3.out
          refine Kd.R_append_step k35 w.heap.size (by rfl) (.tmp 19) (.tmp 27) 33 35 (.agg #[.int .i8 0, .slice none 0 0]) 32 rfl Try.underlying33 info35 rfl (by decide) (by decide) v (l.take j) x [.int .i8 x.f0, v1] (fun b => w.heap.size + 1 < b) (fun b => wc0.heap.size ≤ b) (by rfl) (by rfl) (copy_made RX.out HBS.out) (fun b hb => ⟨by omega, fun e => by have := HV.out b e.symm; omega⟩) (fun b hb => by omega) HI.out.row HI.out.below HI.out.below.size (by have := List.length_take_le j l; omega) ?_
          intro v4 w1 hr4 hb4 hg4 hat4
          obtain ⟨A4, c4, e4⟩ := Kd.R_slice hr4
          obtain ⟨n4, hn4⟩ : ∃ n, n = (l.take j ++ [x]).length := ⟨_, rfl⟩
          rw [← hn4] at e4
          subst e4
          clear hn4
          have hI := HI.out.push hg4 hb4 hr4
          have hG := HI.out.grown hg4
          have e30 := (blk_cell hG.2 0).trans rfl
          have e31 := (blk_cell hG.2 1).trans rfl
          have z31 := blk_frozen hG.2 1
          simp at e30 e31
          clear qo qz qg
          refine hK.out _ _ (OK.out _ hb4) (fun hHeld => ?_)
          clear hK K
          try simp only [Act.put, List.setIfInBounds_toArray, List.set_cons_zero, List.set_cons_succ]
          refine takeA 29 11 (v := ?_) ?_ hHeld ?_
          rotate_left
          · intro w hSw
            try dsimp only at hSw
            go_simp <;> with_reducible rfl
          try simp only [Act.put, List.setIfInBounds_toArray, List.set_cons_zero, List.set_cons_succ]
          refine wpAnyH_ready (rs := [12]) (by kernel_rfl) (by simp) ?_
          refine AllReadyH.cons rfl (fun K hK => ?_) AllReadyH.nil
          have HJ := Aside0.mk hI
          clear hr4 hb4 hg4 hat4 hI hG
          go_simp
          clear e30 e31 z31
          refine hK.out _ _ (OK.out _ HJ.out.below) (fun hHeld => ?_)
          clear hK K
          try simp only [Act.put, List.setIfInBounds_toArray, List.set_cons_zero, List.set_cons_succ]
          refine wpAnyH_done (by kernel_rfl) ?_ _
          go_wp2_with fail
          go_roundw
          case rel => exact ⟨j + 1, by go_num, by omega, _, (take_more l j hlt) ▸ HEL.out ▸ HJ.out⟩
          case measure => simp [intOf]; omega
        · go_simp
          replace HX := Aside0.mk (blk_alloc HX.out (.cells #[.int .i8 x.f0, v1] 35))
          refine hK.out _ _ (OK.out _ (HI.out.below.alloc HI.out.below.size (.cells #[.int .i8 x.f0, v1] 35))) (fun hHeld => ?_)
          clear hK K
          try simp only [Act.put, List.setIfInBounds_toArray, List.set_cons_zero, List.set_cons_succ]
          refine wpAnyH_ready (rs := [1]) (by kernel_rfl) (by simp) ?_
          refine AllReadyH.cons rfl (fun K hK => ?_) AllReadyH.nil
          have e3 := (blk_cell HX.out 1).trans rfl
          simp at e3
          go_simp
          clear e3
          refine hK.out _ _ (hHeld) (fun hHeld => ?_)
          clear hK K
          try simp only [Act.put, List.setIfInBounds_toArray, List.set_cons_zero, List.set_cons_succ]
          refine wpAnyH_ready (rs := [10]) (by kernel_rfl) (by simp) ?_
          refine AllReadyH.cons rfl (fun K hK => ?_) AllReadyH.nil
          have qo := HI.out.own
          have qz := HSZ.out
          have qg := HG3.out
          refine Kd.R_append_step k35 w.heap.size (by rfl) (.tmp 19) (.tmp 27) 33 35 (.agg #[.int .i8 0, .slice none 0 0]) 32 rfl Try.underlying33 info35 rfl (by decide) (by decide) v (l.take j) x [.int .i8 x.f0, v1] (fun b => w.heap.size + 1 < b) (fun b => wc0.heap.size ≤ b) (by rfl) (by rfl) (copy_made RX.out HBS.out) (fun b hb => ⟨by omega, fun e => by have := HV.out b e.symm; omega⟩) (fun b hb => by omega) HI.out.row HI.out.below HI.out.below.size (by have := List.length_take_le j l; omega) ?_
          intro v4 w1 hr4 hb4 hg4 hat4
          obtain ⟨A4, c4, e4⟩ := Kd.R_slice hr4
          obtain ⟨n4, hn4⟩ : ∃ n, n = (l.take j ++ [x]).length := ⟨_, rfl⟩
          rw [← hn4] at e4
          subst e4
          clear hn4
          have hI := HI.out.push hg4 hb4 hr4
          have hG := HI.out.grown hg4
          have e30 := (blk_cell hG.2 0).trans rfl
          have e31 := (blk_cell hG.2 1).trans rfl
          have z31 := blk_frozen hG.2 1
          simp at e30 e31
          clear qo qz qg
          refine hK.out _ _ (OK.out _ hb4) (fun hHeld => ?_)
          clear hK K
          try simp only [Act.put, List.setIfInBounds_toArray, List.set_cons_zero, List.set_cons_succ]
          refine takeA 29 11 (v := ?_) ?_ hHeld ?_
          rotate_left
          · intro w hSw
            try dsimp only at hSw
            go_simp <;> with_reducible rfl
          try simp only [Act.put, List.setIfInBounds_toArray, List.set_cons_zero, List.set_cons_succ]
          refine wpAnyH_ready (rs := [12]) (by kernel_rfl) (by simp) ?_
          refine AllReadyH.cons rfl (fun K hK => ?_) AllReadyH.nil
          have HJ := Aside0.mk hI
          clear hr4 hb4 hg4 hat4 hI hG
          go_simp
          clear e30 e31 z31
          refine hK.out _ _ (OK.out _ HJ.out.below) (fun hHeld => ?_)
          clear hK K
          try simp only [Act.put, List.setIfInBounds_toArray, List.set_cons_zero, List.set_cons_succ]
          refine wpAnyH_done (by kernel_rfl) ?_ _
          go_wp2_with fail
          go_roundw
          case rel => exact ⟨j + 1, by go_num, by omega, _, (take_more l j hlt) ▸ HEL.out ▸ HJ.out⟩
          case measure => simp [intOf]; omega
    · obtain rfl : j = l.length := by omega
      obtain ⟨A4, c4, e4⟩ := Kd.R_slice HI.out.row
      obtain ⟨n4, hn4⟩ : ∃ n, n = (l.take l.length).length := ⟨_, rfl⟩
      rw [← hn4] at e4
      subst e4
      clear hn4
      have e30 := (blk_cell HI.out.b3 0).trans rfl
      have e31 := (blk_cell HI.out.b3 1).trans rfl
      have e20 := (blk_cell HI.out.b2 0).trans rfl
      have e21 := (blk_cell HI.out.b2 1).trans rfl
      have z20 := blk_frozen HI.out.b2 0
      have z21 := blk_frozen HI.out.b2 1
      simp at e30 e31 e20 e21
      go_wp2_with fail
      have k9 := put_two HI.out.b2 (.int .i8 k) (.slice A4 n4 c4)
      have hr9 : k35.R 35 ((wc0.setCell ⟨w.heap.size, 0, none⟩ (.int .i8 k)).setCell ⟨w.heap.size, 1, none⟩ (.slice A4 n4 c4)) w.heap.size (fun _ => True) (.slice A4 n4 c4) l := by
        have h0 := HI.out.row
        rw [List.take_length] at h0
        exact Kd.R_mono (Kd.R_far (Kd.R_far h0 (p := ⟨w.heap.size, 0, none⟩) (fun b hk => by show b ≠ w.heap.size; omega) (.int .i8 k)) (p := ⟨w.heap.size, 1, none⟩) (fun b hk => by show b ≠ w.heap.size; omega) (.slice A4 n4 c4)) (fun _ _ => trivial)
      have hb9 := (HI.out.below.setCell (p := ⟨w.heap.size, 0, none⟩) (Nat.le_refl _) (.int .i8 k)).setCell (p := ⟨w.heap.size, 1, none⟩) (Nat.le_refl _) (.slice A4 n4 c4)
      have e1' := blk_cell k9 0
      have e2' := blk_cell k9 1
      simp at e1' e2'
      refine bodyPost_ret (v := .agg #[.int .i8 k, .slice A4 n4 c4]) (by simp [results, Try.results52, go_sem, e1', e2']) rfl ⟨_, rfl, hr9, hb9⟩
theorem whole_all (n : Nat) : WholeIH n := by
  induction n with
  | zero => intro t q w h; omega
  | succ n ih =>
    intro t q w hn hm hT
    obtain ⟨k, l⟩ := t
    obtain ⟨A, c, h0, h1, hlc, hC⟩ := hT
    have := length_le_nodesL' l
    rw [nodes] at hm
    exact whole_node n k l A c q w (.mk ih) (.mk hn) (.mk (by rw [nodes]; exact hm)) (by omega) h0 h1 (.mk hC) hlc
theorem whole_calls {t : S35} {q : Addr} {w : World} (h : AtT w q t) (hs : nodes t ≤ 32768) : Calls Try.prog 52 #[.pointer (some q)] w fun e w' => ∃ v', e = .returned v' ∧ IsT w' v' t ∧ Below w.heap.size w w' := by
  refine (whole_all (nodes t + 1) t q w (by omega) hs h).mono ?_
  rintro e w' ⟨v1, rfl, hR, hB⟩
  obtain ⟨A, c, rfl, h1, h2⟩ := Kd.R_reads hR
  exact ⟨_, rfl, ⟨A, c, rfl, h1, h2⟩, hB⟩
end Go.Proofs.Ytjmpejbciniceaa.X
namespace Go.Proofs.Ytjmpejbciniceaa.X
open Go.RowKit Go.Proofs.YtjmpejbciniceaaW.PrintWords Go.Proofs.YtjmpejbciniceaaW.PrintLast Go.Proofs.YtjmpejbciniceaaW.PrintMore
set_option linter.unusedVariables false
set_option linter.unusedSimpArgs false
def CheckQ (r : Int) (o : Option (S35 × S35)) (w : World) (e : Ending) (w' : World) : Prop := ∃ (ka : Int) (Pa : Option Addr) (na ca : Nat) (kb : Int) (Pb : Option Addr) (nb cb : Nat), e = .returned (.tuple #[.agg #[.int .i8 ka, .slice Pa na ca], .agg #[.int .i8 kb, .slice Pb nb cb], .int .i64 r]) ∧
  (r = 0 → ∀ ta tb, o = some (ta, tb) → IsT w' (.agg #[.int .i8 ka, .slice Pa na ca]) ta ∧ IsT w' (.agg #[.int .i8 kb, .slice Pb nb cb]) tb) ∧ Below w.heap.size w w'
set_option maxRecDepth 100000 in
set_option maxHeartbeats 3200000 in
theorem cocheck_n {x : S47} {v : Value} {w : World} (hx : IsC w v x) {o : Option (S35 × S35)} (hn : Aside0 (decide (cnodes x ≤ 8192) = false)) : Calls Try.prog 28 #[v] w (CheckQ 32 o w) := by
  have HX := Aside0.mk hx
  obtain ⟨A2, c2, A4, c4, A7, c7, rfl, hl2, hC2, hl4, hC4, -, -⟩ := hx
  have HT := Aside0.mk (IsT.mk (k := x.f1.f0) hl2 hC2)
  have HU := Aside0.mk (IsT.mk (k := x.f2.f0) hl4 hC4)
  rw [S35.eta] at HT HU
  clear hl2 hC2 hl4 hC4
  obtain ⟨k0, k1, k2, hB⟩ := three w (.cells #[.int .i8 x.f0, .int .i8 x.f1.f0, .slice A2 x.f1.f1.length c2, .int .i8 x.f2.f0, .slice A4 x.f2.f1.length c4, .int .i64 x.f3, .bool x.f4, .slice A7 x.f5.length c7] 47) (.cells #[.int .i8 0, .slice none 0 0] 35) (.cells #[.int .i8 0, .slice none 0 0] 35)
  have K0 := Aside0.mk k0
  have K1 := Aside0.mk k1
  have K2 := Aside0.mk k2
  replace HX := Aside0.mk (HX.out.below hB)
  replace HT := Aside0.mk (HT.out.below hB)
  replace HU := Aside0.mk (HU.out.below hB)
  have HW := Aside0.mk hB
  clear hB k0 k1 k2
  clear HT HU
  go_enter Try.func28, Try.ntmps28
  go_wp2_with fail
  generalize ((w.alloc (.cells #[.int .i8 x.f0, .int .i8 x.f1.f0, .slice A2 x.f1.f1.length c2, .int .i8 x.f2.f0, .slice A4 x.f2.f1.length c4, .int .i64 x.f3, .bool x.f4, .slice A7 x.f5.length c7] 47)).alloc (.cells #[.int .i8 0, .slice none 0 0] 35)).alloc (.cells #[.int .i8 0, .slice none 0 0] 35) = w0 at *
  have HY := Aside0.mk (Below.refl w0.heap.size w0)
  refine (counted_calls (AtC_box K0.out HX.out)).mono ?_
  rintro e w1 ⟨rfl, hB⟩
  rw [hn.out]
  replace K0 := Aside0.mk (blk_below K0.out hB)
  replace K1 := Aside0.mk (blk_below K1.out hB)
  replace K2 := Aside0.mk (blk_below K2.out hB)
  replace HX := Aside0.mk (HX.out.below hB)
  replace HW := Aside0.mk (below_then HW.out HW.out.size hB)
  clear hB
  go_wp2_with fail
  refine wp_region_held_drew (S := fun w' => w'.cell? ⟨w.heap.size + 1, 0, none⟩ = some (.int .i8 0) ∧ w'.cell? ⟨w.heap.size + 1, 1, none⟩ = some (.slice none 0 0) ∧ w'.cell? ⟨w.heap.size + 2, 0, none⟩ = some (.int .i8 0) ∧ w'.cell? ⟨w.heap.size + 2, 1, none⟩ = some (.slice none 0 0)) (by kernel_rfl) ⟨bcl K1.out, bcl K1.out, bcl K2.out, bcl K2.out⟩ (fun hHeld => ?_)
  have HZ := Aside0.mk ((Below.refl w1.heap.size w1).drew)
  replace HW := Aside0.mk (below_then HW.out HW.out.size HZ.out)
  generalize w1.drew = w9a at *
  refine tK 13 0 hHeld ?_
  refine tK 14 1 hHeld ?_
  replace K1 := Aside0.mk (blk_below K1.out HZ.out)
  replace K2 := Aside0.mk (blk_below K2.out HZ.out)
  clear HZ
  refine sK 2 K1.out ⟨bcl (kOwn rfl K1.out), bcl (kOwn rfl K1.out), far2 hHeld.2.2.1 (by omega), far2 hHeld.2.2.2 (by omega)⟩ fun w9b hHeld hp => ?_
  replace K2 := Aside0.mk (kFar hp K2.out (by omega))
  replace K1 := Aside0.mk (kOwn hp K1.out)
  replace HW := Aside0.mk (bFar hp HW.out (by omega))
  clear hp
  refine sK 3 K2.out ⟨far2 hHeld.1 (by omega), far2 hHeld.2.1 (by omega), bcl (kOwn rfl K2.out), bcl (kOwn rfl K2.out)⟩ fun w9c hHeld hp => ?_
  replace K1 := Aside0.mk (kFar hp K1.out (by omega))
  replace K2 := Aside0.mk (kOwn hp K2.out)
  replace HW := Aside0.mk (bFar hp HW.out (by omega))
  clear hp
  refine tK 4 4 hHeld ?_
  refine wpAnyH_done (by kernel_rfl) ?_ _
  go_wp2_with fail
  exact retK K1.out K2.out ⟨_, _, _, _, _, _, _, _, rfl, fun h => absurd h (by decide), HW.out⟩
set_option maxRecDepth 100000 in
set_option maxHeartbeats 3200000 in
theorem cocheck_d {x : S47} {v : Value} {w : World} (hx : IsC w v x) {o : Option (S35 × S35)} (hn : Aside0 (decide (cnodes x ≤ 8192) = true)) (hd : Aside0 (200 < cdepth x)) : Calls Try.prog 28 #[v] w (CheckQ 31 o w) := by
  have HX := Aside0.mk hx
  obtain ⟨A2, c2, A4, c4, A7, c7, rfl, hl2, hC2, hl4, hC4, -, -⟩ := hx
  have HT := Aside0.mk (IsT.mk (k := x.f1.f0) hl2 hC2)
  have HU := Aside0.mk (IsT.mk (k := x.f2.f0) hl4 hC4)
  rw [S35.eta] at HT HU
  clear hl2 hC2 hl4 hC4
  obtain ⟨k0, k1, k2, hB⟩ := three w (.cells #[.int .i8 x.f0, .int .i8 x.f1.f0, .slice A2 x.f1.f1.length c2, .int .i8 x.f2.f0, .slice A4 x.f2.f1.length c4, .int .i64 x.f3, .bool x.f4, .slice A7 x.f5.length c7] 47) (.cells #[.int .i8 0, .slice none 0 0] 35) (.cells #[.int .i8 0, .slice none 0 0] 35)
  have K0 := Aside0.mk k0
  have K1 := Aside0.mk k1
  have K2 := Aside0.mk k2
  replace HX := Aside0.mk (HX.out.below hB)
  replace HT := Aside0.mk (HT.out.below hB)
  replace HU := Aside0.mk (HU.out.below hB)
  have HW := Aside0.mk hB
  clear hB k0 k1 k2
  clear HT HU
  go_enter Try.func28, Try.ntmps28
  go_wp2_with fail
  generalize ((w.alloc (.cells #[.int .i8 x.f0, .int .i8 x.f1.f0, .slice A2 x.f1.f1.length c2, .int .i8 x.f2.f0, .slice A4 x.f2.f1.length c4, .int .i64 x.f3, .bool x.f4, .slice A7 x.f5.length c7] 47)).alloc (.cells #[.int .i8 0, .slice none 0 0] 35)).alloc (.cells #[.int .i8 0, .slice none 0 0] 35) = w0 at *
  have HY := Aside0.mk (Below.refl w0.heap.size w0)
  refine (counted_calls (AtC_box K0.out HX.out)).mono ?_
  rintro e w1 ⟨rfl, hB⟩
  rw [hn.out]
  replace K0 := Aside0.mk (blk_below K0.out hB)
  replace K1 := Aside0.mk (blk_below K1.out hB)
  replace K2 := Aside0.mk (blk_below K2.out hB)
  replace HX := Aside0.mk (HX.out.below hB)
  replace HW := Aside0.mk (below_then HW.out HW.out.size hB)
  clear hB
  go_wp2_with fail
  refine (deep_calls (AtC_box K0.out HX.out) (of_decide_eq_true hn.out)).mono ?_
  rintro e w2 ⟨rfl, hB⟩
  replace K0 := Aside0.mk (blk_below K0.out hB)
  replace K1 := Aside0.mk (blk_below K1.out hB)
  replace K2 := Aside0.mk (blk_below K2.out hB)
  replace HX := Aside0.mk (HX.out.below hB)
  replace HW := Aside0.mk (below_then HW.out HW.out.size hB)
  clear hB
  have hgt : decide ((200 : Int) < min (cdepth x : Int) 201) = true := decide_eq_true (by have := hd.out; omega)
  go_wp2_with fail
  refine wp_region_held_drew (S := fun w' => w'.cell? ⟨w.heap.size + 1, 0, none⟩ = some (.int .i8 0) ∧ w'.cell? ⟨w.heap.size + 1, 1, none⟩ = some (.slice none 0 0) ∧ w'.cell? ⟨w.heap.size + 2, 0, none⟩ = some (.int .i8 0) ∧ w'.cell? ⟨w.heap.size + 2, 1, none⟩ = some (.slice none 0 0)) (by kernel_rfl) ⟨bcl K1.out, bcl K1.out, bcl K2.out, bcl K2.out⟩ (fun hHeld => ?_)
  have HZ := Aside0.mk ((Below.refl w2.heap.size w2).drew)
  replace HW := Aside0.mk (below_then HW.out HW.out.size HZ.out)
  generalize w2.drew = w9a at *
  refine tK 17 0 hHeld ?_
  refine tK 18 1 hHeld ?_
  replace K1 := Aside0.mk (blk_below K1.out HZ.out)
  replace K2 := Aside0.mk (blk_below K2.out HZ.out)
  clear HZ
  refine sK 2 K1.out ⟨bcl (kOwn rfl K1.out), bcl (kOwn rfl K1.out), far2 hHeld.2.2.1 (by omega), far2 hHeld.2.2.2 (by omega)⟩ fun w9b hHeld hp => ?_
  replace K2 := Aside0.mk (kFar hp K2.out (by omega))
  replace K1 := Aside0.mk (kOwn hp K1.out)
  replace HW := Aside0.mk (bFar hp HW.out (by omega))
  clear hp
  refine sK 3 K2.out ⟨far2 hHeld.1 (by omega), far2 hHeld.2.1 (by omega), bcl (kOwn rfl K2.out), bcl (kOwn rfl K2.out)⟩ fun w9c hHeld hp => ?_
  replace K1 := Aside0.mk (kFar hp K1.out (by omega))
  replace K2 := Aside0.mk (kOwn hp K2.out)
  replace HW := Aside0.mk (bFar hp HW.out (by omega))
  clear hp
  refine tK 4 4 hHeld ?_
  refine wpAnyH_done (by kernel_rfl) ?_ _
  go_wp2_with fail
  exact retK K1.out K2.out ⟨_, _, _, _, _, _, _, _, rfl, fun h => absurd h (by decide), HW.out⟩
set_option maxRecDepth 100000 in
set_option maxHeartbeats 3200000 in
theorem cocheck_e {x : S47} {v : Value} {w : World} (hx : IsC w v x) (hn : Aside0 (decide (cnodes x ≤ 8192) = true)) (hd : Aside0 (¬ 200 < cdepth x)) (hs : Aside0 (endsC x = none)) : Calls Try.prog 28 #[v] w (CheckQ 150 none w) := by
  have HX := Aside0.mk hx
  obtain ⟨A2, c2, A4, c4, A7, c7, rfl, hl2, hC2, hl4, hC4, -, -⟩ := hx
  have HT := Aside0.mk (IsT.mk (k := x.f1.f0) hl2 hC2)
  have HU := Aside0.mk (IsT.mk (k := x.f2.f0) hl4 hC4)
  rw [S35.eta] at HT HU
  clear hl2 hC2 hl4 hC4
  obtain ⟨k0, k1, k2, hB⟩ := three w (.cells #[.int .i8 x.f0, .int .i8 x.f1.f0, .slice A2 x.f1.f1.length c2, .int .i8 x.f2.f0, .slice A4 x.f2.f1.length c4, .int .i64 x.f3, .bool x.f4, .slice A7 x.f5.length c7] 47) (.cells #[.int .i8 0, .slice none 0 0] 35) (.cells #[.int .i8 0, .slice none 0 0] 35)
  have K0 := Aside0.mk k0
  have K1 := Aside0.mk k1
  have K2 := Aside0.mk k2
  replace HX := Aside0.mk (HX.out.below hB)
  replace HT := Aside0.mk (HT.out.below hB)
  replace HU := Aside0.mk (HU.out.below hB)
  have HW := Aside0.mk hB
  clear hB k0 k1 k2
  clear HT HU
  go_enter Try.func28, Try.ntmps28
  go_wp2_with fail
  generalize ((w.alloc (.cells #[.int .i8 x.f0, .int .i8 x.f1.f0, .slice A2 x.f1.f1.length c2, .int .i8 x.f2.f0, .slice A4 x.f2.f1.length c4, .int .i64 x.f3, .bool x.f4, .slice A7 x.f5.length c7] 47)).alloc (.cells #[.int .i8 0, .slice none 0 0] 35)).alloc (.cells #[.int .i8 0, .slice none 0 0] 35) = w0 at *
  have HY := Aside0.mk (Below.refl w0.heap.size w0)
  refine (counted_calls (AtC_box K0.out HX.out)).mono ?_
  rintro e w1 ⟨rfl, hB⟩
  rw [hn.out]
  replace K0 := Aside0.mk (blk_below K0.out hB)
  replace K1 := Aside0.mk (blk_below K1.out hB)
  replace K2 := Aside0.mk (blk_below K2.out hB)
  replace HX := Aside0.mk (HX.out.below hB)
  replace HW := Aside0.mk (below_then HW.out HW.out.size hB)
  clear hB
  go_wp2_with fail
  refine (deep_calls (AtC_box K0.out HX.out) (of_decide_eq_true hn.out)).mono ?_
  rintro e w2 ⟨rfl, hB⟩
  replace K0 := Aside0.mk (blk_below K0.out hB)
  replace K1 := Aside0.mk (blk_below K1.out hB)
  replace K2 := Aside0.mk (blk_below K2.out hB)
  replace HX := Aside0.mk (HX.out.below hB)
  replace HW := Aside0.mk (below_then HW.out HW.out.size hB)
  clear hB
  have hgt : decide ((200 : Int) < min (cdepth x : Int) 201) = false := decide_eq_false (by have := hd.out; omega)
  go_wp2_with fail
  refine (coends_calls (AtC_box K0.out HX.out)).mono ?_
  rintro e w3 ⟨ka, Pa, na, ma, kb, Pb, nb, mb, rfl, him, hB⟩
  rw [hs.out] at him ⊢
  have HIM := Aside0.mk him
  clear him
  replace K0 := Aside0.mk (blk_below K0.out hB)
  replace K1 := Aside0.mk (blk_below K1.out hB)
  replace K2 := Aside0.mk (blk_below K2.out hB)
  replace HX := Aside0.mk (HX.out.below hB)
  replace HW := Aside0.mk (below_then HW.out HW.out.size hB)
  clear hB
  have hn3 := blk_lt K2.out
  have hB : Below w3.heap.size w3 ((w3.alloc (.cells #[.int .i8 ka, .slice Pa na ma] 35)).alloc (.cells #[.int .i8 kb, .slice Pb nb mb] 35)) := ((Below.refl _ _).alloc (Nat.le_refl _) _).alloc (by simp) _
  have KA := Aside0.mk (blk_alloc (heap_alloc_new w3 (.cells #[.int .i8 ka, .slice Pa na ma] 35)) (.cells #[.int .i8 kb, .slice Pb nb mb] 35))
  have KB : Aside0 (((w3.alloc (.cells #[.int .i8 ka, .slice Pa na ma] 35)).alloc (.cells #[.int .i8 kb, .slice Pb nb mb] 35)).heap[w3.heap.size + 1]? = some (.cells #[.int .i8 kb, .slice Pb nb mb] 35 (0, 0))) := .mk (by have := heap_alloc_new (w3.alloc (.cells #[.int .i8 ka, .slice Pa na ma] 35)) (.cells #[.int .i8 kb, .slice Pb nb mb] 35); simpa using this)
  replace K0 := Aside0.mk (blk_below K0.out hB)
  replace K1 := Aside0.mk (blk_below K1.out hB)
  replace K2 := Aside0.mk (blk_below K2.out hB)
  replace HW := Aside0.mk (below_then HW.out HW.out.size hB)
  clear hB
  go_wp2_with fail
  generalize (w3.alloc (.cells #[.int .i8 ka, .slice Pa na ma] 35)).alloc (.cells #[.int .i8 kb, .slice Pb nb mb] 35) = w4 at *
  generalize w3.heap.size = n3 at *
  refine wp_region_held_drew (S := fun w' => w'.cell? ⟨w.heap.size + 1, 0, none⟩ = some (.int .i8 0) ∧ w'.cell? ⟨w.heap.size + 1, 1, none⟩ = some (.slice none 0 0) ∧ w'.cell? ⟨w.heap.size + 2, 0, none⟩ = some (.int .i8 0) ∧ w'.cell? ⟨w.heap.size + 2, 1, none⟩ = some (.slice none 0 0)) (by kernel_rfl) ⟨bcl K1.out, bcl K1.out, bcl K2.out, bcl K2.out⟩ (fun hHeld => ?_)
  have HZ := Aside0.mk ((Below.refl w4.heap.size w4).drew)
  replace HW := Aside0.mk (below_then HW.out HW.out.size HZ.out)
  generalize w4.drew = w9a at *
  refine tK 26 0 hHeld ?_
  refine tK 27 1 hHeld ?_
  replace K1 := Aside0.mk (blk_below K1.out HZ.out)
  replace K2 := Aside0.mk (blk_below K2.out HZ.out)
  clear HZ
  refine sK 2 K1.out ⟨bcl (kOwn rfl K1.out), bcl (kOwn rfl K1.out), far2 hHeld.2.2.1 (by omega), far2 hHeld.2.2.2 (by omega)⟩ fun w9b hHeld hp => ?_
  replace K2 := Aside0.mk (kFar hp K2.out (by omega))
  replace K1 := Aside0.mk (kOwn hp K1.out)
  replace HW := Aside0.mk (bFar hp HW.out (by omega))
  clear hp
  refine sK 3 K2.out ⟨far2 hHeld.1 (by omega), far2 hHeld.2.1 (by omega), bcl (kOwn rfl K2.out), bcl (kOwn rfl K2.out)⟩ fun w9c hHeld hp => ?_
  replace K1 := Aside0.mk (kFar hp K1.out (by omega))
  replace K2 := Aside0.mk (kOwn hp K2.out)
  replace HW := Aside0.mk (bFar hp HW.out (by omega))
  clear hp
  refine tK 4 4 hHeld ?_
  refine wpAnyH_done (by kernel_rfl) ?_ _
  go_wp2_with fail
  exact retK K1.out K2.out ⟨_, _, _, _, _, _, _, _, rfl, fun h => absurd h (by decide), HW.out⟩
theorem isT_shape {w : World} {k : Int} {P : Option Addr} {n m : Nat} {t : S35} (h : IsT w (.agg #[.int .i8 k, .slice P n m]) t) : k = t.f0 ∧ n = t.f1.length := by
  obtain ⟨A, c, e, -, -⟩ := h
  have : k = t.f0 ∧ P = A ∧ n = t.f1.length ∧ m = c := by simpa using e
  exact ⟨this.1, this.2.2.1⟩
set_option maxRecDepth 100000 in
set_option maxHeartbeats 3200000 in
theorem cocheck_s {x : S47} {v : Value} {w : World} (hx : IsC w v x) {ta tb : S35} {r : Int} (hn : Aside0 (decide (cnodes x ≤ 8192) = true)) (hd : Aside0 (¬ 200 < cdepth x)) (hs : Aside0 (endsC x = some (ta, tb))) (hr1 : Aside0 (checkI ta ≠ 0 → r = checkI ta)) (hr2 : Aside0 (checkI ta = 0 → r = checkI tb)) : Calls Try.prog 28 #[v] w (CheckQ r (some (ta, tb)) w) := by
  have HX := Aside0.mk hx
  obtain ⟨A2, c2, A4, c4, A7, c7, rfl, hl2, hC2, hl4, hC4, -, -⟩ := hx
  have HT := Aside0.mk (IsT.mk (k := x.f1.f0) hl2 hC2)
  have HU := Aside0.mk (IsT.mk (k := x.f2.f0) hl4 hC4)
  rw [S35.eta] at HT HU
  clear hl2 hC2 hl4 hC4
  obtain ⟨k0, k1, k2, hB⟩ := three w (.cells #[.int .i8 x.f0, .int .i8 x.f1.f0, .slice A2 x.f1.f1.length c2, .int .i8 x.f2.f0, .slice A4 x.f2.f1.length c4, .int .i64 x.f3, .bool x.f4, .slice A7 x.f5.length c7] 47) (.cells #[.int .i8 0, .slice none 0 0] 35) (.cells #[.int .i8 0, .slice none 0 0] 35)
  have K0 := Aside0.mk k0
  have K1 := Aside0.mk k1
  have K2 := Aside0.mk k2
  replace HX := Aside0.mk (HX.out.below hB)
  replace HT := Aside0.mk (HT.out.below hB)
  replace HU := Aside0.mk (HU.out.below hB)
  have HW := Aside0.mk hB
  clear hB k0 k1 k2
  clear HT HU
  go_enter Try.func28, Try.ntmps28
  go_wp2_with fail
  generalize ((w.alloc (.cells #[.int .i8 x.f0, .int .i8 x.f1.f0, .slice A2 x.f1.f1.length c2, .int .i8 x.f2.f0, .slice A4 x.f2.f1.length c4, .int .i64 x.f3, .bool x.f4, .slice A7 x.f5.length c7] 47)).alloc (.cells #[.int .i8 0, .slice none 0 0] 35)).alloc (.cells #[.int .i8 0, .slice none 0 0] 35) = w0 at *
  have HY := Aside0.mk (Below.refl w0.heap.size w0)
  refine (counted_calls (AtC_box K0.out HX.out)).mono ?_
  rintro e w1 ⟨rfl, hB⟩
  rw [hn.out]
  replace K0 := Aside0.mk (blk_below K0.out hB)
  replace K1 := Aside0.mk (blk_below K1.out hB)
  replace K2 := Aside0.mk (blk_below K2.out hB)
  replace HX := Aside0.mk (HX.out.below hB)
  replace HW := Aside0.mk (below_then HW.out HW.out.size hB)
  clear hB
  go_wp2_with fail
  refine (deep_calls (AtC_box K0.out HX.out) (of_decide_eq_true hn.out)).mono ?_
  rintro e w2 ⟨rfl, hB⟩
  replace K0 := Aside0.mk (blk_below K0.out hB)
  replace K1 := Aside0.mk (blk_below K1.out hB)
  replace K2 := Aside0.mk (blk_below K2.out hB)
  replace HX := Aside0.mk (HX.out.below hB)
  replace HW := Aside0.mk (below_then HW.out HW.out.size hB)
  clear hB
  have hgt : decide ((200 : Int) < min (cdepth x : Int) 201) = false := decide_eq_false (by have := hd.out; omega)
  go_wp2_with fail
  refine (coends_calls (AtC_box K0.out HX.out)).mono ?_
  rintro e w3 ⟨ka, Pa, na, ma, kb, Pb, nb, mb, rfl, him, hB⟩
  rw [hs.out] at him ⊢
  obtain ⟨hta, htb⟩ := him ta tb rfl
  obtain ⟨rfl, rfl⟩ := isT_shape hta
  obtain ⟨rfl, rfl⟩ := isT_shape htb
  have HTA := Aside0.mk hta
  have HTB := Aside0.mk htb
  clear hta htb him
  replace K0 := Aside0.mk (blk_below K0.out hB)
  replace K1 := Aside0.mk (blk_below K1.out hB)
  replace K2 := Aside0.mk (blk_below K2.out hB)
  replace HX := Aside0.mk (HX.out.below hB)
  replace HW := Aside0.mk (below_then HW.out HW.out.size hB)
  clear hB
  have hn3 := blk_lt K2.out
  have hB : Below w3.heap.size w3 ((w3.alloc (.cells #[.int .i8 ta.f0, .slice Pa ta.f1.length ma] 35)).alloc (.cells #[.int .i8 tb.f0, .slice Pb tb.f1.length mb] 35)) := ((Below.refl _ _).alloc (Nat.le_refl _) _).alloc (by simp) _
  have KA := Aside0.mk (blk_alloc (heap_alloc_new w3 (.cells #[.int .i8 ta.f0, .slice Pa ta.f1.length ma] 35)) (.cells #[.int .i8 tb.f0, .slice Pb tb.f1.length mb] 35))
  have KB : Aside0 (((w3.alloc (.cells #[.int .i8 ta.f0, .slice Pa ta.f1.length ma] 35)).alloc (.cells #[.int .i8 tb.f0, .slice Pb tb.f1.length mb] 35)).heap[w3.heap.size + 1]? = some (.cells #[.int .i8 tb.f0, .slice Pb tb.f1.length mb] 35 (0, 0))) := .mk (by have := heap_alloc_new (w3.alloc (.cells #[.int .i8 ta.f0, .slice Pa ta.f1.length ma] 35)) (.cells #[.int .i8 tb.f0, .slice Pb tb.f1.length mb] 35); simpa using this)
  replace K0 := Aside0.mk (blk_below K0.out hB)
  replace K1 := Aside0.mk (blk_below K1.out hB)
  replace K2 := Aside0.mk (blk_below K2.out hB)
  replace HTA := Aside0.mk (HTA.out.below hB)
  replace HTB := Aside0.mk (HTB.out.below hB)
  replace HW := Aside0.mk (below_then HW.out HW.out.size hB)
  clear hB
  have a0 := (blk_cell KA.out 0).trans rfl
  have a1 := (blk_cell KA.out 1).trans rfl
  simp at a0 a1
  have b0 := (blk_cell KB.out 0).trans rfl
  have b1 := (blk_cell KB.out 1).trans rfl
  simp at b0 b1
  have hB : Below ((w3.alloc (.cells #[.int .i8 ta.f0, .slice Pa ta.f1.length ma] 35)).alloc (.cells #[.int .i8 tb.f0, .slice Pb tb.f1.length mb] 35)).heap.size ((w3.alloc (.cells #[.int .i8 ta.f0, .slice Pa ta.f1.length ma] 35)).alloc (.cells #[.int .i8 tb.f0, .slice Pb tb.f1.length mb] 35)) (((w3.alloc (.cells #[.int .i8 ta.f0, .slice Pa ta.f1.length ma] 35)).alloc (.cells #[.int .i8 tb.f0, .slice Pb tb.f1.length mb] 35)).alloc (.cells #[.int .i8 ta.f0, .slice Pa ta.f1.length ma, .int .i8 tb.f0, .slice Pb tb.f1.length mb] 35)) := (Below.refl _ _).alloc (Nat.le_refl _) _
  have KS : Aside0 ((((w3.alloc (.cells #[.int .i8 ta.f0, .slice Pa ta.f1.length ma] 35)).alloc (.cells #[.int .i8 tb.f0, .slice Pb tb.f1.length mb] 35)).alloc (.cells #[.int .i8 ta.f0, .slice Pa ta.f1.length ma, .int .i8 tb.f0, .slice Pb tb.f1.length mb] 35)).heap[w3.heap.size + 1 + 1]? = some (.cells #[.int .i8 ta.f0, .slice Pa ta.f1.length ma, .int .i8 tb.f0, .slice Pb tb.f1.length mb] 35 (0, 0))) := .mk (by have := heap_alloc_new ((w3.alloc (.cells #[.int .i8 ta.f0, .slice Pa ta.f1.length ma] 35)).alloc (.cells #[.int .i8 tb.f0, .slice Pb tb.f1.length mb] 35)) (.cells #[.int .i8 ta.f0, .slice Pa ta.f1.length ma, .int .i8 tb.f0, .slice Pb tb.f1.length mb] 35); simpa using this)
  replace K0 := Aside0.mk (blk_below K0.out hB)
  replace K1 := Aside0.mk (blk_below K1.out hB)
  replace K2 := Aside0.mk (blk_below K2.out hB)
  replace KA := Aside0.mk (blk_below KA.out hB)
  replace KB := Aside0.mk (blk_below KB.out hB)
  replace HTA := Aside0.mk (HTA.out.below hB)
  replace HTB := Aside0.mk (HTB.out.below hB)
  replace HW := Aside0.mk (below_then HW.out HW.out.size hB)
  clear hB
  go_wp2_with fail
  clear a0 a1 b0 b1
  generalize ((w3.alloc (.cells #[.int .i8 ta.f0, .slice Pa ta.f1.length ma] 35)).alloc (.cells #[.int .i8 tb.f0, .slice Pb tb.f1.length mb] 35)).alloc (.cells #[.int .i8 ta.f0, .slice Pa ta.f1.length ma, .int .i8 tb.f0, .slice Pb tb.f1.length mb] 35) = w8 at *
  generalize w3.heap.size = n3 at *
  go_loopw [32] (fun i wr => ∃ j : Nat, i = .int .i64 j ∧ j ≤ 2 ∧ (1 ≤ j → checkI ta = 0) ∧ (2 ≤ j → checkI tb = 0) ∧ Below w8.heap.size w8 wr) (fun i _ => 2 - (intOf i).toNat)
  case atStart => exact ⟨0, rfl, by omega, fun h => absurd h (by omega), fun h => absurd h (by omega), Below.refl _ _⟩
  case round =>
    obtain ⟨j, rfl, hj, hca, hcb, hB⟩ := hrel
    have HCA := Aside0.mk hca
    have HCB := Aside0.mk hcb
    clear hca hcb
    have HL := Aside0.mk hB
    replace K0 := Aside0.mk (blk_below K0.out hB)
    replace K1 := Aside0.mk (blk_below K1.out hB)
    replace K2 := Aside0.mk (blk_below K2.out hB)
    replace KA := Aside0.mk (blk_below KA.out hB)
    replace KB := Aside0.mk (blk_below KB.out hB)
    replace KS := Aside0.mk (blk_below KS.out hB)
    replace HTA := Aside0.mk (HTA.out.below hB)
    replace HTB := Aside0.mk (HTB.out.below hB)
    replace HW := Aside0.mk (below_then HW.out HW.out.size hB)
    clear hB
    match j, hj with
    | 0, _ =>
      have s0 := (blk_cell KS.out 0).trans rfl
      have s1 := (blk_cell KS.out 1).trans rfl
      have s2 := (blk_cell KS.out 2).trans rfl
      have s3 := (blk_cell KS.out 3).trans rfl
      simp at s0 s1 s2 s3
      have hB : Below wr.heap.size wr (wr.alloc (.cells #[.int .i8 ta.f0, .slice Pa ta.f1.length ma] 35)) := (Below.refl _ _).alloc (Nat.le_refl _) _
      replace HL := Aside0.mk (below_then HL.out HL.out.size hB)
      replace K1 := Aside0.mk (blk_below K1.out hB)
      replace K2 := Aside0.mk (blk_below K2.out hB)
      replace HTA := Aside0.mk (HTA.out.below hB)
      replace HTB := Aside0.mk (HTB.out.below hB)
      replace HW := Aside0.mk (below_then HW.out HW.out.size hB)
      clear hB
      go_wp2_with fail
      clear s0 s1 s2 s3
      generalize wr.alloc (.cells #[.int .i8 ta.f0, .slice Pa ta.f1.length ma] 35) = w9 at *
      refine (Check_calls HTA.out).mono ?_
      rintro e w10 ⟨rfl, hB⟩
      replace HL := Aside0.mk (below_then HL.out HL.out.size hB)
      replace K1 := Aside0.mk (blk_below K1.out hB)
      replace K2 := Aside0.mk (blk_below K2.out hB)
      replace HW := Aside0.mk (below_then HW.out HW.out.size hB)
      clear hB
      by_cases hc : checkI ta = 0
      · have hne : (checkI ta != 0) = false := bne_eq_false_iff_eq.mpr hc
        go_wp2_with fail
        go_roundw
        case rel => exact ⟨1, by go_num, by omega, (fun _ => hc), fun h => absurd h (by omega), HL.out⟩
        case measure => simp [intOf]
      · have hne : (checkI ta != 0) = true := bne_iff_ne.mpr hc
        have hr := hr1.out hc
        go_wp2_with fail
        refine wp_region_held_drew (S := fun w' => w'.cell? ⟨w.heap.size + 1, 0, none⟩ = some (.int .i8 0) ∧ w'.cell? ⟨w.heap.size + 1, 1, none⟩ = some (.slice none 0 0) ∧ w'.cell? ⟨w.heap.size + 2, 0, none⟩ = some (.int .i8 0) ∧ w'.cell? ⟨w.heap.size + 2, 1, none⟩ = some (.slice none 0 0)) (by kernel_rfl) ⟨bcl K1.out, bcl K1.out, bcl K2.out, bcl K2.out⟩ (fun hHeld => ?_)
        have HZ := Aside0.mk ((Below.refl w10.heap.size w10).drew)
        replace HW := Aside0.mk (below_then HW.out HW.out.size HZ.out)
        generalize w10.drew = w9a at *
        refine tK 40 0 hHeld ?_
        refine tK 41 1 hHeld ?_
        refine tK 42 2 hHeld ?_
        replace K1 := Aside0.mk (blk_below K1.out HZ.out)
        replace K2 := Aside0.mk (blk_below K2.out HZ.out)
        clear HZ
        refine sK 3 K1.out ⟨bcl (kOwn rfl K1.out), bcl (kOwn rfl K1.out), far2 hHeld.2.2.1 (by omega), far2 hHeld.2.2.2 (by omega)⟩ fun w9b hHeld hp => ?_
        replace K2 := Aside0.mk (kFar hp K2.out (by omega))
        replace K1 := Aside0.mk (kOwn hp K1.out)
        replace HW := Aside0.mk (bFar hp HW.out (by omega))
        clear hp
        refine sK 4 K2.out ⟨far2 hHeld.1 (by omega), far2 hHeld.2.1 (by omega), bcl (kOwn rfl K2.out), bcl (kOwn rfl K2.out)⟩ fun w9c hHeld hp => ?_
        replace K1 := Aside0.mk (kFar hp K1.out (by omega))
        replace K2 := Aside0.mk (kOwn hp K2.out)
        replace HW := Aside0.mk (bFar hp HW.out (by omega))
        clear hp
        refine tK 4 5 hHeld ?_
        refine wpAnyH_done (by kernel_rfl) ?_ _
        go_wp2_with fail
        exact retK K1.out K2.out ⟨_, _, _, _, _, _, _, _, by rw [hr], fun h => absurd (hr.symm.trans h) hc, HW.out⟩
    | 1, _ =>
      have s0 := (blk_cell KS.out 0).trans rfl
      have s1 := (blk_cell KS.out 1).trans rfl
      have s2 := (blk_cell KS.out 2).trans rfl
      have s3 := (blk_cell KS.out 3).trans rfl
      simp at s0 s1 s2 s3
      have hB : Below wr.heap.size wr (wr.alloc (.cells #[.int .i8 tb.f0, .slice Pb tb.f1.length mb] 35)) := (Below.refl _ _).alloc (Nat.le_refl _) _
      replace HL := Aside0.mk (below_then HL.out HL.out.size hB)
      replace K1 := Aside0.mk (blk_below K1.out hB)
      replace K2 := Aside0.mk (blk_below K2.out hB)
      replace HTA := Aside0.mk (HTA.out.below hB)
      replace HTB := Aside0.mk (HTB.out.below hB)
      replace HW := Aside0.mk (below_then HW.out HW.out.size hB)
      clear hB
      go_wp2_with fail
      clear s0 s1 s2 s3
      generalize wr.alloc (.cells #[.int .i8 tb.f0, .slice Pb tb.f1.length mb] 35) = w9 at *
      refine (Check_calls HTB.out).mono ?_
      rintro e w10 ⟨rfl, hB⟩
      replace HL := Aside0.mk (below_then HL.out HL.out.size hB)
      replace K1 := Aside0.mk (blk_below K1.out hB)
      replace K2 := Aside0.mk (blk_below K2.out hB)
      replace HW := Aside0.mk (below_then HW.out HW.out.size hB)
      clear hB
      by_cases hc : checkI tb = 0
      · have hne : (checkI tb != 0) = false := bne_eq_false_iff_eq.mpr hc
        go_wp2_with fail
        go_roundw
        case rel => exact ⟨2, by go_num, by omega, (fun _ => HCA.out (by omega)), fun _ => hc, HL.out⟩
        case measure => simp [intOf]
      · have hne : (checkI tb != 0) = true := bne_iff_ne.mpr hc
        have hr := hr2.out (HCA.out (by omega))
        go_wp2_with fail
        refine wp_region_held_drew (S := fun w' => w'.cell? ⟨w.heap.size + 1, 0, none⟩ = some (.int .i8 0) ∧ w'.cell? ⟨w.heap.size + 1, 1, none⟩ = some (.slice none 0 0) ∧ w'.cell? ⟨w.heap.size + 2, 0, none⟩ = some (.int .i8 0) ∧ w'.cell? ⟨w.heap.size + 2, 1, none⟩ = some (.slice none 0 0)) (by kernel_rfl) ⟨bcl K1.out, bcl K1.out, bcl K2.out, bcl K2.out⟩ (fun hHeld => ?_)
        have HZ := Aside0.mk ((Below.refl w10.heap.size w10).drew)
        replace HW := Aside0.mk (below_then HW.out HW.out.size HZ.out)
        generalize w10.drew = w9a at *
        refine tK 40 0 hHeld ?_
        refine tK 41 1 hHeld ?_
        refine tK 42 2 hHeld ?_
        replace K1 := Aside0.mk (blk_below K1.out HZ.out)
        replace K2 := Aside0.mk (blk_below K2.out HZ.out)
        clear HZ
        refine sK 3 K1.out ⟨bcl (kOwn rfl K1.out), bcl (kOwn rfl K1.out), far2 hHeld.2.2.1 (by omega), far2 hHeld.2.2.2 (by omega)⟩ fun w9b hHeld hp => ?_
        replace K2 := Aside0.mk (kFar hp K2.out (by omega))
        replace K1 := Aside0.mk (kOwn hp K1.out)
        replace HW := Aside0.mk (bFar hp HW.out (by omega))
        clear hp
        refine sK 4 K2.out ⟨far2 hHeld.1 (by omega), far2 hHeld.2.1 (by omega), bcl (kOwn rfl K2.out), bcl (kOwn rfl K2.out)⟩ fun w9c hHeld hp => ?_
        replace K1 := Aside0.mk (kFar hp K1.out (by omega))
        replace K2 := Aside0.mk (kOwn hp K2.out)
        replace HW := Aside0.mk (bFar hp HW.out (by omega))
        clear hp
        refine tK 4 5 hHeld ?_
        refine wpAnyH_done (by kernel_rfl) ?_ _
        go_wp2_with fail
        exact retK K1.out K2.out ⟨_, _, _, _, _, _, _, _, by rw [hr], fun h => absurd (hr.symm.trans h) hc, HW.out⟩
    | 2, _ =>
      have hc1 := HCA.out (by omega)
      have hc2 := HCB.out (by omega)
      have hr : r = 0 := (hr2.out hc1).trans hc2
      have HR1 := Aside0.mk (check_nodes hc1)
      have HR2 := Aside0.mk (check_nodes hc2)
      clear hc1 hc2
      go_wp2_with fail
      refine (whole_calls (AtT_box KA.out HTA.out) (by have := HR1.out.1; omega)).mono ?_
      rintro e w9 ⟨v1, rfl, hv1, hB⟩
      have HV1 := Aside0.mk hv1
      clear hv1
      replace K1 := Aside0.mk (blk_below K1.out hB)
      replace K2 := Aside0.mk (blk_below K2.out hB)
      replace KB := Aside0.mk (blk_below KB.out hB)
      replace HTB := Aside0.mk (HTB.out.below hB)
      replace HW := Aside0.mk (below_then HW.out HW.out.size hB)
      clear hB
      go_wp2_with fail
      refine (whole_calls (AtT_box KB.out HTB.out) (by have := HR2.out.1; omega)).mono ?_
      rintro e w10 ⟨v2, rfl, hv2, hB⟩
      have HV2 := Aside0.mk hv2
      clear hv2
      replace K1 := Aside0.mk (blk_below K1.out hB)
      replace K2 := Aside0.mk (blk_below K2.out hB)
      replace HV1 := Aside0.mk (HV1.out.below hB)
      replace HW := Aside0.mk (below_then HW.out HW.out.size hB)
      clear hB
      have HV1' := HV1.out
      have HV2' := HV2.out
      obtain ⟨Q1, q1, rfl, -⟩ := HV1'
      obtain ⟨Q2, q2, rfl, -⟩ := HV2'
      have c0 := (blk_cell K1.out 0).trans rfl
      have c1 := (blk_cell K1.out 1).trans rfl
      have z0 := blk_frozen K1.out 0
      have z1 := blk_frozen K1.out 1
      simp at c0 c1
      have d0 := (blk_cell K2.out 0).trans rfl
      have d1 := (blk_cell K2.out 1).trans rfl
      have y0 := blk_frozen K2.out 0
      have y1 := blk_frozen K2.out 1
      simp at d0 d1
      go_wp2_with fail
      exact retK (put_two_far (put_two K1.out _ _) (by omega) _ _) (put_two (put_two_far K2.out (by omega) _ _) _ _) ⟨_, _, _, _, _, _, _, _, by rw [hr], (fun _ ta' tb' h => by cases h; exact ⟨isT_far (put_two_far K2.out (by omega) _ _) (kept2 _ _ _ _) HR1.out.2.2 (isT_far K1.out (kept2 _ _ _ _) HR1.out.2.2 HV1.out), isT_far (put_two_far K2.out (by omega) _ _) (kept2 _ _ _ _) HR2.out.2.2 (isT_far K1.out (kept2 _ _ _ _) HR2.out.2.2 HV2.out)⟩), (((HW.out.setCell (Nat.le_add_right _ 1) _).setCell (Nat.le_add_right _ 1) _).setCell (Nat.le_add_right _ 2) _).setCell (Nat.le_add_right _ 2) _⟩
end Go.Proofs.Ytjmpejbciniceaa.X
