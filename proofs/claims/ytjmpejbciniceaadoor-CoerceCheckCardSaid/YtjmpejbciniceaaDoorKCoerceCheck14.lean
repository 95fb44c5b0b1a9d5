/- Texts of this claim, joined: HCpW, HCpK, HCpM, HTight, HRow2, HText. -/
import Derived.RegionTactic
import Derived.Maps.AppendAt
import Derived.Lib.AppendStr
import Derived.Laws.IdiomStrings
import Derived.ChangeAlike
import Derived.BigRegion
import Derived.Test.YtjmpejbciniceaaDoorKCoerceCheck7
import Derived.Test.YtjmpejbciniceaaDoorKCoerceCheck8
import Derived.Test.YtjmpejbciniceaaDoorKCoerceCheck13
namespace Go.Proofs.YtjmpejbciniceaaDoor.X
open Go.RowKit Go.Proofs.YtjmpejbciniceaaDoorW.PrintWords Go.Proofs.YtjmpejbciniceaaDoorW.PrintLast Go.Proofs.YtjmpejbciniceaaDoorW.PrintMore
set_option linter.unusedVariables false
set_option linter.unusedSimpArgs false
def AtT (w : World) (q : Addr) (t : S43) : Prop := ∃ A c, w.cell? q = some (.int .i8 t.f0) ∧ w.cell? ⟨q.block, q.off + 1, none⟩ = some (.slice A t.f1.length c) ∧ t.f1.length ≤ c ∧ Kd.C k43 w A t.f1.length t.f1
theorem AtT.below {w w' : World} {q : Addr} {t : S43} (h : AtT w q t) (hB : Below w.heap.size w w') : AtT w' q t := by
  obtain ⟨A, c, h1, h2, h3, h4⟩ := h
  exact ⟨A, c, pw_cell_below hB h1, pw_cell_below hB h2, h3, Kd.C_below h4 hB⟩
theorem AtT_kid {w : World} {A : Option Addr} {n : Nat} {xs : List S43} (h : Kd.C k43 w A n xs) (i : Int) (h0 : 0 ≤ i) (h1 : i < n) {x : S43} (hx : rd_T43 xs i = x) : ∃ ad, A = some ad ∧ AtT w (ad.add (i.toNat * 2)) x := by
  obtain ⟨ad, A1, c1, e, k0, k1, l1, l2⟩ := at_T43 h i h0 h1
  rw [hx] at k0 k1 l1 l2
  exact ⟨ad, e, A1, c1, k0, k1, l1, l2⟩
theorem AtT_box {w : World} {g : Nat} {A : Option Addr} {c : Nat} {t : S43} (hb : w.heap[g]? = some (.cells #[.int .i8 t.f0, .slice A t.f1.length c] 43 (0, 0))) (hx : IsT w (.agg #[.int .i8 t.f0, .slice A t.f1.length c]) t) : AtT w ⟨g, 0, none⟩ t := by
  obtain ⟨B, d, e, h1, h2⟩ := hx
  have e' : A = B ∧ c = d := by simpa using e
  obtain ⟨rfl, rfl⟩ := e'
  exact ⟨A, c, (blk_cell hb 0).trans rfl, (blk_cell hb 1).trans rfl, h1, h2⟩
def WholePost (t : S43) (w : World) (e : Ending) (w' : World) : Prop := ∃ v1, e = .returned (.agg #[.int .i8 t.f0, v1]) ∧ k43.R 43 w' w.heap.size (fun _ => True) v1 t.f1 ∧ Below w.heap.size w w'
def WholeIH (n : Nat) : Prop := ∀ (t : S43) (q : Addr) (w : World), nodes t < n → nodes t ≤ 32768 → AtT w q t → Calls Tryd.prog 47 #[.pointer (some q)] w (WholePost t w)
structure WhIn (w : World) (k : Int) (done : List S43) (v3 : Value) (wr : World) : Prop where
  b2 : wr.heap[w.heap.size]? = some (.cells #[.int .i8 0, .slice none 0 0] 43 (0, 0))
  b3 : wr.heap[w.heap.size + 1]? = some (.cells #[.int .i8 k, v3] 43 (0, 0))
  row : k43.R 43 wr w.heap.size (fun b => w.heap.size + 1 < b) v3 done
  below : Below w.heap.size w wr
theorem WhIn.after {w : World} {k : Int} {done : List S43} {v3 : Value} {wr w' : World} (h : WhIn w k done v3 wr) (hB : Below wr.heap.size wr w') : WhIn w k done v3 w' :=
  ⟨blk_below h.b2 hB, blk_below h.b3 hB, Kd.R_below h.row hB, below_then h.below h.below.size hB⟩
theorem WhIn.own {w : World} {k : Int} {done : List S43} {v3 : Value} {wr : World} (h : WhIn w k done v3 wr) : ∀ b, v3.ownBlock = some b → b < wr.heap.size ∧ w.heap.size + 1 < b := by
  intro b hb
  obtain ⟨inner, ho⟩ := Kd.R_own h.row
  exact ⟨own_lt ho b hb, h.row.1 b hb⟩
theorem WhIn.grown {w : World} {k : Int} {done : List S43} {v3 : Value} {wr w1 : World} (h : WhIn w k done v3 wr) (hg : wr.grownBy w1 v3.ownBlock) :
    w1.heap[w.heap.size]? = some (.cells #[.int .i8 0, .slice none 0 0] 43 (0, 0)) ∧ w1.heap[w.heap.size + 1]? = some (.cells #[.int .i8 k, v3] 43 (0, 0)) := by
  have hne : ∀ g, g ≤ w.heap.size + 1 → some g ≠ v3.ownBlock := fun g hg e => by
    have := h.own g e.symm
    omega
  exact ⟨blk_grown h.b2 hg (hne _ (by omega)), blk_grown h.b3 hg (hne _ (by omega))⟩
theorem WhIn.push {w : World} {k : Int} {done done' : List S43} {v3 v1 : Value} {wr w1 : World} (h : WhIn w k done v3 wr) (hg : wr.grownBy w1 v3.ownBlock) (hb : Below w.heap.size w w1)
    (hr : k43.R 43 w1 w.heap.size (fun b => w.heap.size + 1 < b) v1 done') : WhIn w k done' v1 (w1.setCell ⟨w.heap.size + 1, 1, none⟩ v1) := by
  obtain ⟨h2, h3⟩ := h.grown hg
  exact ⟨blk_far h2 (p := ⟨w.heap.size + 1, 1, none⟩) (by show _ ≠ w.heap.size + 1; omega) _, blk_put h3 1 v1 (by simp), Kd.R_far hr (p := ⟨w.heap.size + 1, 1, none⟩) (fun b hk => by show b ≠ w.heap.size + 1; omega) _, hb.setCell (p := ⟨w.heap.size + 1, 1, none⟩) (by show w.heap.size ≤ w.heap.size + 1; omega) _⟩
theorem copy_made {Wc W2 : World} {b0 : Nat} {v1 : Value} {x : S43} (hr : k43.R 43 W2 Wc.heap.size (fun _ => True) v1 x.f1) (hb : b0 ≤ Wc.heap.size) : k43.M W2 b0 (fun b => Wc.heap.size ≤ b) x [.int .i8 x.f0, v1] :=
  k43_mkM _ _ _ x (Kd.R_lower (Kd.R_mono (Kd.R_bound hr) (fun _ h => h.2.1)) hb)
theorem take_more (l : List S43) (j : Nat) (h : j < l.length) : l.take j ++ [rd_T43 l j] = l.take (j + 1) := by
  rw [List.take_succ_eq_append_getElem h]
  simp [rd_T43, List.getD_eq_getElem?_getD, h]
theorem length_le_nodesL' (l : List S43) : l.length ≤ nodesL l := by
  induction l with
  | nil => simp
  | cons x l ih => simp only [List.length_cons, nodesL]; have := nodes_eq x; omega
theorem nodes_rd_le' (l : List S43) (i : Nat) (h : i < l.length) : nodes (rd_T43 l i) ≤ nodesL l := by
  have h1 := nodesL_take l i h
  have h2 := nodesL_take_le l (i + 1)
  omega
set_option maxRecDepth 100000 in
set_option maxHeartbeats 1600000 in
theorem whole_node (n : Nat) (k : Int) (l : List S43) (A : Option Addr) (c : Nat) (q : Addr) (w : World) (IH : Aside0 (WholeIH n)) (HN : Aside0 (nodes ⟨k, l⟩ < n + 1)) (HM : Aside0 (nodes ⟨k, l⟩ ≤ 32768)) (hl : l.length ≤ 32768) (h0 : w.cell? q = some (.int .i8 k)) (h1 : w.cell? ⟨q.block, q.off + 1, none⟩ = some (.slice A l.length c)) (HR : Aside0 (Kd.C k43 w A l.length l)) (hc : l.length ≤ c) :
    Calls Tryd.prog 47 #[.pointer (some q)] w (WholePost ⟨k, l⟩ w) := by
  have H1 := Aside0.mk h1
  have hb0 : Below w.heap.size w (w.alloc (.cells #[.int .i8 0, .slice none 0 0] 43)) := (Below.refl _ _).alloc (Nat.le_refl _) _
  have hb1 : Below w.heap.size w ((w.alloc (.cells #[.int .i8 0, .slice none 0 0] 43)).alloc (.cells #[.int .i8 k, .slice none 0 0] 43)) := hb0.alloc (by simp) _
  have c0 := pw_cell_below hb0 h0
  have c1 := pw_cell_below hb1 h1
  have HI : Aside0 (WhIn w k [] (.slice none 0 0) ((w.alloc (.cells #[.int .i8 0, .slice none 0 0] 43)).alloc (.cells #[.int .i8 k, .slice none 0 0] 43))) := .mk ⟨blk_alloc (heap_alloc_new w _) _, by have := heap_alloc_new (w.alloc (.cells #[.int .i8 0, .slice none 0 0] 43)) (.cells #[.int .i8 k, .slice none 0 0] 43); simpa using this, Kd.R_nil _ _ _ _ _, hb1⟩
  clear hb0 hb1 h0 h1
  go_enter Tryd.func47, Tryd.ntmps47
  go_wp2_with fail
  clear c0 c1
  generalize (w.alloc (.cells #[.int .i8 0, .slice none 0 0] 43)).alloc (.cells #[.int .i8 k, .slice none 0 0] 43) = w0 at *
  go_loopw [15] (fun i wr => ∃ j : Nat, i = .int .i64 j ∧ j ≤ l.length ∧ ∃ v, WhIn w k (l.take j) v wr) (fun i _ => l.length - (intOf i).toNat)
  case atStart => exact ⟨0, rfl, Nat.zero_le _, _, by simpa using HI.out⟩
  case round =>
    obtain ⟨j, rfl, hj, v, hI⟩ := hrel
    clear HI
    have HI := Aside0.mk hI
    clear hI
    generalize wr = wc0 at *
    by_cases hlt : j < l.length
    · obtain ⟨ad, rfl, hkid⟩ := AtT_kid HR.out (j : Int) (by omega) (by omega) rfl
      have hnx := nodes_rd_le' l j hlt
      have hn0 := HN.out
      have hm0 := HM.out
      rw [nodes] at hn0 hm0
      generalize hel : rd_T43 l (j : Int) = x at *
      have HEL := Aside0.mk hel
      have TX0 := Aside0.mk hkid
      have OK := Aside0.mk (fun (w' : World) (hb : Below w.heap.size w w') => (pw_cell_below hb H1.out : w'.cell? ⟨q.block, q.off + 1, none⟩ = some (.slice (some ad) l.length c)))
      clear hkid hel
      go_wp2_with fail
      refine wp_region_held_drew (S := fun w' => w'.cell? ⟨q.block, q.off + 1, none⟩ = some (.slice (some ad) l.length c)) (by kernel_rfl) (OK.out _ (HI.out.after (Below.refl _ _).drew).below) (fun hHeld => ?_)
      replace HI := Aside0.mk (HI.out.after (Below.refl _ _).drew)
      have TX := Aside0.mk (TX0.out.below HI.out.below)
      have HX := Aside0.mk HI.out.b3
      have HG3 := Aside0.mk (blk_lt HI.out.b3)
      have HV : Aside0 (∀ b, v.ownBlock = some b → b < wc0.drew.heap.size) := .mk fun b hb => (HI.out.own b hb).1
      have HBS := Aside0.mk HI.out.below.size
      generalize wc0.drew = wc0 at *
      refine takeA 18 0 (v := ?_) ?_ hHeld ?_
      rotate_left
      · intro w hSw
        try dsimp only at hSw
        go_simp <;> with_reducible rfl
      try simp only [Act.put, List.setIfInBounds_toArray, List.set_cons_zero, List.set_cons_succ]
      refine takeA 20 2 (v := ?_) ?_ hHeld ?_
      rotate_left
      · intro w hSw
        try dsimp only at hSw
        go_simp <;> with_reducible rfl
      try simp only [Act.put, List.setIfInBounds_toArray, List.set_cons_zero, List.set_cons_succ]
      refine takeA 21 3 (v := ?_) ?_ hHeld ?_
      rotate_left
      · intro w hSw
        try dsimp only at hSw
        go_simp <;> with_reducible rfl
      try simp only [Act.put, List.setIfInBounds_toArray, List.set_cons_zero, List.set_cons_succ]
      refine takeA 22 4 (v := ?_) ?_ hHeld ?_
      rotate_left
      · intro w hSw
        try dsimp only at hSw
        go_simp <;> with_reducible rfl
      try simp only [Act.put, List.setIfInBounds_toArray, List.set_cons_zero, List.set_cons_succ]
      refine takeA 23 5 (v := ?_) ?_ hHeld ?_
      rotate_left
      · intro w hSw
        try dsimp only at hSw
        go_simp <;> with_reducible rfl
      try simp only [Act.put, List.setIfInBounds_toArray, List.set_cons_zero, List.set_cons_succ]
      refine takeA 24 6 (v := ?_) ?_ hHeld ?_
      rotate_left
      · intro w hSw
        try dsimp only at hSw
        go_simp <;> with_reducible rfl
      try simp only [Act.put, List.setIfInBounds_toArray, List.set_cons_zero, List.set_cons_succ]
      refine takeA 25 7 (v := ?_) ?_ hHeld ?_
      rotate_left
      · intro w hSw
        try dsimp only at hSw
        go_simp <;> with_reducible rfl
      try simp only [Act.put, List.setIfInBounds_toArray, List.set_cons_zero, List.set_cons_succ]
      refine wpAnyH_ready (rs := [1, 8]) (by kernel_rfl) (by simp) ?_
      refine AllReadyH.cons rfl (fun K hK => ?_) (AllReadyH.cons rfl (fun K hK => ?_) AllReadyH.nil)
      · have e3 := (blk_cell HX.out 1).trans rfl
        simp at e3
        go_simp
        clear e3
        refine hK.out _ _ (hHeld) (fun hHeld => ?_)
        clear hK K
        try simp only [Act.put, List.setIfInBounds_toArray, List.set_cons_zero, List.set_cons_succ]
        clear HX
        refine wpAnyH_ready (rs := [8]) (by kernel_rfl) (by simp) ?_
        refine AllReadyH.cons rfl (fun K hK => ?_) AllReadyH.nil
        refine callK (by rfl) (by kernel_rfl) (IH.out x _ _ (by omega) (by omega) TX.out) ?_
        rintro e w2 ⟨v1, rfl, hR, hB⟩
        have RX := Aside0.mk hR
        replace HI := Aside0.mk (HI.out.after hB)
        have HX := Aside0.mk HI.out.b3
        have HSZ := Aside0.mk hB.size
        refine ⟨_, rfl, ?_⟩
        refine hK.out _ _ (OK.out _ HI.out.below) (fun hHeld => ?_)
        clear hK K
        try simp only [Act.put, List.setIfInBounds_toArray, List.set_cons_zero, List.set_cons_succ]
        clear hR hB
        refine wpAnyH_ready (rs := [9]) (by kernel_rfl) (by simp) ?_
        refine AllReadyH.cons rfl (fun K hK => ?_) AllReadyH.nil
        go_simp
        replace HX := Aside0.mk (blk_alloc HX.out (.cells #[.int .i8 x.f0, v1] 43))
        refine hK.out _ _ (OK.out _ (HI.out.below.alloc HI.out.below.size (.cells #[.int .i8 x.f0, v1] 43))) (fun hHeld => ?_)
        clear hK K
        try simp only [Act.put, List.setIfInBounds_toArray, List.set_cons_zero, List.set_cons_succ]
        refine wpAnyH_ready (rs := [10]) (by kernel_rfl) (by simp) ?_
        refine AllReadyH.cons rfl (fun K hK => ?_) AllReadyH.nil
        have qo := HI.out.own
        have qz := HSZ.out
        have qg := HG3.out
        refine Kd.R_append_step k43 w.heap.size (by rfl) (.tmp 19) (.tmp 27) 41 43 (.agg #[.int .i8 0, .slice none 0 0]) 32 rfl Tryd.underlying41 info43 rfl (by decide) (by decide) v (l.take j) x [.int .i8 x.f0, v1] (fun b => w.heap.size + 1 < b) (fun b => wc0.heap.size ≤ b) (by rfl) (by rfl) (copy_made RX.out HBS.out) (fun b hb => ⟨by omega, fun e => by have := HV.out b e.symm; omega⟩) (fun b hb => by omega) HI.out.row HI.out.below HI.out.below.size (by have := List.length_take_le j l; omega) ?_
        intro v4 w1 hr4 hb4 hg4 hat4
        obtain ⟨A4, c4, e4⟩ := Kd.R_slice hr4
        obtain ⟨n4, hn4⟩ : ∃ n, n = (l.take j ++ [x]).length := ⟨_, rfl⟩
        rw [← hn4] at e4
        subst e4
        clear hn4
        have hI := HI.out.push hg4 hb4 hr4
        have hG := HI.out.grown hg4
        have e30 := (blk_cell hG.2 0).trans rfl
        have e31 := (blk_cell hG.2 1).trans rfl
        have z31 := blk_frozen hG.2 1
        simp at e30 e31
        clear qo qz qg
        refine hK.out _ _ (OK.out _ hb4) (fun hHeld => ?_)
        clear hK K
        try simp only [Act.put, List.setIfInBounds_toArray, List.set_cons_zero, List.set_cons_succ]
        refine takeA 29 11 (v := ?_) ?_ hHeld ?_
        rotate_left
        · intro w hSw
          try dsimp only at hSw
          go_simp <;> with_reducible rfl
        try simp only [Act.put, List.setIfInBounds_toArray, List.set_cons_zero, List.set_cons_succ]
        refine wpAnyH_ready (rs := [12]) (by kernel_rfl) (by simp) ?_
        refine AllReadyH.cons rfl (fun K hK => ?_) AllReadyH.nil
        have HJ := Aside0.mk hI
        clear hr4 hb4 hg4 hat4 hI hG
        go_simp
        clear e30 e31 z31
        refine hK.out _ _ (OK.out _ HJ.out.below) (fun hHeld => ?_)
        clear hK K
        try simp only [Act.put, List.setIfInBounds_toArray, List.set_cons_zero, List.set_cons_succ]
        refine wpAnyH_done (by kernel_rfl) ?_ _
        go_wp2_with fail
        go_roundw
        case rel => exact ⟨j + 1, by go_num, by omega, _, (take_more l j hlt) ▸ HEL.out ▸ HJ.out⟩
        case measure => simp [intOf]; omega
      · clear HX
        refine callK (by rfl) (by kernel_rfl) (IH.out x _ _ (by omega) (by omega) TX.out) ?_
        rintro e w2 ⟨v1, rfl, hR, hB⟩
        have RX := Aside0.mk hR
        replace HI := Aside0.mk (HI.out.after hB)
        have HX := Aside0.mk HI.out.b3
        have HSZ := Aside0.mk hB.size
        refine ⟨_, rfl, ?_⟩
        refine hK.out _ _ (OK.out _ HI.out.below) (fun hHeld => ?_)
        clear hK K
        try simp only [Act.put, List.setIfInBounds_toArray, List.set_cons_zero, List.set_cons_succ]
        clear hR hB
        refine wpAnyH_ready (rs := [1, 9]) (by kernel_rfl) (by simp) ?_
        refine AllReadyH.cons rfl (fun K hK => ?_) (AllReadyH.cons rfl (fun K hK => ?_) AllReadyH.nil)
        · have e3 := (blk_cell HX.out 1).trans rfl
          simp at e3
          go_simp
          clear e3
          refine hK.out _ _ (hHeld) (fun hHeld => ?_)
          clear hK K
          try simp only [Act.put, List.setIfInBounds_toArray, List.set_cons_zero, List.set_cons_succ]
          refine wpAnyH_ready (rs := [9]) (by kernel_rfl) (by simp) ?_
          refine AllReadyH.cons rfl (fun K hK => ?_) AllReadyH.nil
          go_simp
          replace HX := Aside0.mk (blk_alloc HX.out (.cells #[.int .i8 x.f0, v1] 43))
          refine hK.out _ _ (OK.out _ (HI.out.below.alloc HI.out.below.size (.cells #[.int .i8 x.f0, v1] 43))) (fun hHeld => ?_)
          clear hK K
          try simp only [Act.put, List.setIfInBounds_toArray, List.set_cons_zero, List.set_cons_succ]
          refine wpAnyH_ready (rs := [10]) (by kernel_rfl) (by simp) ?_
          refine AllReadyH.cons rfl (fun K hK => ?_) AllReadyH.nil
          have qo := HI.out.own
          have qz := HSZ.out
          have qg := HG3.out
          refine Kd.R_append_step k43 w.heap.size (by rfl) (.tmp 19) (.tmp 27) 41 43 (.agg #[.int .i8 0, .slice none 0 0]) 32 rfl Tryd.underlying41 info43 rfl (by decide) (by decide) v (l.take j) x [.int .i8 x.f0, v1] (fun b => w.heap.size + 1 < b) (fun b => wc0.heap.size ≤ b) (by rfl) (by rfl) (copy_made RX.out HBS.out) (fun b hb => ⟨by omega, fun e => by have := HV.out b e.symm; omega⟩) (fun b hb => by omega) HI.out.row HI.out.below HI.out.below.size (by have := List.length_take_le j l; omega) ?_
          intro v4 w1 hr4 hb4 hg4 hat4
          obtain ⟨A4, c4, e4⟩ := Kd.R_slice hr4
          obtain ⟨n4, hn4⟩ : ∃ n, n = (l.take j ++ [x]).length := ⟨_, rfl⟩
          rw [← hn4] at e4
          subst e4
          clear hn4
          have hI := HI.out.push hg4 hb4 hr4
          have hG := HI.out.grown hg4
          have e30 := (blk_cell hG.2 0).trans rfl
          have e31 := (blk_cell hG.2 1).trans rfl
          have z31 := blk_frozen hG.2 1
          simp at e30 e31
          clear qo qz qg
          refine hK.out _ _ (OK.out _ hb4) (fun hHeld => ?_)
          clear hK K
          try simp only [Act.put, List.setIfInBounds_toArray, List.set_cons_zero, List.set_cons_succ]
          refine takeA 29 11 (v := ?_) ?_ hHeld ?_
          rotate_left
          · intro w hSw
            try dsimp only at hSw
            go_simp <;> with_reducible rfl
          try simp only [Act.put, List.setIfInBounds_toArray, List.set_cons_zero, List.set_cons_succ]
          refine wpAnyH_ready (rs := [12]) (by kernel_rfl) (by simp) ?_
          refine AllReadyH.cons rfl (fun K hK => ?_) AllReadyH.nil
          have HJ := Aside0.mk hI
          clear hr4 hb4 hg4 hat4 hI hG
          go_simp
          clear e30 e31 z31
          refine hK.out _ _ (OK.out _ HJ.out.below) (fun hHeld => ?_)
          clear hK K
          try simp only [Act.put, List.setIfInBounds_toArray, List.set_cons_zero, List.set_cons_succ]
          refine wpAnyH_done (by kernel_rfl) ?_ _
          go_wp2_with fail
          go_roundw
          case rel => exact ⟨j + 1, by go_num, by omega, _, (take_more l j hlt) ▸ HEL.out ▸ HJ.out⟩
          case measure => simp [intOf]; omega
        · go_simp
          replace HX := Aside0.mk (blk_alloc HX.out (.cells #[.int .i8 x.f0, v1] 43))
          refine hK.out _ _ (OK.out _ (HI.out.below.alloc HI.out.below.size (.cells #[.int .i8 x.f0, v1] 43))) (fun hHeld => ?_)
          clear hK K
          try simp only [Act.put, List.setIfInBounds_toArray, List.set_cons_zero, List.set_cons_succ]
          refine wpAnyH_ready (rs := [1]) (by kernel_rfl) (by simp) ?_
          refine AllReadyH.cons rfl (fun K hK => ?_) AllReadyH.nil
          have e3 := (blk_cell HX.out 1).trans rfl
          simp at e3
          go_simp
          clear e3
          refine hK.out _ _ (hHeld) (fun hHeld => ?_)
          clear hK K
          try simp only [Act.put, List.setIfInBounds_toArray, List.set_cons_zero, List.set_cons_succ]
          refine wpAnyH_ready (rs := [10]) (by kernel_rfl) (by simp) ?_
          refine AllReadyH.cons rfl (fun K hK => ?_) AllReadyH.nil
          have qo := HI.out.own
          have qz := HSZ.out
          have qg := HG3.out
          refine Kd.R_append_step k43 w.heap.size (by rfl) (.tmp 19) (.tmp 27) 41 43 (.agg #[.int .i8 0, .slice none 0 0]) 32 rfl Tryd.underlying41 info43 rfl (by decide) (by decide) v (l.take j) x [.int .i8 x.f0, v1] (fun b => w.heap.size + 1 < b) (fun b => wc0.heap.size ≤ b) (by rfl) (by rfl) (copy_made RX.out HBS.out) (fun b hb => ⟨by omega, fun e => by have := HV.out b e.symm; omega⟩) (fun b hb => by omega) HI.out.row HI.out.below HI.out.below.size (by have := List.length_take_le j l; omega) ?_
          intro v4 w1 hr4 hb4 hg4 hat4
          obtain ⟨A4, c4, e4⟩ := Kd.R_slice hr4
          obtain ⟨n4, hn4⟩ : ∃ n, n = (l.take j ++ [x]).length := ⟨_, rfl⟩
          rw [← hn4] at e4
          subst e4
          clear hn4
          have hI := HI.out.push hg4 hb4 hr4
          have hG := HI.out.grown hg4
          have e30 := (blk_cell hG.2 0).trans rfl
          have e31 := (blk_cell hG.2 1).trans rfl
          have z31 := blk_frozen hG.2 1
          simp at e30 e31
          clear qo qz qg
          refine hK.out _ _ (OK.out _ hb4) (fun hHeld => ?_)
          clear hK K
          try simp only [Act.put, List.setIfInBounds_toArray, List.set_cons_zero, List.set_cons_succ]
          refine takeA 29 11 (v := ?_) ?_ hHeld ?_
          rotate_left
          · intro w hSw
            try dsimp only at hSw
            go_simp <;> with_reducible rfl
          try simp only [Act.put, List.setIfInBounds_toArray, List.set_cons_zero, List.set_cons_succ]
          refine wpAnyH_ready (rs := [12]) (by kernel_rfl) (by simp) ?_
          refine AllReadyH.cons rfl (fun K hK => ?_) AllReadyH.nil
          have HJ := Aside0.mk hI
          clear hr4 hb4 hg4 hat4 hI hG
          go_simp
          clear e30 e31 z31
          refine hK.out _ _ (OK.out _ HJ.out.below) (fun hHeld => ?_)
          clear hK K
          try simp only [Act.put, List.setIfInBounds_toArray, List.set_cons_zero, List.set_cons_succ]
          refine wpAnyH_done (by kernel_rfl) ?_ _
          go_wp2_with fail
          go_roundw
          case rel => exact ⟨j + 1, by go_num, by omega, _, (take_more l j hlt) ▸ HEL.out ▸ HJ.out⟩
          case measure => simp [intOf]; omega
    · obtain rfl : j = l.length := by omega
      obtain ⟨A4, c4, e4⟩ := Kd.R_slice HI.out.row
      obtain ⟨n4, hn4⟩ : ∃ n, n = (l.take l.length).length := ⟨_, rfl⟩
      rw [← hn4] at e4
      subst e4
      clear hn4
      have e30 := (blk_cell HI.out.b3 0).trans rfl
      have e31 := (blk_cell HI.out.b3 1).trans rfl
      have e20 := (blk_cell HI.out.b2 0).trans rfl
      have e21 := (blk_cell HI.out.b2 1).trans rfl
      have z20 := blk_frozen HI.out.b2 0
      have z21 := blk_frozen HI.out.b2 1
      simp at e30 e31 e20 e21
      go_wp2_with fail
      have k9 := put_two HI.out.b2 (.int .i8 k) (.slice A4 n4 c4)
      have hr9 : k43.R 43 ((wc0.setCell ⟨w.heap.size, 0, none⟩ (.int .i8 k)).setCell ⟨w.heap.size, 1, none⟩ (.slice A4 n4 c4)) w.heap.size (fun _ => True) (.slice A4 n4 c4) l := by
        have h0 := HI.out.row
        rw [List.take_length] at h0
        exact Kd.R_mono (Kd.R_far (Kd.R_far h0 (p := ⟨w.heap.size, 0, none⟩) (fun b hk => by show b ≠ w.heap.size; omega) (.int .i8 k)) (p := ⟨w.heap.size, 1, none⟩) (fun b hk => by show b ≠ w.heap.size; omega) (.slice A4 n4 c4)) (fun _ _ => trivial)
      have hb9 := (HI.out.below.setCell (p := ⟨w.heap.size, 0, none⟩) (Nat.le_refl _) (.int .i8 k)).setCell (p := ⟨w.heap.size, 1, none⟩) (Nat.le_refl _) (.slice A4 n4 c4)
      have e1' := blk_cell k9 0
      have e2' := blk_cell k9 1
      simp at e1' e2'
      refine bodyPost_ret (v := .agg #[.int .i8 k, .slice A4 n4 c4]) (by simp [results, Tryd.results47, go_sem, e1', e2']) rfl ⟨_, rfl, hr9, hb9⟩
theorem whole_all (n : Nat) : WholeIH n := by
  induction n with
  | zero => intro t q w h; omega
  | succ n ih =>
    intro t q w hn hm hT
    obtain ⟨k, l⟩ := t
    obtain ⟨A, c, h0, h1, hlc, hC⟩ := hT
    have := length_le_nodesL' l
    rw [nodes] at hm
    exact whole_node n k l A c q w (.mk ih) (.mk hn) (.mk (by rw [nodes]; exact hm)) (by omega) h0 h1 (.mk hC) hlc
theorem whole_calls {t : S43} {q : Addr} {w : World} (h : AtT w q t) (hs : nodes t ≤ 32768) : Calls Tryd.prog 47 #[.pointer (some q)] w fun e w' => ∃ v', e = .returned v' ∧ IsT w' v' t ∧ Below w.heap.size w w' := by
  refine (whole_all (nodes t + 1) t q w (by omega) hs h).mono ?_
  rintro e w' ⟨v1, rfl, hR, hB⟩
  obtain ⟨A, c, rfl, h1, h2⟩ := Kd.R_reads hR
  exact ⟨_, rfl, ⟨A, c, rfl, h1, h2⟩, hB⟩
end Go.Proofs.YtjmpejbciniceaaDoor.X
namespace Go.Proofs.YtjmpejbciniceaaDoor.X
open Go.RowKit Go.Proofs.YtjmpejbciniceaaDoorW.PrintWords Go.Proofs.YtjmpejbciniceaaDoorW.PrintLast Go.Proofs.YtjmpejbciniceaaDoorW.PrintMore
set_option linter.unusedVariables false
set_option linter.unusedSimpArgs false
def CheckQ (r : Int) (o : Option (S43 × S43)) (w : World) (e : Ending) (w' : World) : Prop := ∃ (ka : Int) (Pa : Option Addr) (na ca : Nat) (kb : Int) (Pb : Option Addr) (nb cb : Nat), e = .returned (.tuple #[.agg #[.int .i8 ka, .slice Pa na ca], .agg #[.int .i8 kb, .slice Pb nb cb], .int .i64 r]) ∧
  (r = 0 → ∀ ta tb, o = some (ta, tb) → IsT w' (.agg #[.int .i8 ka, .slice Pa na ca]) ta ∧ IsT w' (.agg #[.int .i8 kb, .slice Pb nb cb]) tb) ∧ (r ≠ 0 → IsT w' (.agg #[.int .i8 ka, .slice Pa na ca]) z43 ∧ IsT w' (.agg #[.int .i8 kb, .slice Pb nb cb]) z43) ∧ Below w.heap.size w w'
set_option maxRecDepth 100000 in
set_option maxHeartbeats 3200000 in
theorem cocheck_n {x : S54} {v : Value} {w : World} (hx : IsC w v x) {o : Option (S43 × S43)} (hn : Aside0 (decide (cnodes x ≤ 8192) = false)) : Calls Tryd.prog 16 #[v] w (CheckQ 32 o w) := by
  have HX := Aside0.mk hx
  obtain ⟨A2, c2, A4, c4, A7, c7, rfl, hl2, hC2, hl4, hC4, -, -⟩ := hx
  have HT := Aside0.mk (IsT.mk (k := x.f1.f0) hl2 hC2)
  have HU := Aside0.mk (IsT.mk (k := x.f2.f0) hl4 hC4)
  rw [S43.eta] at HT HU
  clear hl2 hC2 hl4 hC4
  obtain ⟨k0, k1, k2, hB⟩ := three w (.cells #[.int .i8 x.f0, .int .i8 x.f1.f0, .slice A2 x.f1.f1.length c2, .int .i8 x.f2.f0, .slice A4 x.f2.f1.length c4, .int .i64 x.f3, .bool x.f4, .slice A7 x.f5.length c7] 54) (.cells #[.int .i8 0, .slice none 0 0] 43) (.cells #[.int .i8 0, .slice none 0 0] 43)
  have K0 := Aside0.mk k0
  have K1 := Aside0.mk k1
  have K2 := Aside0.mk k2
  replace HX := Aside0.mk (HX.out.below hB)
  replace HT := Aside0.mk (HT.out.below hB)
  replace HU := Aside0.mk (HU.out.below hB)
  have HW := Aside0.mk hB
  clear hB k0 k1 k2
  clear HT HU
  go_enter Tryd.func16, Tryd.ntmps16
  go_wp2_with fail
  generalize ((w.alloc (.cells #[.int .i8 x.f0, .int .i8 x.f1.f0, .slice A2 x.f1.f1.length c2, .int .i8 x.f2.f0, .slice A4 x.f2.f1.length c4, .int .i64 x.f3, .bool x.f4, .slice A7 x.f5.length c7] 54)).alloc (.cells #[.int .i8 0, .slice none 0 0] 43)).alloc (.cells #[.int .i8 0, .slice none 0 0] 43) = w0 at *
  have HY := Aside0.mk (Below.refl w0.heap.size w0)
  refine (counted_calls (AtC_box K0.out HX.out)).mono ?_
  rintro e w1 ⟨rfl, hB⟩
  rw [hn.out]
  replace K0 := Aside0.mk (blk_below K0.out hB)
  replace K1 := Aside0.mk (blk_below K1.out hB)
  replace K2 := Aside0.mk (blk_below K2.out hB)
  replace HX := Aside0.mk (HX.out.below hB)
  replace HW := Aside0.mk (below_then HW.out HW.out.size hB)
  clear hB
  go_wp2_with fail
  refine wp_region_held_drew (S := fun w' => w'.cell? ⟨w.heap.size + 1, 0, none⟩ = some (.int .i8 0) ∧ w'.cell? ⟨w.heap.size + 1, 1, none⟩ = some (.slice none 0 0) ∧ w'.cell? ⟨w.heap.size + 2, 0, none⟩ = some (.int .i8 0) ∧ w'.cell? ⟨w.heap.size + 2, 1, none⟩ = some (.slice none 0 0)) (by kernel_rfl) ⟨bcl K1.out, bcl K1.out, bcl K2.out, bcl K2.out⟩ (fun hHeld => ?_)
  have HZ := Aside0.mk ((Below.refl w1.heap.size w1).drew)
  replace HW := Aside0.mk (below_then HW.out HW.out.size HZ.out)
  generalize w1.drew = w9a at *
  refine tK 13 0 hHeld ?_
  refine tK 14 1 hHeld ?_
  replace K1 := Aside0.mk (blk_below K1.out HZ.out)
  replace K2 := Aside0.mk (blk_below K2.out HZ.out)
  clear HZ
  refine sK 2 K1.out ⟨bcl (kOwn rfl K1.out), bcl (kOwn rfl K1.out), far2 hHeld.2.2.1 (by omega), far2 hHeld.2.2.2 (by omega)⟩ fun w9b hHeld hp => ?_
  replace K2 := Aside0.mk (kFar hp K2.out (by omega))
  replace K1 := Aside0.mk (kOwn hp K1.out)
  replace HW := Aside0.mk (bFar hp HW.out (by omega))
  clear hp
  refine sK 3 K2.out ⟨far2 hHeld.1 (by omega), far2 hHeld.2.1 (by omega), bcl (kOwn rfl K2.out), bcl (kOwn rfl K2.out)⟩ fun w9c hHeld hp => ?_
  replace K1 := Aside0.mk (kFar hp K1.out (by omega))
  replace K2 := Aside0.mk (kOwn hp K2.out)
  replace HW := Aside0.mk (bFar hp HW.out (by omega))
  clear hp
  refine tK 4 4 hHeld ?_
  refine wpAnyH_done (by kernel_rfl) ?_ _
  go_wp2_with fail
  exact retK K1.out K2.out ⟨_, _, _, _, _, _, _, _, rfl, fun h => absurd h (by decide), fun _ => ⟨IsT.zero _, IsT.zero _⟩, HW.out⟩
set_option maxRecDepth 100000 in
set_option maxHeartbeats 3200000 in
theorem cocheck_d {x : S54} {v : Value} {w : World} (hx : IsC w v x) {o : Option (S43 × S43)} (hn : Aside0 (decide (cnodes x ≤ 8192) = true)) (hd : Aside0 (200 < cdepth x)) : Calls Tryd.prog 16 #[v] w (CheckQ 31 o w) := by
  have HX := Aside0.mk hx
  obtain ⟨A2, c2, A4, c4, A7, c7, rfl, hl2, hC2, hl4, hC4, -, -⟩ := hx
  have HT := Aside0.mk (IsT.mk (k := x.f1.f0) hl2 hC2)
  have HU := Aside0.mk (IsT.mk (k := x.f2.f0) hl4 hC4)
  rw [S43.eta] at HT HU
  clear hl2 hC2 hl4 hC4
  obtain ⟨k0, k1, k2, hB⟩ := three w (.cells #[.int .i8 x.f0, .int .i8 x.f1.f0, .slice A2 x.f1.f1.length c2, .int .i8 x.f2.f0, .slice A4 x.f2.f1.length c4, .int .i64 x.f3, .bool x.f4, .slice A7 x.f5.length c7] 54) (.cells #[.int .i8 0, .slice none 0 0] 43) (.cells #[.int .i8 0, .slice none 0 0] 43)
  have K0 := Aside0.mk k0
  have K1 := Aside0.mk k1
  have K2 := Aside0.mk k2
  replace HX := Aside0.mk (HX.out.below hB)
  replace HT := Aside0.mk (HT.out.below hB)
  replace HU := Aside0.mk (HU.out.below hB)
  have HW := Aside0.mk hB
  clear hB k0 k1 k2
  clear HT HU
  go_enter Tryd.func16, Tryd.ntmps16
  go_wp2_with fail
  generalize ((w.alloc (.cells #[.int .i8 x.f0, .int .i8 x.f1.f0, .slice A2 x.f1.f1.length c2, .int .i8 x.f2.f0, .slice A4 x.f2.f1.length c4, .int .i64 x.f3, .bool x.f4, .slice A7 x.f5.length c7] 54)).alloc (.cells #[.int .i8 0, .slice none 0 0] 43)).alloc (.cells #[.int .i8 0, .slice none 0 0] 43) = w0 at *
  have HY := Aside0.mk (Below.refl w0.heap.size w0)
  refine (counted_calls (AtC_box K0.out HX.out)).mono ?_
  rintro e w1 ⟨rfl, hB⟩
  rw [hn.out]
  replace K0 := Aside0.mk (blk_below K0.out hB)
  replace K1 := Aside0.mk (blk_below K1.out hB)
  replace K2 := Aside0.mk (blk_below K2.out hB)
  replace HX := Aside0.mk (HX.out.below hB)
  replace HW := Aside0.mk (below_then HW.out HW.out.size hB)
  clear hB
  go_wp2_with fail
  refine (deep_calls (AtC_box K0.out HX.out) (of_decide_eq_true hn.out)).mono ?_
  rintro e w2 ⟨rfl, hB⟩
  replace K0 := Aside0.mk (blk_below K0.out hB)
  replace K1 := Aside0.mk (blk_below K1.out hB)
  replace K2 := Aside0.mk (blk_below K2.out hB)
  replace HX := Aside0.mk (HX.out.below hB)
  replace HW := Aside0.mk (below_then HW.out HW.out.size hB)
  clear hB
  have hgt : decide ((200 : Int) < min (cdepth x : Int) 201) = true := decide_eq_true (by have := hd.out; omega)
  go_wp2_with fail
  refine wp_region_held_drew (S := fun w' => w'.cell? ⟨w.heap.size + 1, 0, none⟩ = some (.int .i8 0) ∧ w'.cell? ⟨w.heap.size + 1, 1, none⟩ = some (.slice none 0 0) ∧ w'.cell? ⟨w.heap.size + 2, 0, none⟩ = some (.int .i8 0) ∧ w'.cell? ⟨w.heap.size + 2, 1, none⟩ = some (.slice none 0 0)) (by kernel_rfl) ⟨bcl K1.out, bcl K1.out, bcl K2.out, bcl K2.out⟩ (fun hHeld => ?_)
  have HZ := Aside0.mk ((Below.refl w2.heap.size w2).drew)
  replace HW := Aside0.mk (below_then HW.out HW.out.size HZ.out)
  generalize w2.drew = w9a at *
  refine tK 17 0 hHeld ?_
  refine tK 18 1 hHeld ?_
  replace K1 := Aside0.mk (blk_below K1.out HZ.out)
  replace K2 := Aside0.mk (blk_below K2.out HZ.out)
  clear HZ
  refine sK 2 K1.out ⟨bcl (kOwn rfl K1.out), bcl (kOwn rfl K1.out), far2 hHeld.2.2.1 (by omega), far2 hHeld.2.2.2 (by omega)⟩ fun w9b hHeld hp => ?_
  replace K2 := Aside0.mk (kFar hp K2.out (by omega))
  replace K1 := Aside0.mk (kOwn hp K1.out)
  replace HW := Aside0.mk (bFar hp HW.out (by omega))
  clear hp
  refine sK 3 K2.out ⟨far2 hHeld.1 (by omega), far2 hHeld.2.1 (by omega), bcl (kOwn rfl K2.out), bcl (kOwn rfl K2.out)⟩ fun w9c hHeld hp => ?_
  replace K1 := Aside0.mk (kFar hp K1.out (by omega))
  replace K2 := Aside0.mk (kOwn hp K2.out)
  replace HW := Aside0.mk (bFar hp HW.out (by omega))
  clear hp
  refine tK 4 4 hHeld ?_
  refine wpAnyH_done (by kernel_rfl) ?_ _
  go_wp2_with fail
  exact retK K1.out K2.out ⟨_, _, _, _, _, _, _, _, rfl, fun h => absurd h (by decide), fun _ => ⟨IsT.zero _, IsT.zero _⟩, HW.out⟩
set_option maxRecDepth 100000 in
set_option maxHeartbeats 3200000 in
theorem cocheck_e {x : S54} {v : Value} {w : World} (hx : IsC w v x) (hn : Aside0 (decide (cnodes x ≤ 8192) = true)) (hd : Aside0 (¬ 200 < cdepth x)) (hs : Aside0 (endsC x = none)) : Calls Tryd.prog 16 #[v] w (CheckQ 150 none w) := by
  have HX := Aside0.mk hx
  obtain ⟨A2, c2, A4, c4, A7, c7, rfl, hl2, hC2, hl4, hC4, -, -⟩ := hx
  have HT := Aside0.mk (IsT.mk (k := x.f1.f0) hl2 hC2)
  have HU := Aside0.mk (IsT.mk (k := x.f2.f0) hl4 hC4)
  rw [S43.eta] at HT HU
  clear hl2 hC2 hl4 hC4
  obtain ⟨k0, k1, k2, hB⟩ := three w (.cells #[.int .i8 x.f0, .int .i8 x.f1.f0, .slice A2 x.f1.f1.length c2, .int .i8 x.f2.f0, .slice A4 x.f2.f1.length c4, .int .i64 x.f3, .bool x.f4, .slice A7 x.f5.length c7] 54) (.cells #[.int .i8 0, .slice none 0 0] 43) (.cells #[.int .i8 0, .slice none 0 0] 43)
  have K0 := Aside0.mk k0
  have K1 := Aside0.mk k1
  have K2 := Aside0.mk k2
  replace HX := Aside0.mk (HX.out.below hB)
  replace HT := Aside0.mk (HT.out.below hB)
  replace HU := Aside0.mk (HU.out.below hB)
  have HW := Aside0.mk hB
  clear hB k0 k1 k2
  clear HT HU
  go_enter Tryd.func16, Tryd.ntmps16
  go_wp2_with fail
  generalize ((w.alloc (.cells #[.int .i8 x.f0, .int .i8 x.f1.f0, .slice A2 x.f1.f1.length c2, .int .i8 x.f2.f0, .slice A4 x.f2.f1.length c4, .int .i64 x.f3, .bool x.f4, .slice A7 x.f5.length c7] 54)).alloc (.cells #[.int .i8 0, .slice none 0 0] 43)).alloc (.cells #[.int .i8 0, .slice none 0 0] 43) = w0 at *
  have HY := Aside0.mk (Below.refl w0.heap.size w0)
  refine (counted_calls (AtC_box K0.out HX.out)).mono ?_
  rintro e w1 ⟨rfl, hB⟩
  rw [hn.out]
  replace K0 := Aside0.mk (blk_below K0.out hB)
  replace K1 := Aside0.mk (blk_below K1.out hB)
  replace K2 := Aside0.mk (blk_below K2.out hB)
  replace HX := Aside0.mk (HX.out.below hB)
  replace HW := Aside0.mk (below_then HW.out HW.out.size hB)
  clear hB
  go_wp2_with fail
  refine (deep_calls (AtC_box K0.out HX.out) (of_decide_eq_true hn.out)).mono ?_
  rintro e w2 ⟨rfl, hB⟩
  replace K0 := Aside0.mk (blk_below K0.out hB)
  replace K1 := Aside0.mk (blk_below K1.out hB)
  replace K2 := Aside0.mk (blk_below K2.out hB)
  replace HX := Aside0.mk (HX.out.below hB)
  replace HW := Aside0.mk (below_then HW.out HW.out.size hB)
  clear hB
  have hgt : decide ((200 : Int) < min (cdepth x : Int) 201) = false := decide_eq_false (by have := hd.out; omega)
  go_wp2_with fail
  refine (coends_calls (AtC_box K0.out HX.out)).mono ?_
  rintro e w3 ⟨ka, Pa, na, ma, kb, Pb, nb, mb, rfl, him, hB⟩
  rw [hs.out] at him ⊢
  have HIM := Aside0.mk him
  clear him
  replace K0 := Aside0.mk (blk_below K0.out hB)
  replace K1 := Aside0.mk (blk_below K1.out hB)
  replace K2 := Aside0.mk (blk_below K2.out hB)
  replace HX := Aside0.mk (HX.out.below hB)
  replace HW := Aside0.mk (below_then HW.out HW.out.size hB)
  clear hB
  have hn3 := blk_lt K2.out
  have hB : Below w3.heap.size w3 ((w3.alloc (.cells #[.int .i8 ka, .slice Pa na ma] 43)).alloc (.cells #[.int .i8 kb, .slice Pb nb mb] 43)) := ((Below.refl _ _).alloc (Nat.le_refl _) _).alloc (by simp) _
  have KA := Aside0.mk (blk_alloc (heap_alloc_new w3 (.cells #[.int .i8 ka, .slice Pa na ma] 43)) (.cells #[.int .i8 kb, .slice Pb nb mb] 43))
  have KB : Aside0 (((w3.alloc (.cells #[.int .i8 ka, .slice Pa na ma] 43)).alloc (.cells #[.int .i8 kb, .slice Pb nb mb] 43)).heap[w3.heap.size + 1]? = some (.cells #[.int .i8 kb, .slice Pb nb mb] 43 (0, 0))) := .mk (by have := heap_alloc_new (w3.alloc (.cells #[.int .i8 ka, .slice Pa na ma] 43)) (.cells #[.int .i8 kb, .slice Pb nb mb] 43); simpa using this)
  replace K0 := Aside0.mk (blk_below K0.out hB)
  replace K1 := Aside0.mk (blk_below K1.out hB)
  replace K2 := Aside0.mk (blk_below K2.out hB)
  replace HW := Aside0.mk (below_then HW.out HW.out.size hB)
  clear hB
  go_wp2_with fail
  generalize (w3.alloc (.cells #[.int .i8 ka, .slice Pa na ma] 43)).alloc (.cells #[.int .i8 kb, .slice Pb nb mb] 43) = w4 at *
  generalize w3.heap.size = n3 at *
  refine wp_region_held_drew (S := fun w' => w'.cell? ⟨w.heap.size + 1, 0, none⟩ = some (.int .i8 0) ∧ w'.cell? ⟨w.heap.size + 1, 1, none⟩ = some (.slice none 0 0) ∧ w'.cell? ⟨w.heap.size + 2, 0, none⟩ = some (.int .i8 0) ∧ w'.cell? ⟨w.heap.size + 2, 1, none⟩ = some (.slice none 0 0)) (by kernel_rfl) ⟨bcl K1.out, bcl K1.out, bcl K2.out, bcl K2.out⟩ (fun hHeld => ?_)
  have HZ := Aside0.mk ((Below.refl w4.heap.size w4).drew)
  replace HW := Aside0.mk (below_then HW.out HW.out.size HZ.out)
  generalize w4.drew = w9a at *
  refine tK 26 0 hHeld ?_
  refine tK 27 1 hHeld ?_
  replace K1 := Aside0.mk (blk_below K1.out HZ.out)
  replace K2 := Aside0.mk (blk_below K2.out HZ.out)
  clear HZ
  refine sK 2 K1.out ⟨bcl (kOwn rfl K1.out), bcl (kOwn rfl K1.out), far2 hHeld.2.2.1 (by omega), far2 hHeld.2.2.2 (by omega)⟩ fun w9b hHeld hp => ?_
  replace K2 := Aside0.mk (kFar hp K2.out (by omega))
  replace K1 := Aside0.mk (kOwn hp K1.out)
  replace HW := Aside0.mk (bFar hp HW.out (by omega))
  clear hp
  refine sK 3 K2.out ⟨far2 hHeld.1 (by omega), far2 hHeld.2.1 (by omega), bcl (kOwn rfl K2.out), bcl (kOwn rfl K2.out)⟩ fun w9c hHeld hp => ?_
  replace K1 := Aside0.mk (kFar hp K1.out (by omega))
  replace K2 := Aside0.mk (kOwn hp K2.out)
  replace HW := Aside0.mk (bFar hp HW.out (by omega))
  clear hp
  refine tK 4 4 hHeld ?_
  refine wpAnyH_done (by kernel_rfl) ?_ _
  go_wp2_with fail
  exact retK K1.out K2.out ⟨_, _, _, _, _, _, _, _, rfl, fun h => absurd h (by decide), fun _ => ⟨IsT.zero _, IsT.zero _⟩, HW.out⟩
theorem isT_shape {w : World} {k : Int} {P : Option Addr} {n m : Nat} {t : S43} (h : IsT w (.agg #[.int .i8 k, .slice P n m]) t) : k = t.f0 ∧ n = t.f1.length := by
  obtain ⟨A, c, e, -, -⟩ := h
  have : k = t.f0 ∧ P = A ∧ n = t.f1.length ∧ m = c := by simpa using e
  exact ⟨this.1, this.2.2.1⟩
set_option maxRecDepth 100000 in
set_option maxHeartbeats 3200000 in
theorem cocheck_s {x : S54} {v : Value} {w : World} (hx : IsC w v x) {ta tb : S43} {r : Int} (hn : Aside0 (decide (cnodes x ≤ 8192) = true)) (hd : Aside0 (¬ 200 < cdepth x)) (hs : Aside0 (endsC x = some (ta, tb))) (hr1 : Aside0 (checkI ta ≠ 0 → r = checkI ta)) (hr2 : Aside0 (checkI ta = 0 → r = checkI tb)) : Calls Tryd.prog 16 #[v] w (CheckQ r (some (ta, tb)) w) := by
  have HX := Aside0.mk hx
  obtain ⟨A2, c2, A4, c4, A7, c7, rfl, hl2, hC2, hl4, hC4, -, -⟩ := hx
  have HT := Aside0.mk (IsT.mk (k := x.f1.f0) hl2 hC2)
  have HU := Aside0.mk (IsT.mk (k := x.f2.f0) hl4 hC4)
  rw [S43.eta] at HT HU
  clear hl2 hC2 hl4 hC4
  obtain ⟨k0, k1, k2, hB⟩ := three w (.cells #[.int .i8 x.f0, .int .i8 x.f1.f0, .slice A2 x.f1.f1.length c2, .int .i8 x.f2.f0, .slice A4 x.f2.f1.length c4, .int .i64 x.f3, .bool x.f4, .slice A7 x.f5.length c7] 54) (.cells #[.int .i8 0, .slice none 0 0] 43) (.cells #[.int .i8 0, .slice none 0 0] 43)
  have K0 := Aside0.mk k0
  have K1 := Aside0.mk k1
  have K2 := Aside0.mk k2
  replace HX := Aside0.mk (HX.out.below hB)
  replace HT := Aside0.mk (HT.out.below hB)
  replace HU := Aside0.mk (HU.out.below hB)
  have HW := Aside0.mk hB
  clear hB k0 k1 k2
  clear HT HU
  go_enter Tryd.func16, Tryd.ntmps16
  go_wp2_with fail
  generalize ((w.alloc (.cells #[.int .i8 x.f0, .int .i8 x.f1.f0, .slice A2 x.f1.f1.length c2, .int .i8 x.f2.f0, .slice A4 x.f2.f1.length c4, .int .i64 x.f3, .bool x.f4, .slice A7 x.f5.length c7] 54)).alloc (.cells #[.int .i8 0, .slice none 0 0] 43)).alloc (.cells #[.int .i8 0, .slice none 0 0] 43) = w0 at *
  have HY := Aside0.mk (Below.refl w0.heap.size w0)
  refine (counted_calls (AtC_box K0.out HX.out)).mono ?_
  rintro e w1 ⟨rfl, hB⟩
  rw [hn.out]
  replace K0 := Aside0.mk (blk_below K0.out hB)
  replace K1 := Aside0.mk (blk_below K1.out hB)
  replace K2 := Aside0.mk (blk_below K2.out hB)
  replace HX := Aside0.mk (HX.out.below hB)
  replace HW := Aside0.mk (below_then HW.out HW.out.size hB)
  clear hB
  go_wp2_with fail
  refine (deep_calls (AtC_box K0.out HX.out) (of_decide_eq_true hn.out)).mono ?_
  rintro e w2 ⟨rfl, hB⟩
  replace K0 := Aside0.mk (blk_below K0.out hB)
  replace K1 := Aside0.mk (blk_below K1.out hB)
  replace K2 := Aside0.mk (blk_below K2.out hB)
  replace HX := Aside0.mk (HX.out.below hB)
  replace HW := Aside0.mk (below_then HW.out HW.out.size hB)
  clear hB
  have hgt : decide ((200 : Int) < min (cdepth x : Int) 201) = false := decide_eq_false (by have := hd.out; omega)
  go_wp2_with fail
  refine (coends_calls (AtC_box K0.out HX.out)).mono ?_
  rintro e w3 ⟨ka, Pa, na, ma, kb, Pb, nb, mb, rfl, him, hB⟩
  rw [hs.out] at him ⊢
  obtain ⟨hta, htb⟩ := him ta tb rfl
  obtain ⟨rfl, rfl⟩ := isT_shape hta
  obtain ⟨rfl, rfl⟩ := isT_shape htb
  have HTA := Aside0.mk hta
  have HTB := Aside0.mk htb
  clear hta htb him
  replace K0 := Aside0.mk (blk_below K0.out hB)
  replace K1 := Aside0.mk (blk_below K1.out hB)
  replace K2 := Aside0.mk (blk_below K2.out hB)
  replace HX := Aside0.mk (HX.out.below hB)
  replace HW := Aside0.mk (below_then HW.out HW.out.size hB)
  clear hB
  have hn3 := blk_lt K2.out
  have hB : Below w3.heap.size w3 ((w3.alloc (.cells #[.int .i8 ta.f0, .slice Pa ta.f1.length ma] 43)).alloc (.cells #[.int .i8 tb.f0, .slice Pb tb.f1.length mb] 43)) := ((Below.refl _ _).alloc (Nat.le_refl _) _).alloc (by simp) _
  have KA := Aside0.mk (blk_alloc (heap_alloc_new w3 (.cells #[.int .i8 ta.f0, .slice Pa ta.f1.length ma] 43)) (.cells #[.int .i8 tb.f0, .slice Pb tb.f1.length mb] 43))
  have KB : Aside0 (((w3.alloc (.cells #[.int .i8 ta.f0, .slice Pa ta.f1.length ma] 43)).alloc (.cells #[.int .i8 tb.f0, .slice Pb tb.f1.length mb] 43)).heap[w3.heap.size + 1]? = some (.cells #[.int .i8 tb.f0, .slice Pb tb.f1.length mb] 43 (0, 0))) := .mk (by have := heap_alloc_new (w3.alloc (.cells #[.int .i8 ta.f0, .slice Pa ta.f1.length ma] 43)) (.cells #[.int .i8 tb.f0, .slice Pb tb.f1.length mb] 43); simpa using this)
  replace K0 := Aside0.mk (blk_below K0.out hB)
  replace K1 := Aside0.mk (blk_below K1.out hB)
  replace K2 := Aside0.mk (blk_below K2.out hB)
  replace HTA := Aside0.mk (HTA.out.below hB)
  replace HTB := Aside0.mk (HTB.out.below hB)
  replace HW := Aside0.mk (below_then HW.out HW.out.size hB)
  clear hB
  have a0 := (blk_cell KA.out 0).trans rfl
  have a1 := (blk_cell KA.out 1).trans rfl
  simp at a0 a1
  have b0 := (blk_cell KB.out 0).trans rfl
  have b1 := (blk_cell KB.out 1).trans rfl
  simp at b0 b1
  have hB : Below ((w3.alloc (.cells #[.int .i8 ta.f0, .slice Pa ta.f1.length ma] 43)).alloc (.cells #[.int .i8 tb.f0, .slice Pb tb.f1.length mb] 43)).heap.size ((w3.alloc (.cells #[.int .i8 ta.f0, .slice Pa ta.f1.length ma] 43)).alloc (.cells #[.int .i8 tb.f0, .slice Pb tb.f1.length mb] 43)) (((w3.alloc (.cells #[.int .i8 ta.f0, .slice Pa ta.f1.length ma] 43)).alloc (.cells #[.int .i8 tb.f0, .slice Pb tb.f1.length mb] 43)).alloc (.cells #[.int .i8 ta.f0, .slice Pa ta.f1.length ma, .int .i8 tb.f0, .slice Pb tb.f1.length mb] 43)) := (Below.refl _ _).alloc (Nat.le_refl _) _
  have KS : Aside0 ((((w3.alloc (.cells #[.int .i8 ta.f0, .slice Pa ta.f1.length ma] 43)).alloc (.cells #[.int .i8 tb.f0, .slice Pb tb.f1.length mb] 43)).alloc (.cells #[.int .i8 ta.f0, .slice Pa ta.f1.length ma, .int .i8 tb.f0, .slice Pb tb.f1.length mb] 43)).heap[w3.heap.size + 1 + 1]? = some (.cells #[.int .i8 ta.f0, .slice Pa ta.f1.length ma, .int .i8 tb.f0, .slice Pb tb.f1.length mb] 43 (0, 0))) := .mk (by have := heap_alloc_new ((w3.alloc (.cells #[.int .i8 ta.f0, .slice Pa ta.f1.length ma] 43)).alloc (.cells #[.int .i8 tb.f0, .slice Pb tb.f1.length mb] 43)) (.cells #[.int .i8 ta.f0, .slice Pa ta.f1.length ma, .int .i8 tb.f0, .slice Pb tb.f1.length mb] 43); simpa using this)
  replace K0 := Aside0.mk (blk_below K0.out hB)
  replace K1 := Aside0.mk (blk_below K1.out hB)
  replace K2 := Aside0.mk (blk_below K2.out hB)
  replace KA := Aside0.mk (blk_below KA.out hB)
  replace KB := Aside0.mk (blk_below KB.out hB)
  replace HTA := Aside0.mk (HTA.out.below hB)
  replace HTB := Aside0.mk (HTB.out.below hB)
  replace HW := Aside0.mk (below_then HW.out HW.out.size hB)
  clear hB
  go_wp2_with fail
  clear a0 a1 b0 b1
  generalize ((w3.alloc (.cells #[.int .i8 ta.f0, .slice Pa ta.f1.length ma] 43)).alloc (.cells #[.int .i8 tb.f0, .slice Pb tb.f1.length mb] 43)).alloc (.cells #[.int .i8 ta.f0, .slice Pa ta.f1.length ma, .int .i8 tb.f0, .slice Pb tb.f1.length mb] 43) = w8 at *
  generalize w3.heap.size = n3 at *
  go_loopw [32] (fun i wr => ∃ j : Nat, i = .int .i64 j ∧ j ≤ 2 ∧ (1 ≤ j → checkI ta = 0) ∧ (2 ≤ j → checkI tb = 0) ∧ Below w8.heap.size w8 wr) (fun i _ => 2 - (intOf i).toNat)
  case atStart => exact ⟨0, rfl, by omega, fun h => absurd h (by omega), fun h => absurd h (by omega), Below.refl _ _⟩
  case round =>
    obtain ⟨j, rfl, hj, hca, hcb, hB⟩ := hrel
    have HCA := Aside0.mk hca
    have HCB := Aside0.mk hcb
    clear hca hcb
    have HL := Aside0.mk hB
    replace K0 := Aside0.mk (blk_below K0.out hB)
    replace K1 := Aside0.mk (blk_below K1.out hB)
    replace K2 := Aside0.mk (blk_below K2.out hB)
    replace KA := Aside0.mk (blk_below KA.out hB)
    replace KB := Aside0.mk (blk_below KB.out hB)
    replace KS := Aside0.mk (blk_below KS.out hB)
    replace HTA := Aside0.mk (HTA.out.below hB)
    replace HTB := Aside0.mk (HTB.out.below hB)
    replace HW := Aside0.mk (below_then HW.out HW.out.size hB)
    clear hB
    match j, hj with
    | 0, _ =>
      have s0 := (blk_cell KS.out 0).trans rfl
      have s1 := (blk_cell KS.out 1).trans rfl
      have s2 := (blk_cell KS.out 2).trans rfl
      have s3 := (blk_cell KS.out 3).trans rfl
      simp at s0 s1 s2 s3
      have hB : Below wr.heap.size wr (wr.alloc (.cells #[.int .i8 ta.f0, .slice Pa ta.f1.length ma] 43)) := (Below.refl _ _).alloc (Nat.le_refl _) _
      replace HL := Aside0.mk (below_then HL.out HL.out.size hB)
      replace K1 := Aside0.mk (blk_below K1.out hB)
      replace K2 := Aside0.mk (blk_below K2.out hB)
      replace HTA := Aside0.mk (HTA.out.below hB)
      replace HTB := Aside0.mk (HTB.out.below hB)
      replace HW := Aside0.mk (below_then HW.out HW.out.size hB)
      clear hB
      go_wp2_with fail
      clear s0 s1 s2 s3
      generalize wr.alloc (.cells #[.int .i8 ta.f0, .slice Pa ta.f1.length ma] 43) = w9 at *
      refine (Check_calls HTA.out).mono ?_
      rintro e w10 ⟨rfl, hB⟩
      replace HL := Aside0.mk (below_then HL.out HL.out.size hB)
      replace K1 := Aside0.mk (blk_below K1.out hB)
      replace K2 := Aside0.mk (blk_below K2.out hB)
      replace HW := Aside0.mk (below_then HW.out HW.out.size hB)
      clear hB
      by_cases hc : checkI ta = 0
      · have hne : (checkI ta != 0) = false := bne_eq_false_iff_eq.mpr hc
        go_wp2_with fail
        go_roundw
        case rel => exact ⟨1, by go_num, by omega, (fun _ => hc), fun h => absurd h (by omega), HL.out⟩
        case measure => simp [intOf]
      · have hne : (checkI ta != 0) = true := bne_iff_ne.mpr hc
        have hr := hr1.out hc
        go_wp2_with fail
        refine wp_region_held_drew (S := fun w' => w'.cell? ⟨w.heap.size + 1, 0, none⟩ = some (.int .i8 0) ∧ w'.cell? ⟨w.heap.size + 1, 1, none⟩ = some (.slice none 0 0) ∧ w'.cell? ⟨w.heap.size + 2, 0, none⟩ = some (.int .i8 0) ∧ w'.cell? ⟨w.heap.size + 2, 1, none⟩ = some (.slice none 0 0)) (by kernel_rfl) ⟨bcl K1.out, bcl K1.out, bcl K2.out, bcl K2.out⟩ (fun hHeld => ?_)
        have HZ := Aside0.mk ((Below.refl w10.heap.size w10).drew)
        replace HW := Aside0.mk (below_then HW.out HW.out.size HZ.out)
        generalize w10.drew = w9a at *
        refine tK 40 0 hHeld ?_
        refine tK 41 1 hHeld ?_
        refine tK 42 2 hHeld ?_
        replace K1 := Aside0.mk (blk_below K1.out HZ.out)
        replace K2 := Aside0.mk (blk_below K2.out HZ.out)
        clear HZ
        refine sK 3 K1.out ⟨bcl (kOwn rfl K1.out), bcl (kOwn rfl K1.out), far2 hHeld.2.2.1 (by omega), far2 hHeld.2.2.2 (by omega)⟩ fun w9b hHeld hp => ?_
        replace K2 := Aside0.mk (kFar hp K2.out (by omega))
        replace K1 := Aside0.mk (kOwn hp K1.out)
        replace HW := Aside0.mk (bFar hp HW.out (by omega))
        clear hp
        refine sK 4 K2.out ⟨far2 hHeld.1 (by omega), far2 hHeld.2.1 (by omega), bcl (kOwn rfl K2.out), bcl (kOwn rfl K2.out)⟩ fun w9c hHeld hp => ?_
        replace K1 := Aside0.mk (kFar hp K1.out (by omega))
        replace K2 := Aside0.mk (kOwn hp K2.out)
        replace HW := Aside0.mk (bFar hp HW.out (by omega))
        clear hp
        refine tK 4 5 hHeld ?_
        refine wpAnyH_done (by kernel_rfl) ?_ _
        go_wp2_with fail
        exact retK K1.out K2.out ⟨_, _, _, _, _, _, _, _, by rw [hr], fun h => absurd (hr.symm.trans h) hc, fun _ => ⟨IsT.zero _, IsT.zero _⟩, HW.out⟩
    | 1, _ =>
      have s0 := (blk_cell KS.out 0).trans rfl
      have s1 := (blk_cell KS.out 1).trans rfl
      have s2 := (blk_cell KS.out 2).trans rfl
      have s3 := (blk_cell KS.out 3).trans rfl
      simp at s0 s1 s2 s3
      have hB : Below wr.heap.size wr (wr.alloc (.cells #[.int .i8 tb.f0, .slice Pb tb.f1.length mb] 43)) := (Below.refl _ _).alloc (Nat.le_refl _) _
      replace HL := Aside0.mk (below_then HL.out HL.out.size hB)
      replace K1 := Aside0.mk (blk_below K1.out hB)
      replace K2 := Aside0.mk (blk_below K2.out hB)
      replace HTA := Aside0.mk (HTA.out.below hB)
      replace HTB := Aside0.mk (HTB.out.below hB)
      replace HW := Aside0.mk (below_then HW.out HW.out.size hB)
      clear hB
      go_wp2_with fail
      clear s0 s1 s2 s3
      generalize wr.alloc (.cells #[.int .i8 tb.f0, .slice Pb tb.f1.length mb] 43) = w9 at *
      refine (Check_calls HTB.out).mono ?_
      rintro e w10 ⟨rfl, hB⟩
      replace HL := Aside0.mk (below_then HL.out HL.out.size hB)
      replace K1 := Aside0.mk (blk_below K1.out hB)
      replace K2 := Aside0.mk (blk_below K2.out hB)
      replace HW := Aside0.mk (below_then HW.out HW.out.size hB)
      clear hB
      by_cases hc : checkI tb = 0
      · have hne : (checkI tb != 0) = false := bne_eq_false_iff_eq.mpr hc
        go_wp2_with fail
        go_roundw
        case rel => exact ⟨2, by go_num, by omega, (fun _ => HCA.out (by omega)), fun _ => hc, HL.out⟩
        case measure => simp [intOf]
      · have hne : (checkI tb != 0) = true := bne_iff_ne.mpr hc
        have hr := hr2.out (HCA.out (by omega))
        go_wp2_with fail
        refine wp_region_held_drew (S := fun w' => w'.cell? ⟨w.heap.size + 1, 0, none⟩ = some (.int .i8 0) ∧ w'.cell? ⟨w.heap.size + 1, 1, none⟩ = some (.slice none 0 0) ∧ w'.cell? ⟨w.heap.size + 2, 0, none⟩ = some (.int .i8 0) ∧ w'.cell? ⟨w.heap.size + 2, 1, none⟩ = some (.slice none 0 0)) (by kernel_rfl) ⟨bcl K1.out, bcl K1.out, bcl K2.out, bcl K2.out⟩ (fun hHeld => ?_)
        have HZ := Aside0.mk ((Below.refl w10.heap.size w10).drew)
        replace HW := Aside0.mk (below_then HW.out HW.out.size HZ.out)
        generalize w10.drew = w9a at *
        refine tK 40 0 hHeld ?_
        refine tK 41 1 hHeld ?_
        refine tK 42 2 hHeld ?_
        replace K1 := Aside0.mk (blk_below K1.out HZ.out)
        replace K2 := Aside0.mk (blk_below K2.out HZ.out)
        clear HZ
        refine sK 3 K1.out ⟨bcl (kOwn rfl K1.out), bcl (kOwn rfl K1.out), far2 hHeld.2.2.1 (by omega), far2 hHeld.2.2.2 (by omega)⟩ fun w9b hHeld hp => ?_
        replace K2 := Aside0.mk (kFar hp K2.out (by omega))
        replace K1 := Aside0.mk (kOwn hp K1.out)
        replace HW := Aside0.mk (bFar hp HW.out (by omega))
        clear hp
        refine sK 4 K2.out ⟨far2 hHeld.1 (by omega), far2 hHeld.2.1 (by omega), bcl (kOwn rfl K2.out), bcl (kOwn rfl K2.out)⟩ fun w9c hHeld hp => ?_
        replace K1 := Aside0.mk (kFar hp K1.out (by omega))
        replace K2 := Aside0.mk (kOwn hp K2.out)
        replace HW := Aside0.mk (bFar hp HW.out (by omega))
        clear hp
        refine tK 4 5 hHeld ?_
        refine wpAnyH_done (by kernel_rfl) ?_ _
        go_wp2_with fail
        exact retK K1.out K2.out ⟨_, _, _, _, _, _, _, _, by rw [hr], fun h => absurd (hr.symm.trans h) hc, fun _ => ⟨IsT.zero _, IsT.zero _⟩, HW.out⟩
    | 2, _ =>
      have hc1 := HCA.out (by omega)
      have hc2 := HCB.out (by omega)
      have hr : r = 0 := (hr2.out hc1).trans hc2
      have HR1 := Aside0.mk (check_nodes hc1)
      have HR2 := Aside0.mk (check_nodes hc2)
      clear hc1 hc2
      go_wp2_with fail
      refine (whole_calls (AtT_box KA.out HTA.out) (by have := HR1.out.1; omega)).mono ?_
      rintro e w9 ⟨v1, rfl, hv1, hB⟩
      have HV1 := Aside0.mk hv1
      clear hv1
      replace K1 := Aside0.mk (blk_below K1.out hB)
      replace K2 := Aside0.mk (blk_below K2.out hB)
      replace KB := Aside0.mk (blk_below KB.out hB)
      replace HTB := Aside0.mk (HTB.out.below hB)
      replace HW := Aside0.mk (below_then HW.out HW.out.size hB)
      clear hB
      go_wp2_with fail
      refine (whole_calls (AtT_box KB.out HTB.out) (by have := HR2.out.1; omega)).mono ?_
      rintro e w10 ⟨v2, rfl, hv2, hB⟩
      have HV2 := Aside0.mk hv2
      clear hv2
      replace K1 := Aside0.mk (blk_below K1.out hB)
      replace K2 := Aside0.mk (blk_below K2.out hB)
      replace HV1 := Aside0.mk (HV1.out.below hB)
      replace HW := Aside0.mk (below_then HW.out HW.out.size hB)
      clear hB
      have HV1' := HV1.out
      have HV2' := HV2.out
      obtain ⟨Q1, q1, rfl, -⟩ := HV1'
      obtain ⟨Q2, q2, rfl, -⟩ := HV2'
      have c0 := (blk_cell K1.out 0).trans rfl
      have c1 := (blk_cell K1.out 1).trans rfl
      have z0 := blk_frozen K1.out 0
      have z1 := blk_frozen K1.out 1
      simp at c0 c1
      have d0 := (blk_cell K2.out 0).trans rfl
      have d1 := (blk_cell K2.out 1).trans rfl
      have y0 := blk_frozen K2.out 0
      have y1 := blk_frozen K2.out 1
      simp at d0 d1
      go_wp2_with fail
      exact retK (put_two_far (put_two K1.out _ _) (by omega) _ _) (put_two (put_two_far K2.out (by omega) _ _) _ _) ⟨_, _, _, _, _, _, _, _, by rw [hr], (fun _ ta' tb' h => by cases h; exact ⟨isT_far (put_two_far K2.out (by omega) _ _) (kept2 _ _ _ _) HR1.out.2.2 (isT_far K1.out (kept2 _ _ _ _) HR1.out.2.2 HV1.out), isT_far (put_two_far K2.out (by omega) _ _) (kept2 _ _ _ _) HR2.out.2.2 (isT_far K1.out (kept2 _ _ _ _) HR2.out.2.2 HV2.out)⟩), fun h => absurd hr h, (((HW.out.setCell (Nat.le_add_right _ 1) _).setCell (Nat.le_add_right _ 1) _).setCell (Nat.le_add_right _ 2) _).setCell (Nat.le_add_right _ 2) _⟩
end Go.Proofs.YtjmpejbciniceaaDoor.X
namespace Go.Proofs.YtjmpejbciniceaaDoor.X
open Go.RowKit Go.Proofs.YtjmpejbciniceaaDoorW.PrintWords Go.Proofs.YtjmpejbciniceaaDoorW.PrintLast Go.Proofs.YtjmpejbciniceaaDoorW.PrintMore
set_option linter.unusedVariables false
set_option linter.unusedSimpArgs false
theorem cocheck_calls {x : S54} {v : Value} {w : World} (hx : IsC w v x) : Calls Tryd.prog 16 #[v] w (CheckQ (cocheckI x) (endsC x) w) := by
  unfold cocheckI
  by_cases hn : 8192 < cnodes x
  · rw [if_pos hn]
    exact cocheck_n hx ⟨decide_eq_false (by omega)⟩
  · rw [if_neg hn]
    have hn' : Aside0 (decide (cnodes x ≤ 8192) = true) := ⟨decide_eq_true (by omega)⟩
    by_cases hd : 200 < cdepth x
    · rw [if_pos hd]
      exact cocheck_d hx hn' ⟨hd⟩
    · rw [if_neg hd]
      cases hs : endsC x with
      | none => exact cocheck_e hx hn' ⟨hd⟩ ⟨hs⟩
      | some v =>
        obtain ⟨ta, tb⟩ := v
        simp only
        exact cocheck_s hx hn' ⟨hd⟩ ⟨hs⟩ ⟨fun h => if_neg h⟩ ⟨fun h => if_pos h⟩
end Go.Proofs.YtjmpejbciniceaaDoor.X
namespace Go.Proofs.YtjmpejbciniceaaDoor.X
open Go.RowKit Go.Proofs.YtjmpejbciniceaaDoorW.PrintWords Go.Proofs.YtjmpejbciniceaaDoorW.PrintLast Go.Proofs.YtjmpejbciniceaaDoorW.PrintMore
set_option linter.unusedVariables false
set_option linter.unusedSimpArgs false
def tightI (k : Int) : Int := if k = 3 then 1 else if k = 4 then 3 else if k = 5 then 2 else 4
def signL (k : Int) : List UInt8 := if k = 0 then [63] else if k = 1 then [105, 110, 116] else if k = 2 then [98, 111, 111, 108] else if k = 3 then [32, 45, 62, 32] else if k = 4 then [32, 42, 32] else [32, 43, 32]
def signS (k : Int) : ByteArray := ⟨(signL k).toArray⟩
theorem signS_list (k : Int) : (signS k).data.toList = signL k := rfl
theorem kind_cases {k : Int} (h : leafK k ∨ nodeK k) : k = 0 ∨ k = 1 ∨ k = 2 ∨ k = 3 ∨ k = 4 ∨ k = 5 := by
  rcases h with h | h <;> rcases h with rfl | rfl | rfl <;> simp
theorem tight_calls {k : Int} (h : leafK k ∨ nodeK k) (w : World) : Calls Tryd.prog 113 #[.int .i8 k] w fun e w' => e = .returned (.int .i64 (tightI k)) ∧ Below w.heap.size w w' := by
  rcases kind_cases h with rfl | rfl | rfl | rfl | rfl | rfl
  all_goals
    go_enter Tryd.func113, Tryd.ntmps113
    go_wp2_with fail
    go_ret
    exact ⟨rfl, (Below.refl _ _).alloc (Nat.le_refl _) _⟩
theorem sign_calls {k : Int} (h : leafK k ∨ nodeK k) (w : World) : Calls Tryd.prog 114 #[.int .i8 k] w fun e w' => e = .returned (.string (signS k)) ∧ Below w.heap.size w w' := by
  rcases kind_cases h with rfl | rfl | rfl | rfl | rfl | rfl
  all_goals
    go_enter Tryd.func114, Tryd.ntmps114
    go_wp2_with fail
    go_ret
    exact ⟨rfl, (Below.refl _ _).alloc (Nat.le_refl _) _⟩
end Go.Proofs.YtjmpejbciniceaaDoor.X
namespace Go.Proofs.YtjmpejbciniceaaDoor.X
open Go.RowKit Go.Proofs.YtjmpejbciniceaaDoorW.PrintWords Go.Proofs.YtjmpejbciniceaaDoorW.PrintLast Go.Proofs.YtjmpejbciniceaaDoorW.PrintMore
set_option linter.unusedVariables false
set_option linter.unusedSimpArgs false
theorem info5 : (Tryd.prog.info? 5).map (fun i => (i.zero, i.size, i.bytes)) = some (some (.int .u8 0), 1, 1) := by kernel_rfl
def cellsU (l : List UInt8) : List Value := l.map fun b => Value.int .u8 b.toNat
theorem cellsU_append (l m : List UInt8) : cellsU (l ++ m) = cellsU l ++ cellsU m := List.map_append
structure Grew (v : Value) (w : World) (v' : Value) (w' : World) : Prop where
  by_ : w.grownBy w' v.ownBlock
  at_ : v'.ownBlock = v.ownBlock ∨ ∃ g, v'.ownBlock = some g ∧ w.heap.size ≤ g
theorem Grew.refl (v : Value) (w : World) : Grew v w v w := ⟨⟨rfl, rfl, rfl, Nat.le_refl _, fun _ _ _ => rfl⟩, .inl rfl⟩
theorem Grew.trans {v w v1 w1 v2 w2} (h : Grew v w v1 w1) (k : Grew v1 w1 v2 w2) : Grew v w v2 w2 := by
  refine ⟨⟨k.by_.os.trans h.by_.os, k.by_.tape.trans h.by_.tape, k.by_.output.trans h.by_.output, Nat.le_trans h.by_.size k.by_.size, fun i hi hne => ?_⟩, ?_⟩
  · rw [k.by_.block i (Nat.lt_of_lt_of_le hi h.by_.size) ?_, h.by_.block i hi hne]
    rcases h.at_ with e | ⟨g, e, hg⟩
    · rw [e]; exact hne
    · rw [e]; intro he; injection he with he; omega
  · rcases k.at_ with e | ⟨g, e, hg⟩
    · rw [e]; exact h.at_
    · exact .inr ⟨g, e, Nat.le_trans h.by_.size hg⟩
theorem Grew.below {v : Value} {w w' : World} (h : Below w.heap.size w w') : Grew v w v w' :=
  ⟨⟨h.os, h.tape, h.output, h.size, fun i hi _ => h.block i hi⟩, .inl rfl⟩
theorem Grew.keep {v : Value} {w : World} {v' : Value} {w' : World} (h : Grew v w v' w') {g : Nat} {b : Obj} (hg : w.heap[g]? = some b) (hne : v.ownBlock ≠ some g) : w'.heap[g]? = some b ∧ v'.ownBlock ≠ some g := by
  have hlt : g < w.heap.size := (Array.getElem?_eq_some_iff.1 hg).1
  refine ⟨(h.by_.block g hlt (fun e => hne e.symm)).trans hg, ?_⟩
  rcases h.at_ with e | ⟨k, e, hk⟩
  · rw [e]; exact hne
  · rw [e]; intro he; injection he with he; omega
structure OwnB (W0 : World) (v : Value) (l : List UInt8) (w : World) : Prop where
  row : w.ownsRow W0.heap.size 5 1 v l.length (cellsU l)
  below : Below W0.heap.size W0 w
theorem OwnB.nil (w : World) : OwnB w (.slice none 0 0) [] w := ⟨World.ownsRow_nil _ _ _ _, Below.refl _ _⟩
theorem ownsRow_below {w w' : World} {base e size n : Nat} {v : Value} {xs : List Value} (h : w.ownsRow base e size v n xs) (hb : Below w.heap.size w w') : w'.ownsRow base e size v n xs :=
  ⟨h.1, h.2.imp id fun ⟨g, cap, cur, h1, h2, h3, h4⟩ => ⟨g, cap, cur, h1, h2, (hb.block g (Array.getElem?_eq_some_iff.1 h3).1).trans h3, h4⟩⟩
theorem OwnB.after {W0 : World} {v : Value} {l : List UInt8} {w w' : World} (h : OwnB W0 v l w) (hb : Below w.heap.size w w') : OwnB W0 v l w' :=
  ⟨ownsRow_below h.row hb, below_then h.below h.below.size hb⟩
theorem OwnB.grown {W0 : World} {v v' : Value} {l l' : List UInt8} {w w' : World} (h : OwnB W0 v l w) (ho : w'.ownsRow W0.heap.size 5 1 v' l'.length (cellsU l')) (hg : w.grownBy w' v.ownBlock) : OwnB W0 v' l' w' :=
  ⟨ho, h.below.grown hg h.below.size (fun k hk => (h.row.lt k hk).1)⟩
theorem text_at {w : World} {base : Nat} {v : Value} {n : Nat} {xs : List Value} {ty : TypeId} (hown : w.ownsRow base 5 1 v n xs) (s : ByteArray) (hlen : n + s.size ≤ 1000000000) {v' : Value} {w' : World}
    (hr : (Builtin.append_ #[111, 9] ty #[v, .string s]).run Tryd.prog w = .ok v' w') : v'.ownBlock = v.ownBlock ∨ v'.ownBlock = some w.heap.size := by
  obtain ⟨i0, hi, hz, hz1, hz2⟩ := info_parts info5
  have hxl : xs.length = n := by simpa using hown.1
  rcases hown.2 with ⟨rfl, rfl⟩ | ⟨g, cap, cur, rfl, hbg, hg, hnc, hcm, hcs, htake⟩
  · by_cases hm : s.size = 0
    · obtain ⟨v2, w2, h2, _, _, h4⟩ := Lib.run_append_own_string (P := Tryd.prog) w 0 111 9 ty 5 i0 Tryd.underlying111 Tryd.underlying9 hi hz hz1 hz2 _ 0 xs ⟨by simpa using hxl, .inl ⟨rfl, rfl⟩⟩ s (by unfold maxLen; omega) (by omega) (Nat.zero_le _)
      rw [hr] at h2
      injection h2 with h2 h3
      subst h2
      rw [h4.2 ⟨rfl, hm⟩]
      exact .inl rfl
    · have h2 := run_append_nil_string (P := Tryd.prog) w 111 9 ty 5 i0 (.int .u8 0) Tryd.underlying111 Tryd.underlying9 hi hz s (by omega) (by omega) (by rw [hz2]; omega)
      rw [hr] at h2
      injection h2 with h2 h3
      subst h2
      exact .inr rfl
  · by_cases hroom : n + s.size ≤ cap
    · have h2 := Lib.run_append_room_string (P := Tryd.prog) w 111 9 ty 5 i0 Tryd.underlying111 Tryd.underlying9 hi hz1 g n cap cur hg s hroom (by omega)
      rw [hr] at h2
      injection h2 with h2 h3
      subst h2
      exact .inl rfl
    · have h2 := Lib.run_append_grow_string (P := Tryd.prog) w 111 9 ty 5 i0 (.int .u8 0) Tryd.underlying111 Tryd.underlying9 hi hz ⟨g, 0, none⟩ n cap xs (by rw [hz1]; simpa using hxl) (hown.cells (g := g) rfl) s (by omega) (by omega) (by rw [hz2]; exact growslice_fits (by omega) (by omega))
      rw [hr] at h2
      injection h2 with h2 h3
      subst h2
      exact .inr rfl
theorem wpList_text {ops : Array Oper} {rest : List Oper} {o : Oper} {a : Act} {Q : Exit → Act → World → Prop} {w : World} (hgd : o.guard = none) (sl x : Operand)
    (ho : o.op = .call { callee := .builtin .append, args := #[sl, x], argTypes := #[111, 9] })
    {W0 : World} {v : Value} {l : List UInt8} (hs : a.eval sl = v) (hb : OwnB W0 v l w) (s : ByteArray) (hx : a.eval x = .string s) (hlen : l.length + s.size ≤ 1000000000)
    (h : ∀ v' w', OwnB W0 v' (l ++ s.data.toList) w' → Grew v w v' w' → wpList Tryd.prog ops Q rest (a.put o.dst v') w') : wpList Tryd.prog ops Q (o :: rest) a w := by
  obtain ⟨i0, hi, hz, hz1, hz2⟩ := info_parts info5
  refine wpList_plain hgd fun K hK => ?_
  obtain ⟨v', w', hr, h2, h3, h4⟩ := Lib.run_append_own_string (P := Tryd.prog) w W0.heap.size 111 9 o.type 5 i0 Tryd.underlying111 Tryd.underlying9 hi hz hz1 hz2 v l.length (cellsU l) hb.row s (by unfold maxLen; omega) (by omega) hb.below.size
  have hat := text_at hb.row s hlen hr
  unfold Oper.wp execOp
  simp only [ho, resolve, invoke, builtin, Sem.run_bind, Sem.run_pure, Result.andThen_ok, List.map_toArray, List.map_cons, List.map_nil, hs, hx, hr]
  refine hK _ _ (h v' w' (hb.grown ?_ h3) ⟨h3, hat.imp id fun e => ⟨_, e, Nat.le_refl _⟩⟩)
  have e1 : (l ++ s.data.toList).length = l.length + s.size := by simp
  rw [e1, cellsU_append]
  exact h2
theorem wp_byte {o : Oper} {a : Act} {K : Act → World → Prop} {Q : Exit → Act → World → Prop} {w : World} (sl x : Operand) {d : Option Tmp} (hd : o.dst = d)
    (ho : o.op = .call { callee := .builtin .append, args := #[sl, x], argTypes := #[111, 111] })
    {W0 : World} {v : Value} {l : List UInt8} (hs : a.eval sl = v) (hb : OwnB W0 v l w) (g : Nat) (c : UInt8) (hx : a.eval x = .slice (some ⟨g, 0, none⟩) 1 1) (hg : w.heap[g]? = some (.cells #[.int .u8 c.toNat] 5 (0, 0))) (hlen : l.length + 1 ≤ 1000000000)
    (h : ∀ v' w', OwnB W0 v' (l ++ [c]) w' → Grew v w v' w' → K (a.put d v') w') : o.wp Tryd.prog a w K Q := by
  subst hd
  obtain ⟨i0, hi, hz, hz1, hz2⟩ := info_parts info5
  obtain ⟨v', w', hr, h2, h3, h4, h5⟩ := run_append_own_at (P := Tryd.prog) w W0.heap.size 111 o.type 5 i0 (.int .u8 0) 1 1 Tryd.underlying111 hi hz hz1 hz2 rfl (by omega) v l.length (cellsU l) hb.row ⟨g, 0, none⟩ 1 1 [.int .u8 c.toNat] rfl
    (by intro j u hj; match j, hj with
        | 0, hj => simp at hj; subst hj; simpa [Addr.add] using (blk_cell hg 0)
        | (j + 1), hj => simp at hj)
    (by intro u hu; simp at hu; subst hu; rfl) (by unfold maxLen; omega) (by omega) hb.below.size
  unfold Oper.wp execOp
  simp only [ho, resolve, invoke, builtin, Sem.run_bind, Sem.run_pure, Result.andThen_ok, List.map_toArray, List.map_cons, List.map_nil, hs, hx, hr]
  refine h v' w' (hb.grown ?_ h3) ⟨h3, h5.imp id fun e => ⟨_, e, Nat.le_refl _⟩⟩
  have e1 : (l ++ [c]).length = l.length + 1 := by simp
  rw [e1, cellsU_append]
  exact h2
theorem bytes_back {W0 w : World} {v : Value} {l : List UInt8} (hb : OwnB W0 v l w) (hl : l ≠ []) : (convert 111 9 v).run Tryd.prog w = .ok (.string ⟨l.toArray⟩) w := by
  rcases hb.row.2 with ⟨rfl, h0⟩ | ⟨g, cap, cur, rfl, hbg, hg, hnc, hcm, hcs, htake⟩
  · exact absurd (List.eq_nil_of_length_eq_zero h0) hl
  · refine run_convert_bytes_back w 111 9 5 ⟨g, 0, none⟩ cap l Tryd.underlying111 Tryd.underlying5 Tryd.underlying9 (fun j hj => ?_)
    refine hb.row.cells (g := g) rfl j _ ?_
    simp [cellsU, List.getElem?_eq_getElem hj]
end Go.Proofs.YtjmpejbciniceaaDoor.X
namespace Go.Proofs.YtjmpejbciniceaaDoor.X
open Go.RowKit Go.Proofs.YtjmpejbciniceaaDoorW.PrintWords Go.Proofs.YtjmpejbciniceaaDoorW.PrintLast Go.Proofs.YtjmpejbciniceaaDoorW.PrintMore
set_option linter.unusedVariables false
set_option linter.unusedSimpArgs false
def brk (b : Bool) (t : List UInt8) : List UInt8 := if b then 40 :: (t ++ [41]) else t
def parC (p : Int × List UInt8) (least : Int) : List UInt8 := brk (decide (tightI p.1 < least)) p.2
def leftI (k : Int) : Int := if k = 3 then tightI k + 1 else tightI k
def rightI (k : Int) : Int := if k = 3 then tightI k else tightI k + 1
def joinT (k : Int) : List (Int × List UInt8) → List UInt8
  | [p, q] => parC p (leftI k) ++ signL k ++ parC q (rightI k)
  | _ => signL k
mutual
def core : S43 → List UInt8
  | ⟨k, l⟩ => joinT k (coreL l)
def coreL : List S43 → List (Int × List UInt8)
  | [] => []
  | x :: l => (x.f0, core x) :: coreL l
end
def parT (t : S43) (least : Int) : List UInt8 := brk (decide (tightI t.f0 < least)) (core t)
theorem core_leaf (k : Int) : core ⟨k, []⟩ = signL k := by simp [core, coreL, joinT]
theorem core_two (k : Int) (x y : S43) : core ⟨k, [x, y]⟩ = parT x (leftI k) ++ signL k ++ parT y (rightI k) := by simp [core, coreL, joinT, parC, parT]
theorem brk_len (b : Bool) (t : List UInt8) : (brk b t).length ≤ t.length + 2 := by unfold brk; split <;> simp
theorem signL_len (k : Int) : (signL k).length ≤ 4 ∧ 1 ≤ (signL k).length := by
  unfold signL
  by_cases h0 : k = 0
  · simp [h0]
  by_cases h1 : k = 1
  · simp [h1]
  by_cases h2 : k = 2
  · simp [h2]
  by_cases h3 : k = 3
  · simp [h3]
  by_cases h4 : k = 4 <;> simp [h0, h1, h2, h3, h4]
theorem signS_len {l : List UInt8} (h : l.length ≤ 200000000) (k : Int) : l.length + (signS k).size ≤ 1000000000 := by
  have : (signS k).size = (signL k).length := by simp [signS, ByteArray.size]
  have := (signL_len k).1
  omega
theorem core_len (t : S43) (h : rightB t = true) : (core t).length + 2 ≤ 6 * nodes t := by
  refine right_ind (P := fun t => (core t).length + 2 ≤ 6 * nodes t) (fun k hk => ?_) (fun k a b hk ha hb h1 h2 => ?_) t h
  · rw [core_leaf, nodes_leaf]; have := (signL_len k).1; omega
  · rw [core_two, nodes_two]
    have := (signL_len k).1
    have h3 := brk_len (decide (tightI a.f0 < leftI k)) (core a)
    have h4 := brk_len (decide (tightI b.f0 < rightI k)) (core b)
    simp only [parT, List.length_append]
    omega
theorem parT_len (t : S43) (l : Int) (h : rightB t = true) : (parT t l).length ≤ 6 * nodes t := by
  have h1 := core_len t h
  have h2 := brk_len (decide (tightI t.f0 < l)) (core t)
  unfold parT
  omega
theorem core_ne (t : S43) (h : rightB t = true) : core t ≠ [] := by
  intro e
  rcases right_cases h with ⟨k, hk, rfl⟩ | ⟨k, a, b, hk, ha, hb, rfl⟩
  · rw [core_leaf] at e; have := (signL_len k).2; rw [e] at this; simp at this
  · rw [core_two] at e; have := (signL_len k).2; have h2 := congrArg List.length e; simp only [List.length_append, List.length_nil] at h2; omega
theorem parT_own {t : S43} {l : Int} (h : l ≤ tightI t.f0) : parT t l = core t := by
  unfold parT brk; rw [if_neg]; simp; omega
theorem parT_brk {t : S43} {l : Int} (h : tightI t.f0 < l) : parT t l = 40 :: (core t ++ [41]) := by
  unfold parT brk; rw [if_pos]; simp; omega
def WPost (W0 : World) (v : Value) (w : World) (l : List UInt8) (e : Ending) (w' : World) : Prop := ∃ v', e = .returned v' ∧ OwnB W0 v' l w' ∧ Grew v w v' w'
theorem OwnB.ne {W0 : World} {v : Value} {l : List UInt8} {w : World} (h : OwnB W0 v l w) : v.ownBlock ≠ some w.heap.size := by
  intro e
  have := (h.row.lt _ e).2
  omega
set_option maxRecDepth 100000 in
set_option maxHeartbeats 1600000 in
theorem write_leaf (k : Int) (hk : leafK k) (least : Int) (h4 : least ≤ 4) (h0 : 0 ≤ least) (v : Value) (l : List UInt8) (W0 w : World) (A : Option Addr) (c : Nat) (HO : Aside0 (OwnB W0 v l w)) (HLEN : Aside0 (l.length ≤ 100000000)) :
    Calls Tryd.prog 73 #[v, .agg #[.int .i8 k, .slice A 0 c], .int .i64 least] w (WPost W0 v w (l ++ signL k)) := by
  rcases hk with rfl | rfl | rfl
  · go_enter Tryd.func73, Tryd.ntmps73
    go_wp2_with fail
    refine (tight_calls (k := 0) (by simp [leafK]) _).mono ?_
    rintro e w1 ⟨rfl, hB⟩
    rw [show tightI 0 = 4 from rfl]
    obtain ⟨k1, hB1⟩ := one_block hB
    have K1 := Aside0.mk k1
    have G1 := Aside0.mk (Grew.below (v := v) hB1)
    replace HO := Aside0.mk (HO.out.after hB1)
    clear hB hB1 k1
    have e10 := (blk_cell K1.out 0).trans rfl
    have e11 := (blk_cell K1.out 1).trans rfl
    simp at e10 e11
    go_wp2_with fail
    refine (sign_calls (k := 0) (by simp [leafK]) _).mono ?_
    rintro e w2 ⟨rfl, hB⟩
    replace G1 := Aside0.mk (G1.out.trans (Grew.below hB))
    replace HO := Aside0.mk (HO.out.after hB)
    clear hB e10 e11
    go_wp2_with (at_builtin; refine wpList_text rfl _ _ rfl rfl HO.out _ rfl (signS_len (by have := HLEN.out; omega) _) ?_; intro v' w3 hO3 hG3; replace HO := Aside0.mk hO3; replace G1 := Aside0.mk (G1.out.trans hG3); clear hO3 hG3)
    go_ret
    exact ⟨v', rfl, HO.out, G1.out⟩
  · go_enter Tryd.func73, Tryd.ntmps73
    go_wp2_with fail
    refine (tight_calls (k := 1) (by simp [leafK]) _).mono ?_
    rintro e w1 ⟨rfl, hB⟩
    rw [show tightI 1 = 4 from rfl]
    obtain ⟨k1, hB1⟩ := one_block hB
    have K1 := Aside0.mk k1
    have G1 := Aside0.mk (Grew.below (v := v) hB1)
    replace HO := Aside0.mk (HO.out.after hB1)
    clear hB hB1 k1
    have e10 := (blk_cell K1.out 0).trans rfl
    have e11 := (blk_cell K1.out 1).trans rfl
    simp at e10 e11
    go_wp2_with fail
    refine (sign_calls (k := 1) (by simp [leafK]) _).mono ?_
    rintro e w2 ⟨rfl, hB⟩
    replace G1 := Aside0.mk (G1.out.trans (Grew.below hB))
    replace HO := Aside0.mk (HO.out.after hB)
    clear hB e10 e11
    go_wp2_with (at_builtin; refine wpList_text rfl _ _ rfl rfl HO.out _ rfl (signS_len (by have := HLEN.out; omega) _) ?_; intro v' w3 hO3 hG3; replace HO := Aside0.mk hO3; replace G1 := Aside0.mk (G1.out.trans hG3); clear hO3 hG3)
    go_ret
    exact ⟨v', rfl, HO.out, G1.out⟩
  · go_enter Tryd.func73, Tryd.ntmps73
    go_wp2_with fail
    refine (tight_calls (k := 2) (by simp [leafK]) _).mono ?_
    rintro e w1 ⟨rfl, hB⟩
    rw [show tightI 2 = 4 from rfl]
    obtain ⟨k1, hB1⟩ := one_block hB
    have K1 := Aside0.mk k1
    have G1 := Aside0.mk (Grew.below (v := v) hB1)
    replace HO := Aside0.mk (HO.out.after hB1)
    clear hB hB1 k1
    have e10 := (blk_cell K1.out 0).trans rfl
    have e11 := (blk_cell K1.out 1).trans rfl
    simp at e10 e11
    go_wp2_with fail
    refine (sign_calls (k := 2) (by simp [leafK]) _).mono ?_
    rintro e w2 ⟨rfl, hB⟩
    replace G1 := Aside0.mk (G1.out.trans (Grew.below hB))
    replace HO := Aside0.mk (HO.out.after hB)
    clear hB e10 e11
    go_wp2_with (at_builtin; refine wpList_text rfl _ _ rfl rfl HO.out _ rfl (signS_len (by have := HLEN.out; omega) _) ?_; intro v' w3 hO3 hG3; replace HO := Aside0.mk hO3; replace G1 := Aside0.mk (G1.out.trans hG3); clear hO3 hG3)
    go_ret
    exact ⟨v', rfl, HO.out, G1.out⟩
def WriteIH (n : Nat) : Prop := ∀ (t : S43) (least : Int) (v : Value) (l : List UInt8) (W0 w : World) (vt : Value), nodes t < n → rightB t = true → IsT W0 vt t → 0 ≤ least → least ≤ 4 → OwnB W0 v l w → l.length + 6 * nodes t ≤ 100000000 →
    Calls Tryd.prog 73 #[v, vt, .int .i64 least] w (WPost W0 v w (l ++ parT t least))
set_option maxRecDepth 100000 in
set_option maxHeartbeats 1600000 in
theorem write_node (n : Nat) (k : Int) (x y : S43) (hk : nodeK k) (least : Int) (h4 : least ≤ tightI k) (h0 : 0 ≤ least) (v : Value) (l : List UInt8) (W0 w : World) (vt : Value) (IH : Aside0 (WriteIH n)) (HN : Aside0 (nodes ⟨k, [x, y]⟩ < n + 1)) (HX : Aside0 (rightB x = true)) (HY : Aside0 (rightB y = true)) (HT : Aside0 (IsT W0 vt ⟨k, [x, y]⟩)) (HO : Aside0 (OwnB W0 v l w)) (HLEN : Aside0 (l.length + 6 * nodes ⟨k, [x, y]⟩ ≤ 100000001)) :
    Calls Tryd.prog 73 #[v, vt, .int .i64 least] w (WPost W0 v w (l ++ core ⟨k, [x, y]⟩)) := by
  rcases hk with rfl | rfl | rfl
  · replace h4 : least ≤ 1 := h4
    obtain ⟨ad, c, Bx, dx, By, dy, rfl, hF, hX, hY, _⟩ := HT.out.open2
    have HF := Aside0.mk hF
    have TX := Aside0.mk hX
    have TY := Aside0.mk hY
    have ne := HO.out.ne
    have NE := Aside0.mk ne
    clear HT hF hX hY ne
    go_enter Tryd.func73, Tryd.ntmps73
    go_wp2_with fail
    refine (tight_calls (k := 3) (by simp [nodeK]) _).mono ?_
    rintro e w1 ⟨rfl, hB⟩
    rw [show tightI 3 = 1 from rfl]
    obtain ⟨k1, hB1⟩ := one_block hB
    have K1 := Aside0.mk k1
    have G1 := Aside0.mk (Grew.below (v := v) hB1)
    replace HO := Aside0.mk (HO.out.after hB1)
    clear hB hB1 k1
    have e10 := (blk_cell K1.out 0).trans rfl
    have e11 := (blk_cell K1.out 1).trans rfl
    simp at e10 e11
    obtain ⟨c0, c1, c2, c3⟩ := four_of HF.out HO.out.below
    go_wp2_with fail
    refine (IH.out x 2 v l W0 w1 _ (by have := nodes_pos y; have := HN.out; rw [nodes_two] at this; omega) HX.out TX.out (by omega) (by omega) HO.out (by have := HLEN.out; rw [nodes_two] at this; omega)).mono ?_
    rintro e w2 ⟨v2, rfl, hO, hG⟩
    have hk := hG.keep K1.out NE.out
    replace K1 := Aside0.mk hk.1
    replace NE := Aside0.mk hk.2
    replace G1 := Aside0.mk (G1.out.trans hG)
    replace HO := Aside0.mk hO
    clear hO hG hk e10 e11 c0 c1 c2 c3
    have e10 := (blk_cell K1.out 0).trans rfl
    have e11 := (blk_cell K1.out 1).trans rfl
    simp at e10 e11
    go_wp2_with fail
    refine (sign_calls (k := 3) (by simp [nodeK]) _).mono ?_
    rintro e w3 ⟨rfl, hB⟩
    replace K1 := Aside0.mk (blk_below K1.out hB)
    replace G1 := Aside0.mk (G1.out.trans (Grew.below hB))
    replace HO := Aside0.mk (HO.out.after hB)
    clear hB e10 e11
    go_wp2_with (at_builtin; refine wpList_text rfl _ _ rfl rfl HO.out _ rfl (signS_len (by have := HLEN.out; have := parT_len x 2 HX.out; rw [nodes_two] at *; simp only [List.length_append]; omega) _) ?_; intro v3 w4 hO3 hG3; have hk := hG3.keep K1.out NE.out; replace K1 := Aside0.mk hk.1; replace NE := Aside0.mk hk.2; replace HO := Aside0.mk hO3; replace G1 := Aside0.mk (G1.out.trans hG3); clear hO3 hG3 hk; have e10 := (blk_cell K1.out 0).trans rfl; have e11 := (blk_cell K1.out 1).trans rfl; simp at e10 e11; obtain ⟨c0, c1, c2, c3⟩ := four_of HF.out HO.out.below)
    refine (IH.out y 1 v3 _ W0 w4 _ (by have := nodes_pos x; have := HN.out; rw [nodes_two] at this; omega) HY.out TY.out (by omega) (by omega) HO.out (by have := HLEN.out; have := parT_len x 2 HX.out; have := (signL_len 3).1; rw [nodes_two] at *; simp only [List.length_append, signS_list]; omega)).mono ?_
    rintro e w5 ⟨v5, rfl, hO, hG⟩
    replace G1 := Aside0.mk (G1.out.trans hG)
    replace HO := Aside0.mk hO
    clear hO hG e10 e11 c0 c1 c2 c3
    go_wp2_with fail
    go_ret
    refine ⟨v5, rfl, ?_, G1.out⟩
    have hh := HO.out
    rw [signS_list, List.append_assoc, List.append_assoc] at hh
    rw [core_two, List.append_assoc]
    exact hh
  · replace h4 : least ≤ 3 := h4
    obtain ⟨ad, c, Bx, dx, By, dy, rfl, hF, hX, hY, _⟩ := HT.out.open2
    have HF := Aside0.mk hF
    have TX := Aside0.mk hX
    have TY := Aside0.mk hY
    have ne := HO.out.ne
    have NE := Aside0.mk ne
    clear HT hF hX hY ne
    go_enter Tryd.func73, Tryd.ntmps73
    go_wp2_with fail
    refine (tight_calls (k := 4) (by simp [nodeK]) _).mono ?_
    rintro e w1 ⟨rfl, hB⟩
    rw [show tightI 4 = 3 from rfl]
    obtain ⟨k1, hB1⟩ := one_block hB
    have K1 := Aside0.mk k1
    have G1 := Aside0.mk (Grew.below (v := v) hB1)
    replace HO := Aside0.mk (HO.out.after hB1)
    clear hB hB1 k1
    have e10 := (blk_cell K1.out 0).trans rfl
    have e11 := (blk_cell K1.out 1).trans rfl
    simp at e10 e11
    obtain ⟨c0, c1, c2, c3⟩ := four_of HF.out HO.out.below
    go_wp2_with fail
    refine (IH.out x 3 v l W0 w1 _ (by have := nodes_pos y; have := HN.out; rw [nodes_two] at this; omega) HX.out TX.out (by omega) (by omega) HO.out (by have := HLEN.out; rw [nodes_two] at this; omega)).mono ?_
    rintro e w2 ⟨v2, rfl, hO, hG⟩
    have hk := hG.keep K1.out NE.out
    replace K1 := Aside0.mk hk.1
    replace NE := Aside0.mk hk.2
    replace G1 := Aside0.mk (G1.out.trans hG)
    replace HO := Aside0.mk hO
    clear hO hG hk e10 e11 c0 c1 c2 c3
    have e10 := (blk_cell K1.out 0).trans rfl
    have e11 := (blk_cell K1.out 1).trans rfl
    simp at e10 e11
    go_wp2_with fail
    refine (sign_calls (k := 4) (by simp [nodeK]) _).mono ?_
    rintro e w3 ⟨rfl, hB⟩
    replace K1 := Aside0.mk (blk_below K1.out hB)
    replace G1 := Aside0.mk (G1.out.trans (Grew.below hB))
    replace HO := Aside0.mk (HO.out.after hB)
    clear hB e10 e11
    go_wp2_with (at_builtin; refine wpList_text rfl _ _ rfl rfl HO.out _ rfl (signS_len (by have := HLEN.out; have := parT_len x 3 HX.out; rw [nodes_two] at *; simp only [List.length_append]; omega) _) ?_; intro v3 w4 hO3 hG3; have hk := hG3.keep K1.out NE.out; replace K1 := Aside0.mk hk.1; replace NE := Aside0.mk hk.2; replace HO := Aside0.mk hO3; replace G1 := Aside0.mk (G1.out.trans hG3); clear hO3 hG3 hk; have e10 := (blk_cell K1.out 0).trans rfl; have e11 := (blk_cell K1.out 1).trans rfl; simp at e10 e11; obtain ⟨c0, c1, c2, c3⟩ := four_of HF.out HO.out.below)
    refine (IH.out y 4 v3 _ W0 w4 _ (by have := nodes_pos x; have := HN.out; rw [nodes_two] at this; omega) HY.out TY.out (by omega) (by omega) HO.out (by have := HLEN.out; have := parT_len x 3 HX.out; have := (signL_len 4).1; rw [nodes_two] at *; simp only [List.length_append, signS_list]; omega)).mono ?_
    rintro e w5 ⟨v5, rfl, hO, hG⟩
    replace G1 := Aside0.mk (G1.out.trans hG)
    replace HO := Aside0.mk hO
    clear hO hG e10 e11 c0 c1 c2 c3
    go_wp2_with fail
    go_ret
    refine ⟨v5, rfl, ?_, G1.out⟩
    have hh := HO.out
    rw [signS_list, List.append_assoc, List.append_assoc] at hh
    rw [core_two, List.append_assoc]
    exact hh
  · replace h4 : least ≤ 2 := h4
    obtain ⟨ad, c, Bx, dx, By, dy, rfl, hF, hX, hY, _⟩ := HT.out.open2
    have HF := Aside0.mk hF
    have TX := Aside0.mk hX
    have TY := Aside0.mk hY
    have ne := HO.out.ne
    have NE := Aside0.mk ne
    clear HT hF hX hY ne
    go_enter Tryd.func73, Tryd.ntmps73
    go_wp2_with fail
    refine (tight_calls (k := 5) (by simp [nodeK]) _).mono ?_
    rintro e w1 ⟨rfl, hB⟩
    rw [show tightI 5 = 2 from rfl]
    obtain ⟨k1, hB1⟩ := one_block hB
    have K1 := Aside0.mk k1
    have G1 := Aside0.mk (Grew.below (v := v) hB1)
    replace HO := Aside0.mk (HO.out.after hB1)
    clear hB hB1 k1
    have e10 := (blk_cell K1.out 0).trans rfl
    have e11 := (blk_cell K1.out 1).trans rfl
    simp at e10 e11
    obtain ⟨c0, c1, c2, c3⟩ := four_of HF.out HO.out.below
    go_wp2_with fail
    refine (IH.out x 2 v l W0 w1 _ (by have := nodes_pos y; have := HN.out; rw [nodes_two] at this; omega) HX.out TX.out (by omega) (by omega) HO.out (by have := HLEN.out; rw [nodes_two] at this; omega)).mono ?_
    rintro e w2 ⟨v2, rfl, hO, hG⟩
    have hk := hG.keep K1.out NE.out
    replace K1 := Aside0.mk hk.1
    replace NE := Aside0.mk hk.2
    replace G1 := Aside0.mk (G1.out.trans hG)
    replace HO := Aside0.mk hO
    clear hO hG hk e10 e11 c0 c1 c2 c3
    have e10 := (blk_cell K1.out 0).trans rfl
    have e11 := (blk_cell K1.out 1).trans rfl
    simp at e10 e11
    go_wp2_with fail
    refine (sign_calls (k := 5) (by simp [nodeK]) _).mono ?_
    rintro e w3 ⟨rfl, hB⟩
    replace K1 := Aside0.mk (blk_below K1.out hB)
    replace G1 := Aside0.mk (G1.out.trans (Grew.below hB))
    replace HO := Aside0.mk (HO.out.after hB)
    clear hB e10 e11
    go_wp2_with (at_builtin; refine wpList_text rfl _ _ rfl rfl HO.out _ rfl (signS_len (by have := HLEN.out; have := parT_len x 2 HX.out; rw [nodes_two] at *; simp only [List.length_append]; omega) _) ?_; intro v3 w4 hO3 hG3; have hk := hG3.keep K1.out NE.out; replace K1 := Aside0.mk hk.1; replace NE := Aside0.mk hk.2; replace HO := Aside0.mk hO3; replace G1 := Aside0.mk (G1.out.trans hG3); clear hO3 hG3 hk; have e10 := (blk_cell K1.out 0).trans rfl; have e11 := (blk_cell K1.out 1).trans rfl; simp at e10 e11; obtain ⟨c0, c1, c2, c3⟩ := four_of HF.out HO.out.below)
    refine (IH.out y 3 v3 _ W0 w4 _ (by have := nodes_pos x; have := HN.out; rw [nodes_two] at this; omega) HY.out TY.out (by omega) (by omega) HO.out (by have := HLEN.out; have := parT_len x 2 HX.out; have := (signL_len 5).1; rw [nodes_two] at *; simp only [List.length_append, signS_list]; omega)).mono ?_
    rintro e w5 ⟨v5, rfl, hO, hG⟩
    replace G1 := Aside0.mk (G1.out.trans hG)
    replace HO := Aside0.mk hO
    clear hO hG e10 e11 c0 c1 c2 c3
    go_wp2_with fail
    go_ret
    refine ⟨v5, rfl, ?_, G1.out⟩
    have hh := HO.out
    rw [signS_list, List.append_assoc, List.append_assoc] at hh
    rw [core_two, List.append_assoc]
    exact hh
end Go.Proofs.YtjmpejbciniceaaDoor.X
