/- The contracts of scan's methods put and fault. -/
import Derived.Test.YtjmpejbciniceaaDoorHSkip
namespace Go.Proofs.YtjmpejbciniceaaDoor.X
open Go.RowKit Go.Proofs.YtjmpejbciniceaaDoorW.PrintWords Go.Proofs.YtjmpejbciniceaaDoorW.PrintLast Go.Proofs.YtjmpejbciniceaaDoorW.PrintMore
set_option linter.unusedVariables false
set_option linter.unusedSimpArgs false

/-- A fault in memory. -/
def FaultAt (w : World) (p : Nat) (e : Int) (a : Int) (s : ByteArray) : Prop := w.heap[p]? = some (.cells #[.int .i64 e, .int .i64 a, .string s] 62 (0, 0))
def FaultPost (w : World) (e a : Int) (s : ByteArray) (en : Ending) (w' : World) : Prop := ∃ p, en = .returned (.pointer (some ⟨p, 0, none⟩)) ∧ FaultAt w' p e a s ∧ w.heap.size ≤ p ∧ Below w.heap.size w w'
set_option maxRecDepth 100000 in
set_option maxHeartbeats 1600000 in
theorem fault_calls {w0 : World} {g : Nat} {s : ByteArray} {a : Nat} {v : Value} {ws : List S37} {w : World} (h : Rd w0 g s a v ws w) (e : Int) (t : ByteArray) :
    Calls Tryd.prog 60 #[.pointer (some ⟨g, 0, none⟩), .int .i64 e, .string t] w (FaultPost w e a t) := by
  have e1 := (blk_cell h.blk 1).trans rfl
  simp at e1
  clear h
  go_enter Tryd.func60, Tryd.ntmps60
  go_wp2_with fail
  go_ret
  exact ⟨w.heap.size, rfl, heap_alloc_new w _, Nat.le_refl _, (Below.refl _ _).alloc (Nat.le_refl _) _⟩
theorem Rd.push {w0 : World} {g : Nat} {s : ByteArray} {a : Nat} {v v1 : Value} {ws ws' : List S37} {w w1 : World} (h : Rd w0 g s a v ws w) (hg : w.grownBy w1 v.ownBlock) (hb : Below w0.heap.size w0 w1) (hr : k37.R 37 w1 w0.heap.size (fun b => b ≠ g) v1 ws') :
    w1.heap[g]? = some (.cells #[.string s, .int .i64 (a : Int), v] 65 (0, 0)) ∧ Rd w0 g s a v1 ws' (w1.setCell ⟨g, 2, none⟩ v1) := by
  have hne : some g ≠ v.ownBlock := fun e => (h.row.1 g e.symm) rfl
  have h1 := blk_grown h.blk hg hne
  exact ⟨h1, blk_put h1 2 v1 (by simp), Kd.R_far hr (p := ⟨g, 2, none⟩) (fun b hk => hk) _, h.low, hb.setCell (p := ⟨g, 2, none⟩) h.low _⟩
theorem FaultPost.held {w0 : World} {g : Nat} {s t : ByteArray} {a : Nat} {v : Value} {ws : List S37} {w : World} {e p : Int} {en : Ending} {w' : World} (h : FaultPost w e p t en w') (hr : Rd w0 g s a v ws w) : w'.cell? ⟨g, 0, none⟩ = some (.string s) := by
  obtain ⟨q, _, _, _, hb⟩ := h
  exact (blk_cell (blk_below hr.blk hb) 0).trans rfl
def PutPost (w0 : World) (g : Nat) (s : ByteArray) (a : Nat) (ws : List S37) (en : Ending) (w' : World) : Prop := en = .returned (.pointer none) ∧ ∃ v, Rd w0 g s a v ws w'
set_option maxRecDepth 100000 in
set_option maxHeartbeats 1600000 in
theorem put_calls {w0 : World} {g : Nat} {s : ByteArray} {a : Nat} {v : Value} {ws : List S37} {w : World} (h : Rd w0 g s a v ws w) (k : Int) (t : ByteArray) (n : Int) (hl : ws.length ≤ 100000) (ha : a ≤ 100000) (ht : t.size ≤ 100000) :
    Calls Tryd.prog 62 #[.pointer (some ⟨g, 0, none⟩), .int .i8 k, .string t, .int .i64 n] w (PutPost w0 g s (a + t.size) (ws ++ [⟨k, t, n, a⟩])) := by
  have HR := Aside0.mk h
  clear h
  go_enter Tryd.func62, Tryd.ntmps62
  go_wp2_with fail
  have OK := Aside0.mk (fun {v' : Value} (w' : World) (h : w'.heap[g]? = some (.cells #[.string s, .int .i64 (a : Int), v'] 65 (0, 0))) => ((blk_cell h 1).trans rfl : w'.cell? ⟨g, 1, none⟩ = some (.int .i64 (a : Int))))
  refine wp_region_held_drew (S := fun w' => w'.cell? ⟨g, 1, none⟩ = some (.int .i64 (a : Int))) (by kernel_rfl) (OK.out _ (blk_below HR.out.blk (Below.refl _ _).drew)) (fun hHeld => ?_)
  replace HR := Aside0.mk (HR.out.after (Below.refl _ _).drew)
  have HX := Aside0.mk HR.out.blk
  have HG := Aside0.mk (blk_lt HR.out.blk)
  generalize w.drew = wd at *
  refine takeA 9 0 (v := ?_) ?_ hHeld ?_
  rotate_left
  · intro w hSw
    try dsimp only at hSw
    go_simp <;> with_reducible rfl
  try simp only [Act.put, List.setIfInBounds_toArray, List.set_cons_zero, List.set_cons_succ]
  refine takeA 10 1 (v := ?_) ?_ hHeld ?_
  rotate_left
  · intro w hSw
    try dsimp only at hSw
    go_simp <;> with_reducible rfl
  try simp only [Act.put, List.setIfInBounds_toArray, List.set_cons_zero, List.set_cons_succ]
  refine takeA 11 2 (v := ?_) ?_ hHeld ?_
  rotate_left
  · intro w hSw
    try dsimp only at hSw
    go_simp <;> with_reducible rfl
  try simp only [Act.put, List.setIfInBounds_toArray, List.set_cons_zero, List.set_cons_succ]
  refine takeA 12 3 (v := ?_) ?_ hHeld ?_
  rotate_left
  · intro w hSw
    try dsimp only at hSw
    go_simp <;> with_reducible rfl
  try simp only [Act.put, List.setIfInBounds_toArray, List.set_cons_zero, List.set_cons_succ]
  refine takeA 14 5 (v := ?_) ?_ hHeld ?_
  rotate_left
  · intro w hSw
    try dsimp only at hSw
    go_simp <;> with_reducible rfl
  try simp only [Act.put, List.setIfInBounds_toArray, List.set_cons_zero, List.set_cons_succ]
  refine takeA 15 6 (v := ?_) ?_ hHeld ?_
  rotate_left
  · intro w hSw
    try dsimp only at hSw
    go_simp <;> with_reducible rfl
  try simp only [Act.put, List.setIfInBounds_toArray, List.set_cons_zero, List.set_cons_succ]
  refine takeA 16 7 (v := ?_) ?_ hHeld ?_
  rotate_left
  · intro w hSw
    try dsimp only at hSw
    go_simp <;> with_reducible rfl
  try simp only [Act.put, List.setIfInBounds_toArray, List.set_cons_zero, List.set_cons_succ]
  refine takeA 17 8 (v := ?_) ?_ hHeld ?_
  rotate_left
  · intro w hSw
    try dsimp only at hSw
    go_simp <;> with_reducible rfl
  try simp only [Act.put, List.setIfInBounds_toArray, List.set_cons_zero, List.set_cons_succ]
  refine takeA 18 9 (v := ?_) ?_ hHeld ?_
  rotate_left
  · intro w hSw
    try dsimp only at hSw
    go_simp <;> with_reducible rfl
  try simp only [Act.put, List.setIfInBounds_toArray, List.set_cons_zero, List.set_cons_succ]
  refine takeA 19 10 (v := ?_) ?_ hHeld ?_
  rotate_left
  · intro w hSw
    try dsimp only at hSw
    go_simp <;> with_reducible rfl
  try simp only [Act.put, List.setIfInBounds_toArray, List.set_cons_zero, List.set_cons_succ]
  refine takeA 20 11 (v := ?_) ?_ hHeld ?_
  rotate_left
  · intro w hSw
    try dsimp only at hSw
    go_simp <;> with_reducible rfl
  try simp only [Act.put, List.setIfInBounds_toArray, List.set_cons_zero, List.set_cons_succ]
  refine takeA 21 12 (v := ?_) ?_ hHeld ?_
  rotate_left
  · intro w hSw
    try dsimp only at hSw
    go_simp <;> with_reducible rfl
  try simp only [Act.put, List.setIfInBounds_toArray, List.set_cons_zero, List.set_cons_succ]
  refine wpAnyH_ready (rs := [4, 13]) (by kernel_rfl) (by simp) ?_
  refine AllReadyH.cons rfl (fun K hK => ?_) (AllReadyH.cons rfl (fun K hK => ?_) AllReadyH.nil)
  · have e2 := (blk_cell HX.out 2).trans rfl
    simp at e2
    go_simp
    clear e2
    refine hK.out _ _ hHeld (fun hHeld => ?_)
    clear hK K
    try simp only [Act.put, List.setIfInBounds_toArray, List.set_cons_zero, List.set_cons_succ]
    refine wpAnyH_ready (rs := [13]) (by kernel_rfl) (by simp) ?_
    refine AllReadyH.cons rfl (fun K hK => ?_) AllReadyH.nil
    go_simp
    replace HX := Aside0.mk (blk_alloc HX.out (.cells #[.int .i8 k, .string t, .int .i64 n, .int .i64 (a : Int)] 37))
    refine hK.out _ _ (OK.out _ HX.out) (fun hHeld => ?_)
    clear hK K
    try simp only [Act.put, List.setIfInBounds_toArray, List.set_cons_zero, List.set_cons_succ]
    refine wpAnyH_ready (rs := [14]) (by kernel_rfl) (by simp) ?_
    refine AllReadyH.cons rfl (fun K hK => ?_) AllReadyH.nil
    refine Kd.R_append_step k37 w0.heap.size (by rfl) (.tmp 13) (.tmp 22) 22 37 (.agg #[.int .i8 0, .string ⟨#[]⟩, .int .i64 0, .int .i64 0]) 40 rfl Tryd.underlying22 info37 rfl (by decide) (by decide) v ws ⟨k, t, n, a⟩ [.int .i8 k, .string t, .int .i64 n, .int .i64 (a : Int)] (fun b => b ≠ g) (fun _ => False) (by rfl) (by rfl) (k37_mkM _ _ _ ⟨k, t, n, a⟩) (fun b hb => hb.elim) (fun b hb => by have := HG.out; omega) HR.out.row HR.out.below HR.out.below.size (by omega) ?_
    intro v4 w1 hr4 hb4 hg4 hat4
    obtain ⟨A4, c4, e4⟩ := Kd.R_slice hr4
    obtain ⟨n4, hn4⟩ : ∃ m, m = (ws ++ [(⟨k, t, n, a⟩ : S37)]).length := ⟨_, rfl⟩
    rw [← hn4] at e4
    subst e4
    clear hn4
    have hP := HR.out.push hg4 hb4 hr4
    have e2 := (blk_cell hP.1 2).trans rfl
    have z2 := blk_frozen hP.1 2
    simp at e2
    refine hK.out _ _ (OK.out _ hP.1) (fun hHeld => ?_)
    clear hK K
    have HJ := Aside0.mk hP.2
    clear hr4 hb4 hg4 hat4 hP HX
    try simp only [Act.put, List.setIfInBounds_toArray, List.set_cons_zero, List.set_cons_succ]
    refine takeA 24 15 (v := ?_) ?_ hHeld ?_
    rotate_left
    · intro w hSw
      try dsimp only at hSw
      go_simp <;> with_reducible rfl
    try simp only [Act.put, List.setIfInBounds_toArray, List.set_cons_zero, List.set_cons_succ]
    refine takeA 25 16 (v := ?_) ?_ hHeld ?_
    rotate_left
    · intro w hSw
      try dsimp only at hSw
      go_simp <;> with_reducible rfl
    try simp only [Act.put, List.setIfInBounds_toArray, List.set_cons_zero, List.set_cons_succ]
    refine wpAnyH_ready (rs := [17]) (by kernel_rfl) (by simp) ?_
    refine AllReadyH.cons rfl (fun K hK => ?_) AllReadyH.nil
    go_simp
    clear e2 z2
    refine hK.out _ _ (OK.out _ HJ.out.blk) (fun hHeld => ?_)
    clear hK K
    refine wpAnyH_done (by kernel_rfl) ?_ _
    have HF := Aside0.mk (HJ.out.move (a + t.size))
    have e1 := (blk_cell HJ.out.blk 1).trans rfl
    have z1 := blk_frozen HJ.out.blk 1
    simp at e1
    clear OK hHeld
    go_wp2_with fail
    go_ret
    exact ⟨rfl, _, HF.out⟩
  · go_simp
    replace HX := Aside0.mk (blk_alloc HX.out (.cells #[.int .i8 k, .string t, .int .i64 n, .int .i64 (a : Int)] 37))
    refine hK.out _ _ (OK.out _ HX.out) (fun hHeld => ?_)
    clear hK K
    try simp only [Act.put, List.setIfInBounds_toArray, List.set_cons_zero, List.set_cons_succ]
    refine wpAnyH_ready (rs := [4]) (by kernel_rfl) (by simp) ?_
    refine AllReadyH.cons rfl (fun K hK => ?_) AllReadyH.nil
    have e2 := (blk_cell HX.out 2).trans rfl
    simp at e2
    go_simp
    clear e2
    refine hK.out _ _ hHeld (fun hHeld => ?_)
    clear hK K
    try simp only [Act.put, List.setIfInBounds_toArray, List.set_cons_zero, List.set_cons_succ]
    refine wpAnyH_ready (rs := [14]) (by kernel_rfl) (by simp) ?_
    refine AllReadyH.cons rfl (fun K hK => ?_) AllReadyH.nil
    refine Kd.R_append_step k37 w0.heap.size (by rfl) (.tmp 13) (.tmp 22) 22 37 (.agg #[.int .i8 0, .string ⟨#[]⟩, .int .i64 0, .int .i64 0]) 40 rfl Tryd.underlying22 info37 rfl (by decide) (by decide) v ws ⟨k, t, n, a⟩ [.int .i8 k, .string t, .int .i64 n, .int .i64 (a : Int)] (fun b => b ≠ g) (fun _ => False) (by rfl) (by rfl) (k37_mkM _ _ _ ⟨k, t, n, a⟩) (fun b hb => hb.elim) (fun b hb => by have := HG.out; omega) HR.out.row HR.out.below HR.out.below.size (by omega) ?_
    intro v4 w1 hr4 hb4 hg4 hat4
    obtain ⟨A4, c4, e4⟩ := Kd.R_slice hr4
    obtain ⟨n4, hn4⟩ : ∃ m, m = (ws ++ [(⟨k, t, n, a⟩ : S37)]).length := ⟨_, rfl⟩
    rw [← hn4] at e4
    subst e4
    clear hn4
    have hP := HR.out.push hg4 hb4 hr4
    have e2 := (blk_cell hP.1 2).trans rfl
    have z2 := blk_frozen hP.1 2
    simp at e2
    refine hK.out _ _ (OK.out _ hP.1) (fun hHeld => ?_)
    clear hK K
    have HJ := Aside0.mk hP.2
    clear hr4 hb4 hg4 hat4 hP HX
    try simp only [Act.put, List.setIfInBounds_toArray, List.set_cons_zero, List.set_cons_succ]
    refine takeA 24 15 (v := ?_) ?_ hHeld ?_
    rotate_left
    · intro w hSw
      try dsimp only at hSw
      go_simp <;> with_reducible rfl
    try simp only [Act.put, List.setIfInBounds_toArray, List.set_cons_zero, List.set_cons_succ]
    refine takeA 25 16 (v := ?_) ?_ hHeld ?_
    rotate_left
    · intro w hSw
      try dsimp only at hSw
      go_simp <;> with_reducible rfl
    try simp only [Act.put, List.setIfInBounds_toArray, List.set_cons_zero, List.set_cons_succ]
    refine wpAnyH_ready (rs := [17]) (by kernel_rfl) (by simp) ?_
    refine AllReadyH.cons rfl (fun K hK => ?_) AllReadyH.nil
    go_simp
    clear e2 z2
    refine hK.out _ _ (OK.out _ HJ.out.blk) (fun hHeld => ?_)
    clear hK K
    refine wpAnyH_done (by kernel_rfl) ?_ _
    have HF := Aside0.mk (HJ.out.move (a + t.size))
    have e1 := (blk_cell HJ.out.blk 1).trans rfl
    have z1 := blk_frozen HJ.out.blk 1
    simp at e1
    clear OK hHeld
    go_wp2_with fail
    go_ret
    exact ⟨rfl, _, HF.out⟩
end Go.Proofs.YtjmpejbciniceaaDoor.X
