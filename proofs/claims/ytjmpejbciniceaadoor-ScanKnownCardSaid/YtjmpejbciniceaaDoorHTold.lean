/- lychgatelaw01.Fault and Told, at no error and at a fault. -/
import Derived.Test.YtjmpejbciniceaaDoorHErr2
import Derived.Test.YtjmpejbciniceaaDoorHAll
import Derived.Test.YtjmpejbciniceaaDoorHRefWord
namespace Go.Proofs.YtjmpejbciniceaaDoor.X
open Go.RowKit Go.Proofs.YtjmpejbciniceaaDoorW.PrintWords Go.Proofs.YtjmpejbciniceaaDoorW.PrintLast Go.Proofs.YtjmpejbciniceaaDoorW.PrintMore
set_option linter.unusedVariables false
set_option linter.unusedSimpArgs false

/-- The program's error type lies in its variable. -/
def HasErr (w : World) : Prop := w.cell? ⟨0, 0, none⟩ = some (.iface 153 (.agg #[.pointer (some ⟨5, 24, none⟩)]))
theorem HasErr.lt {w : World} (h : HasErr w) : 0 < w.heap.size := by
  rcases Nat.eq_zero_or_pos w.heap.size with h0 | h1
  · unfold HasErr at h; simp [World.cell?, h0] at h
  · exact h1
theorem HasErr.below {w w' : World} (h : HasErr w) (hb : Below w.heap.size w w') : HasErr w' := (hb.cell (p := ⟨0, 0, none⟩) h.lt).trans h
theorem fault_nil (w : World) : Calls Tryd.prog 29 #[.nilIface] w fun e w' => e = .returned (.tuple #[.agg #[.int .i64 0, .int .i64 0, .string ⟨#[]⟩], .bool true]) ∧ Below w.heap.size w w' := by
  have he : ∀ W : World, (binOp .eql 24 .nilIface .nilIface).run Tryd.prog W = .ok (.bool true) W := fun W => run_eql_nil_nil W 24 (by kernel_rfl)
  have K0 := Aside0.mk (heap_alloc_new w (.cells #[.int .i64 0, .int .i64 0, .string ⟨#[]⟩] 29))
  have HB : Aside0 (Below w.heap.size w (w.alloc (.cells #[.int .i64 0, .int .i64 0, .string ⟨#[]⟩] 29))) := .mk ((Below.refl _ _).alloc (Nat.le_refl _) _)
  go_enter Tryd.func29, Tryd.ntmps29
  go_wp2_with fail
  exact bodyPost_ret (results_list (rs := [.cell 2 29, .tmp 3]) rfl (by simp) (.cell w.heap.size 29 _ (0, 0) _ rfl K0.out Tryd.underlying29 rfl (by kernel_rfl) (.tmp .nil))) rfl ⟨rfl, HB.out⟩
theorem as_after {w0 w : World} {B : Nat} (h : Below B w0 w) (hb : B ≤ w.heap.size) (o1 o2 o3 o4 : Obj) (g : Nat) (hg : B ≤ g) (u : Value) : Below B w0 (((((w.alloc o1).alloc o2).alloc o3).alloc o4).setCell ⟨g, 0, none⟩ u) :=
  ((((h.alloc hb o1).alloc (by simp; omega) o2).alloc (by simp; omega) o3).alloc (by simp; omega) o4).setCell hg u
set_option maxRecDepth 100000 in
set_option maxHeartbeats 3200000 in
theorem fault_at (q : Nat) (k p : Int) (t : ByteArray) (w : World) (hq : w.heap[q]? = some (.cells #[.int .i64 k, .int .i64 p, .string t] 62 (0, 0))) (hg : HasErr w) :
    Calls Tryd.prog 29 #[.iface 60 (.pointer (some ⟨q, 0, none⟩))] w fun e w' => e = .returned (.tuple #[.agg #[.int .i64 k, .int .i64 p, .string t], .bool true]) ∧ Below w.heap.size w w' := by
  have he : ∀ W : World, (binOp .eql 24 (.iface 60 (.pointer (some ⟨q, 0, none⟩))) .nilIface).run Tryd.prog W = .ok (.bool false) W := fun W => run_eql_held_nil W 24 60 _ (by kernel_rfl)
  have hB0 := rbelow2 w #[.int .i64 0, .int .i64 0, .string ⟨#[]⟩] #[.pointer none] 29 60
  have HB := Aside0.mk hB0
  have K0 := Aside0.mk (blk_alloc (heap_alloc_new w (.cells #[.int .i64 0, .int .i64 0, .string ⟨#[]⟩] 29)) (.cells #[.pointer none] 60))
  have K1 := Aside0.mk (rnew2 w (.cells #[.int .i64 0, .int .i64 0, .string ⟨#[]⟩] 29) #[.pointer none] 60)
  have KQ := Aside0.mk (blk_below hq hB0)
  have HG := Aside0.mk (hg.below hB0)
  have hql := blk_lt hq
  have hsz : ((w.alloc (.cells #[.int .i64 0, .int .i64 0, .string ⟨#[]⟩] 29)).alloc (.cells #[.pointer none] 60)).heap.size = w.heap.size + 1 + 1 := by simp
  clear hB0 hq hg
  go_enter Tryd.func29, Tryd.ntmps29
  go_wp2_with fail
  generalize ((w.alloc (.cells #[.int .i64 0, .int .i64 0, .string ⟨#[]⟩] 29)).alloc (.cells #[.pointer none] 60)) = wa at *
  have c1 : wa.cell? ⟨w.heap.size + 1, 0, none⟩ = some (.pointer none) := (blk_cell K1.out 0).trans rfl
  have z1 : wa.frozen? ⟨w.heap.size + 1, 0, none⟩ = false := blk_frozen K1.out 0
  refine (err_as ⟨q, 0, none⟩ ⟨w.heap.size + 1, 0, none⟩ (.pointer none) wa HG.out c1 z1).mono ?_
  rintro e w1 ⟨rfl, hw1⟩
  have hB1 : Below w.heap.size w w1 := by rw [hw1]; exact as_after HB.out (by omega) _ _ _ _ _ (by omega) _
  have hk0 : w1.heap[w.heap.size]? = some (.cells #[.int .i64 0, .int .i64 0, .string ⟨#[]⟩] 29 (0, 0)) := by
    rw [hw1]; exact blk_putf (blk_alloc (blk_alloc (blk_alloc (blk_alloc K0.out _) _) _) _) (by show w.heap.size ≠ w.heap.size + 1; omega)
  have hk1 : w1.heap[w.heap.size + 1]? = some (.cells #[.pointer (some ⟨q, 0, none⟩)] 60 (0, 0)) := by
    rw [hw1]; exact blk_put (cs := #[.pointer none]) (blk_alloc (blk_alloc (blk_alloc (blk_alloc K1.out _) _) _) _) 0 _ rfl
  have hkq : w1.heap[q]? = some (.cells #[.int .i64 k, .int .i64 p, .string t] 62 (0, 0)) := by
    rw [hw1]; exact blk_putf (blk_alloc (blk_alloc (blk_alloc (blk_alloc KQ.out _) _) _) _) (by show q ≠ w.heap.size + 1; omega)
  replace HB := Aside0.mk hB1
  replace K0 := Aside0.mk hk0
  replace K1 := Aside0.mk hk1
  replace KQ := Aside0.mk hkq
  clear hw1 hB1 hk0 hk1 hkq c1 z1 HG hsz
  have c1 := (blk_cell K1.out 0).trans rfl
  have d0 := (blk_cell KQ.out 0).trans rfl
  have d1 := (blk_cell KQ.out 1).trans rfl
  have d2 := (blk_cell KQ.out 2).trans rfl
  simp at c1 d0 d1 d2
  go_wp2_with fail
  refine wp_region_held_drew (S := fun w' => w'.cell? ⟨w.heap.size + 1, 0, none⟩ = some (.pointer (some ⟨q, 0, none⟩)) ∧ w'.cell? ⟨q, 0, none⟩ = some (.int .i64 k) ∧ w'.cell? ⟨q, 1, none⟩ = some (.int .i64 p) ∧ w'.cell? ⟨q, 2, none⟩ = some (.string t)) (by kernel_rfl) ⟨c1, d0, d1, d2⟩ (fun hHeld => ?_)
  have hD := (Below.refl w1.heap.size w1).drew
  replace HB := Aside0.mk (below_then HB.out HB.out.size hD)
  replace K0 := Aside0.mk (blk_below K0.out hD)
  clear hD c1 d0 d1 d2 he
  generalize w1.drew = w2 at *
  refine takeA 17 0 (v := ?_) ?_ hHeld ?_
  rotate_left
  · intro w hSw
    try dsimp only at hSw
    go_simp <;> with_reducible rfl
  try simp only [Act.put, List.setIfInBounds_toArray, List.set_cons_zero, List.set_cons_succ]
  refine takeA 18 1 (v := ?_) ?_ hHeld ?_
  rotate_left
  · intro w hSw
    try dsimp only at hSw
    go_simp <;> with_reducible rfl
  try simp only [Act.put, List.setIfInBounds_toArray, List.set_cons_zero, List.set_cons_succ]
  refine takeA 19 2 (v := ?_) ?_ hHeld ?_
  rotate_left
  · intro w hSw
    try dsimp only at hSw
    go_simp <;> with_reducible rfl
  try simp only [Act.put, List.setIfInBounds_toArray, List.set_cons_zero, List.set_cons_succ]
  refine takeA 20 3 (v := ?_) ?_ hHeld ?_
  rotate_left
  · intro w hSw
    try dsimp only at hSw
    go_simp <;> with_reducible rfl
  try simp only [Act.put, List.setIfInBounds_toArray, List.set_cons_zero, List.set_cons_succ]
  refine takeA 21 4 (v := ?_) ?_ hHeld ?_
  rotate_left
  · intro w hSw
    try dsimp only at hSw
    go_simp <;> with_reducible rfl
  try simp only [Act.put, List.setIfInBounds_toArray, List.set_cons_zero, List.set_cons_succ]
  refine takeA 22 5 (v := ?_) ?_ hHeld ?_
  rotate_left
  · intro w hSw
    try dsimp only at hSw
    go_simp <;> with_reducible rfl
  try simp only [Act.put, List.setIfInBounds_toArray, List.set_cons_zero, List.set_cons_succ]
  refine takeA 23 6 (v := ?_) ?_ hHeld ?_
  rotate_left
  · intro w hSw
    try dsimp only at hSw
    go_simp <;> with_reducible rfl
  try simp only [Act.put, List.setIfInBounds_toArray, List.set_cons_zero, List.set_cons_succ]
  refine takeA 24 7 (v := ?_) ?_ hHeld ?_
  rotate_left
  · intro w hSw
    try dsimp only at hSw
    go_simp <;> with_reducible rfl
  try simp only [Act.put, List.setIfInBounds_toArray, List.set_cons_zero, List.set_cons_succ]
  refine takeA 25 8 (v := ?_) ?_ hHeld ?_
  rotate_left
  · intro w hSw
    try dsimp only at hSw
    go_simp <;> with_reducible rfl
  try simp only [Act.put, List.setIfInBounds_toArray, List.set_cons_zero, List.set_cons_succ]
  refine takeA 26 9 (v := ?_) ?_ hHeld ?_
  rotate_left
  · intro w hSw
    try dsimp only at hSw
    go_simp <;> with_reducible rfl
  try simp only [Act.put, List.setIfInBounds_toArray, List.set_cons_zero, List.set_cons_succ]
  refine takeA 27 10 (v := ?_) ?_ hHeld ?_
  rotate_left
  · intro w hSw
    try dsimp only at hSw
    go_simp <;> with_reducible rfl
  try simp only [Act.put, List.setIfInBounds_toArray, List.set_cons_zero, List.set_cons_succ]
  refine takeA 28 11 (v := ?_) ?_ hHeld ?_
  rotate_left
  · intro w hSw
    try dsimp only at hSw
    go_simp <;> with_reducible rfl
  try simp only [Act.put, List.setIfInBounds_toArray, List.set_cons_zero, List.set_cons_succ]
  refine takeA 29 12 (v := ?_) ?_ hHeld ?_
  rotate_left
  · intro w hSw
    try dsimp only at hSw
    go_simp <;> with_reducible rfl
  try simp only [Act.put, List.setIfInBounds_toArray, List.set_cons_zero, List.set_cons_succ]
  refine takeA 30 13 (v := ?_) ?_ hHeld ?_
  rotate_left
  · intro w hSw
    try dsimp only at hSw
    go_simp <;> with_reducible rfl
  try simp only [Act.put, List.setIfInBounds_toArray, List.set_cons_zero, List.set_cons_succ]
  refine takeA 31 14 (v := ?_) ?_ hHeld ?_
  rotate_left
  · intro w hSw
    try dsimp only at hSw
    go_simp <;> with_reducible rfl
  try simp only [Act.put, List.setIfInBounds_toArray, List.set_cons_zero, List.set_cons_succ]
  refine takeA 32 15 (v := ?_) ?_ hHeld ?_
  rotate_left
  · intro w hSw
    try dsimp only at hSw
    go_simp <;> with_reducible rfl
  try simp only [Act.put, List.setIfInBounds_toArray, List.set_cons_zero, List.set_cons_succ]
  refine takeA 33 16 (v := ?_) ?_ hHeld ?_
  rotate_left
  · intro w hSw
    try dsimp only at hSw
    go_simp <;> with_reducible rfl
  try simp only [Act.put, List.setIfInBounds_toArray, List.set_cons_zero, List.set_cons_succ]
  refine takeA 34 17 (v := ?_) ?_ hHeld ?_
  rotate_left
  · intro w hSw
    try dsimp only at hSw
    go_simp <;> with_reducible rfl
  try simp only [Act.put, List.setIfInBounds_toArray, List.set_cons_zero, List.set_cons_succ]
  refine takeA 35 18 (v := ?_) ?_ hHeld ?_
  rotate_left
  · intro w hSw
    try dsimp only at hSw
    go_simp <;> with_reducible rfl
  try simp only [Act.put, List.setIfInBounds_toArray, List.set_cons_zero, List.set_cons_succ]
  refine callH (d := some 36) 19 rfl rfl (by kernel_rfl) (by rfl) (by kernel_rfl) (err_is q k _ hHeld.2.1) ?_
  rintro e w3 ⟨rfl, rfl⟩
  refine ⟨_, rfl, hHeld, fun hHeld => ?_⟩
  try simp only [Act.put, List.setIfInBounds_toArray, List.set_cons_zero, List.set_cons_succ]
  refine wpAnyH_ready (rs := [20]) (by kernel_rfl) (by simp) ?_
  refine AllReadyH.cons rfl (fun K hK => ?_) AllReadyH.nil
  have c0 := (blk_cell K0.out 0).trans rfl
  have c1 := (blk_cell K0.out 1).trans rfl
  have c2 := (blk_cell K0.out 2).trans rfl
  have z0 := blk_frozen K0.out 0
  have z1 := blk_frozen K0.out 1
  have z2 := blk_frozen K0.out 2
  simp at c0 c1 c2
  go_simp
  clear c0 c1 c2 z0 z1 z2
  have far : ∀ (b o : Nat) (v : Value), b ≠ w.heap.size → w3.cell? ⟨b, o, none⟩ = some v → (((w3.setCell ⟨w.heap.size, 0, none⟩ (.int .i64 k)).setCell ⟨w.heap.size, 1, none⟩ (.int .i64 p)).setCell ⟨w.heap.size, 2, none⟩ (.string t)).cell? ⟨b, o, none⟩ = some v := fun b o v hb hv => by
    rw [World.cell?_setCell_far _ _ _ _ (by show w.heap.size ≠ b; omega), World.cell?_setCell_far _ _ _ _ (by show w.heap.size ≠ b; omega), World.cell?_setCell_far _ _ _ _ (by show w.heap.size ≠ b; omega)]
    exact hv
  refine hK.out _ _ ⟨far _ _ _ (by omega) hHeld.1, far _ _ _ (by omega) hHeld.2.1, far _ _ _ (by omega) hHeld.2.2.1, far _ _ _ (by omega) hHeld.2.2.2⟩ (fun hHeld => ?_)
  clear hK K far
  try simp only [Act.put, List.setIfInBounds_toArray, List.set_cons_zero, List.set_cons_succ]
  refine takeA 3 21 (v := ?_) ?_ hHeld ?_
  rotate_left
  · intro w hSw
    try dsimp only at hSw
    go_simp <;> with_reducible rfl
  try simp only [Act.put, List.setIfInBounds_toArray, List.set_cons_zero, List.set_cons_succ]
  refine wpAnyH_done (by kernel_rfl) ?_ _
  go_wp2_with fail
  exact bodyPost_ret (results_list (rs := [.cell 2 29, .tmp 3]) rfl (by simp) (.cell w.heap.size 29 _ (0, 0) _ rfl (put_three K0.out _ _ _) Tryd.underlying29 rfl (by kernel_rfl) (.tmp .nil))) rfl ⟨rfl, ((HB.out.setCell (Nat.le_refl _) _).setCell (Nat.le_refl _) _).setCell (Nat.le_refl _) _⟩
theorem eql_f29 (W : World) (k p : Int) (s : ByteArray) : (binOp .eql 29 (.agg #[.int .i64 k, .int .i64 p, .string s]) (.agg #[.int .i64 k, .int .i64 p, .string s])).run Tryd.prog W = .ok (.bool true) W := by
  have h1 : ∀ d, (Op.equalIn (d + 2) 29 (.agg #[.int .i64 k, .int .i64 p, .string s]) (.agg #[.int .i64 k, .int .i64 p, .string s])).run Tryd.prog W = .ok (k == k && (p == p && (s.toList == s.toList))) W := fun d => by
    refine eqA_of Tryd.underlying29 (by kernel_rfl) ?_
    refine eqf_cons (by rfl) (by go_simp; rfl) (by go_simp; rfl) (by go_simp) ?_
    refine eqf_cons (by rfl) (by go_simp; rfl) (by go_simp; rfl) (by go_simp) ?_
    exact eqf_last (by rfl) (by go_simp; rfl) (by go_simp; rfl) (by go_simp)
  simp only [binOp]
  simp [Op.equal, Op.maxDepth, h1 9998]
set_option maxRecDepth 100000 in
set_option maxHeartbeats 3200000 in
theorem told_nil (w : World) :
    Calls Tryd.prog 9 #[.nilIface, .agg #[.int .i64 0, .int .i64 0, .string ⟨#[]⟩]] w fun e w' => e = .returned (.bool true) ∧ Below w.heap.size w w' := by
  have he := (fun W : World => (run_eql_nil_nil W 24 (by kernel_rfl) : (binOp .eql 24 .nilIface .nilIface).run Tryd.prog W = .ok (.bool true) W))
  have heq : ∀ W : World, (binOp .eql 29 (.agg #[.int .i64 0, .int .i64 0, .string ⟨#[]⟩]) (.agg #[.int .i64 0, .int .i64 0, .string ⟨#[]⟩])).run Tryd.prog W = .ok (.bool true) W := fun W => eql_f29 W 0 0 _
  have hB0 : Below w.heap.size w (w.alloc (.cells #[.int .i64 0, .int .i64 0, .string ⟨#[]⟩] 29)) := (Below.refl _ _).alloc (Nat.le_refl _) _
  have HB := Aside0.mk hB0
  have K0 := Aside0.mk (heap_alloc_new w (.cells #[.int .i64 0, .int .i64 0, .string ⟨#[]⟩] 29))
  clear hB0
  go_enter Tryd.func9, Tryd.ntmps9
  go_wp2_with fail
  generalize w.alloc (.cells #[.int .i64 0, .int .i64 0, .string ⟨#[]⟩] 29) = wa at *
  refine (fault_nil _).mono ?_
  rintro e w1 ⟨rfl, hB⟩
  replace K0 := Aside0.mk (blk_below K0.out hB)
  replace HB := Aside0.mk (below_then HB.out HB.out.size hB)
  have hbl := blk_lt K0.out
  clear hB
  go_wp2_with fail
  have hB1 : Below w1.heap.size w1 (w1.alloc (.cells #[.int .i64 0, .int .i64 0, .string ⟨#[]⟩] 29)) := (Below.refl _ _).alloc (Nat.le_refl _) _
  have K1 := Aside0.mk (heap_alloc_new w1 (.cells #[.int .i64 0, .int .i64 0, .string ⟨#[]⟩] 29))
  replace K0 := Aside0.mk (blk_below K0.out hB1)
  replace HB := Aside0.mk (below_then HB.out HB.out.size hB1)
  clear hB1
  generalize w1.alloc (.cells #[.int .i64 0, .int .i64 0, .string ⟨#[]⟩] 29) = w2 at *
  generalize w1.heap.size = n1 at *
  have c0 := (blk_cell K0.out 0).trans rfl
  have c1 := (blk_cell K0.out 1).trans rfl
  have c2 := (blk_cell K0.out 2).trans rfl
  have d0 := (blk_cell K1.out 0).trans rfl
  have d1 := (blk_cell K1.out 1).trans rfl
  have d2 := (blk_cell K1.out 2).trans rfl
  simp at c0 c1 c2 d0 d1 d2
  refine wp_region_held_drew (S := fun w' => (w'.cell? ⟨w.heap.size, 0, none⟩ = some (.int .i64 0) ∧ w'.cell? ⟨w.heap.size, 1, none⟩ = some (.int .i64 0) ∧ w'.cell? ⟨w.heap.size, 2, none⟩ = some (.string ⟨#[]⟩)) ∧ (w'.cell? ⟨n1, 0, none⟩ = some (.int .i64 0) ∧ w'.cell? ⟨n1, 1, none⟩ = some (.int .i64 0) ∧ w'.cell? ⟨n1, 2, none⟩ = some (.string ⟨#[]⟩))) (by kernel_rfl) ⟨⟨c0, c1, c2⟩, d0, d1, d2⟩ (fun hHeld => ?_)
  clear c0 c1 c2 d0 d1 d2
  refine takeA 12 0 (v := ?_) ?_ hHeld ?_
  rotate_left
  · intro w hSw
    try dsimp only at hSw
    go_simp <;> with_reducible rfl
  try simp only [Act.put, List.setIfInBounds_toArray, List.set_cons_zero, List.set_cons_succ]
  refine takeA 13 1 (v := ?_) ?_ hHeld ?_
  rotate_left
  · intro w hSw
    try dsimp only at hSw
    go_simp <;> with_reducible rfl
  try simp only [Act.put, List.setIfInBounds_toArray, List.set_cons_zero, List.set_cons_succ]
  refine takeA 14 2 (v := ?_) ?_ hHeld ?_
  rotate_left
  · intro w hSw
    try dsimp only at hSw
    go_simp <;> with_reducible rfl
  try simp only [Act.put, List.setIfInBounds_toArray, List.set_cons_zero, List.set_cons_succ]
  refine takeA 15 3 (v := ?_) ?_ hHeld ?_
  rotate_left
  · intro w hSw
    try dsimp only at hSw
    go_simp <;> with_reducible rfl
  try simp only [Act.put, List.setIfInBounds_toArray, List.set_cons_zero, List.set_cons_succ]
  refine takeA 16 4 (v := ?_) ?_ hHeld ?_
  rotate_left
  · intro w hSw
    try dsimp only at hSw
    go_simp <;> with_reducible rfl
  try simp only [Act.put, List.setIfInBounds_toArray, List.set_cons_zero, List.set_cons_succ]
  refine takeA 17 5 (v := ?_) ?_ hHeld ?_
  rotate_left
  · intro w hSw
    try dsimp only at hSw
    go_simp <;> with_reducible rfl
  try simp only [Act.put, List.setIfInBounds_toArray, List.set_cons_zero, List.set_cons_succ]
  refine takeA 18 6 (v := ?_) ?_ hHeld ?_
  rotate_left
  · intro w hSw
    try dsimp only at hSw
    go_simp <;> with_reducible rfl
  try simp only [Act.put, List.setIfInBounds_toArray, List.set_cons_zero, List.set_cons_succ]
  refine takeA 19 7 (v := ?_) ?_ hHeld ?_
  rotate_left
  · intro w hSw
    try dsimp only at hSw
    go_simp <;> with_reducible rfl
  try simp only [Act.put, List.setIfInBounds_toArray, List.set_cons_zero, List.set_cons_succ]
  refine takeA 20 8 (v := ?_) ?_ hHeld ?_
  rotate_left
  · intro w hSw
    try dsimp only at hSw
    go_simp <;> with_reducible rfl
  try simp only [Act.put, List.setIfInBounds_toArray, List.set_cons_zero, List.set_cons_succ]
  refine takeA 21 9 (v := ?_) ?_ hHeld ?_
  rotate_left
  · intro w hSw
    try dsimp only at hSw
    go_simp <;> with_reducible rfl
  try simp only [Act.put, List.setIfInBounds_toArray, List.set_cons_zero, List.set_cons_succ]
  refine takeA 22 10 (v := ?_) ?_ hHeld ?_
  rotate_left
  · intro w hSw
    try dsimp only at hSw
    go_simp <;> with_reducible rfl
  try simp only [Act.put, List.setIfInBounds_toArray, List.set_cons_zero, List.set_cons_succ]
  refine takeA 23 11 (v := ?_) ?_ hHeld ?_
  rotate_left
  · intro w hSw
    try dsimp only at hSw
    go_simp <;> with_reducible rfl
  try simp only [Act.put, List.setIfInBounds_toArray, List.set_cons_zero, List.set_cons_succ]
  refine takeA 24 12 (v := ?_) ?_ hHeld ?_
  rotate_left
  · intro w hSw
    try dsimp only at hSw
    go_simp <;> with_reducible rfl
  try simp only [Act.put, List.setIfInBounds_toArray, List.set_cons_zero, List.set_cons_succ]
  refine takeA 25 13 (v := ?_) ?_ hHeld ?_
  rotate_left
  · intro w hSw
    try dsimp only at hSw
    go_simp <;> with_reducible rfl
  try simp only [Act.put, List.setIfInBounds_toArray, List.set_cons_zero, List.set_cons_succ]
  refine takeA 4 14 (v := ?_) ?_ hHeld ?_
  rotate_left
  · intro w hSw
    try dsimp only at hSw
    go_simp <;> with_reducible rfl
  try simp only [Act.put, List.setIfInBounds_toArray, List.set_cons_zero, List.set_cons_succ]
  refine wpAnyH_done (by kernel_rfl) ?_ _
  go_wp2_with fail
  go_ret
  exact ⟨rfl, HB.out.drew⟩
set_option maxRecDepth 100000 in
set_option maxHeartbeats 3200000 in
theorem told_at (q : Nat) (k p : Int) (t : ByteArray) (w : World) (hq : w.heap[q]? = some (.cells #[.int .i64 k, .int .i64 p, .string t] 62 (0, 0))) (hg : HasErr w) (hk : k ≠ 0) :
    Calls Tryd.prog 9 #[.iface 60 (.pointer (some ⟨q, 0, none⟩)), .agg #[.int .i64 k, .int .i64 p, .string t]] w fun e w' => e = .returned (.bool true) ∧ Below w.heap.size w w' := by
  have he := (fun W : World => (run_eql_held_nil W 24 60 _ (by kernel_rfl) : (binOp .eql 24 (.iface 60 (.pointer (some ⟨q, 0, none⟩))) .nilIface).run Tryd.prog W = .ok (.bool false) W))
  have heq : ∀ W : World, (binOp .eql 29 (.agg #[.int .i64 k, .int .i64 p, .string t]) (.agg #[.int .i64 k, .int .i64 p, .string t])).run Tryd.prog W = .ok (.bool true) W := fun W => eql_f29 W k p t
  have hkz : (k == 0) = false := by rw [beq_eq_false_iff_ne]; exact hk
  have hB0 : Below w.heap.size w (w.alloc (.cells #[.int .i64 k, .int .i64 p, .string t] 29)) := (Below.refl _ _).alloc (Nat.le_refl _) _
  have HB := Aside0.mk hB0
  have K0 := Aside0.mk (heap_alloc_new w (.cells #[.int .i64 k, .int .i64 p, .string t] 29))
  have KQ := Aside0.mk (blk_below hq hB0)
  have HG := Aside0.mk (hg.below hB0)
  clear hq hg hk
  clear hB0
  go_enter Tryd.func9, Tryd.ntmps9
  go_wp2_with fail
  generalize w.alloc (.cells #[.int .i64 k, .int .i64 p, .string t] 29) = wa at *
  refine (fault_at q k p t _ KQ.out HG.out).mono ?_
  rintro e w1 ⟨rfl, hB⟩
  replace K0 := Aside0.mk (blk_below K0.out hB)
  replace HB := Aside0.mk (below_then HB.out HB.out.size hB)
  have hbl := blk_lt K0.out
  clear hB
  go_wp2_with fail
  have hB1 : Below w1.heap.size w1 (w1.alloc (.cells #[.int .i64 k, .int .i64 p, .string t] 29)) := (Below.refl _ _).alloc (Nat.le_refl _) _
  have K1 := Aside0.mk (heap_alloc_new w1 (.cells #[.int .i64 k, .int .i64 p, .string t] 29))
  replace K0 := Aside0.mk (blk_below K0.out hB1)
  replace HB := Aside0.mk (below_then HB.out HB.out.size hB1)
  clear hB1
  generalize w1.alloc (.cells #[.int .i64 k, .int .i64 p, .string t] 29) = w2 at *
  generalize w1.heap.size = n1 at *
  have c0 := (blk_cell K0.out 0).trans rfl
  have c1 := (blk_cell K0.out 1).trans rfl
  have c2 := (blk_cell K0.out 2).trans rfl
  have d0 := (blk_cell K1.out 0).trans rfl
  have d1 := (blk_cell K1.out 1).trans rfl
  have d2 := (blk_cell K1.out 2).trans rfl
  simp at c0 c1 c2 d0 d1 d2
  refine wp_region_held_drew (S := fun w' => (w'.cell? ⟨w.heap.size, 0, none⟩ = some (.int .i64 k) ∧ w'.cell? ⟨w.heap.size, 1, none⟩ = some (.int .i64 p) ∧ w'.cell? ⟨w.heap.size, 2, none⟩ = some (.string t)) ∧ (w'.cell? ⟨n1, 0, none⟩ = some (.int .i64 k) ∧ w'.cell? ⟨n1, 1, none⟩ = some (.int .i64 p) ∧ w'.cell? ⟨n1, 2, none⟩ = some (.string t))) (by kernel_rfl) ⟨⟨c0, c1, c2⟩, d0, d1, d2⟩ (fun hHeld => ?_)
  clear c0 c1 c2 d0 d1 d2
  refine takeA 12 0 (v := ?_) ?_ hHeld ?_
  rotate_left
  · intro w hSw
    try dsimp only at hSw
    go_simp <;> with_reducible rfl
  try simp only [Act.put, List.setIfInBounds_toArray, List.set_cons_zero, List.set_cons_succ]
  refine takeA 13 1 (v := ?_) ?_ hHeld ?_
  rotate_left
  · intro w hSw
    try dsimp only at hSw
    go_simp <;> with_reducible rfl
  try simp only [Act.put, List.setIfInBounds_toArray, List.set_cons_zero, List.set_cons_succ]
  refine takeA 14 2 (v := ?_) ?_ hHeld ?_
  rotate_left
  · intro w hSw
    try dsimp only at hSw
    go_simp <;> with_reducible rfl
  try simp only [Act.put, List.setIfInBounds_toArray, List.set_cons_zero, List.set_cons_succ]
  refine takeA 15 3 (v := ?_) ?_ hHeld ?_
  rotate_left
  · intro w hSw
    try dsimp only at hSw
    go_simp <;> with_reducible rfl
  try simp only [Act.put, List.setIfInBounds_toArray, List.set_cons_zero, List.set_cons_succ]
  refine takeA 16 4 (v := ?_) ?_ hHeld ?_
  rotate_left
  · intro w hSw
    try dsimp only at hSw
    go_simp <;> with_reducible rfl
  try simp only [Act.put, List.setIfInBounds_toArray, List.set_cons_zero, List.set_cons_succ]
  refine takeA 17 5 (v := ?_) ?_ hHeld ?_
  rotate_left
  · intro w hSw
    try dsimp only at hSw
    go_simp <;> with_reducible rfl
  try simp only [Act.put, List.setIfInBounds_toArray, List.set_cons_zero, List.set_cons_succ]
  refine takeA 18 6 (v := ?_) ?_ hHeld ?_
  rotate_left
  · intro w hSw
    try dsimp only at hSw
    go_simp <;> with_reducible rfl
  try simp only [Act.put, List.setIfInBounds_toArray, List.set_cons_zero, List.set_cons_succ]
  refine takeA 19 7 (v := ?_) ?_ hHeld ?_
  rotate_left
  · intro w hSw
    try dsimp only at hSw
    go_simp <;> with_reducible rfl
  try simp only [Act.put, List.setIfInBounds_toArray, List.set_cons_zero, List.set_cons_succ]
  refine takeA 20 8 (v := ?_) ?_ hHeld ?_
  rotate_left
  · intro w hSw
    try dsimp only at hSw
    go_simp <;> with_reducible rfl
  try simp only [Act.put, List.setIfInBounds_toArray, List.set_cons_zero, List.set_cons_succ]
  refine takeA 21 9 (v := ?_) ?_ hHeld ?_
  rotate_left
  · intro w hSw
    try dsimp only at hSw
    go_simp <;> with_reducible rfl
  try simp only [Act.put, List.setIfInBounds_toArray, List.set_cons_zero, List.set_cons_succ]
  refine takeA 22 10 (v := ?_) ?_ hHeld ?_
  rotate_left
  · intro w hSw
    try dsimp only at hSw
    go_simp <;> with_reducible rfl
  try simp only [Act.put, List.setIfInBounds_toArray, List.set_cons_zero, List.set_cons_succ]
  refine takeA 23 11 (v := ?_) ?_ hHeld ?_
  rotate_left
  · intro w hSw
    try dsimp only at hSw
    go_simp <;> with_reducible rfl
  try simp only [Act.put, List.setIfInBounds_toArray, List.set_cons_zero, List.set_cons_succ]
  refine takeA 24 12 (v := ?_) ?_ hHeld ?_
  rotate_left
  · intro w hSw
    try dsimp only at hSw
    go_simp <;> with_reducible rfl
  try simp only [Act.put, List.setIfInBounds_toArray, List.set_cons_zero, List.set_cons_succ]
  refine takeA 25 13 (v := ?_) ?_ hHeld ?_
  rotate_left
  · intro w hSw
    try dsimp only at hSw
    go_simp <;> with_reducible rfl
  try simp only [Act.put, List.setIfInBounds_toArray, List.set_cons_zero, List.set_cons_succ]
  refine takeA 4 14 (v := ?_) ?_ hHeld ?_
  rotate_left
  · intro w hSw
    try dsimp only at hSw
    go_simp <;> with_reducible rfl
  try simp only [Act.put, List.setIfInBounds_toArray, List.set_cons_zero, List.set_cons_succ]
  refine wpAnyH_done (by kernel_rfl) ?_ _
  go_wp2_with fail
  go_ret
  exact ⟨rfl, HB.out.drew⟩
end Go.Proofs.YtjmpejbciniceaaDoor.X
