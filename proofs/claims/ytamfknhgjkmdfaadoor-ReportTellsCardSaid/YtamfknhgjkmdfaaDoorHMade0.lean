/- errors.New, errors.Join by their contracts; report.Fault at a text's error and at a nil fault. -/
import Derived.Test.YtamfknhgjkmdfaaDoorHFaultN
import Derived.Test.YtamfknhgjkmdfaaDoorHAs35
namespace Go.Proofs.YtamfknhgjkmdfaaDoor.X
open Go.RowKit Go.Proofs.YtamfknhgjkmdfaaDoorW.PrintWords Go.Proofs.YtamfknhgjkmdfaaDoorW.PrintLast Go.Proofs.YtamfknhgjkmdfaaDoorW.PrintMore
set_option linter.unusedVariables false
set_option linter.unusedSimpArgs false
theorem new_calls (s : ByteArray) (w : World) : Calls Tryd.prog 28 #[.string s] w fun e w' => e = .returned (.iface 83 (.pointer (some ⟨w.heap.size, 0, none⟩))) ∧ w' = w.alloc (.cells #[.string s] 85) := by
  go_enter Tryd.func28, Tryd.ntmps28
  go_wp2_with fail
  go_ret
  exact ⟨rfl, rfl⟩
theorem errText_calls (q : Nat) (s : ByteArray) (w : World) (h : w.cell? ⟨q, 0, none⟩ = some (.string s)) : Calls Tryd.prog 93 #[.pointer (some ⟨q, 0, none⟩)] w fun e w' => e = .returned (.string s) ∧ w' = w := by
  go_enter Tryd.func93, Tryd.ntmps93
  go_wp2_with fail
  go_ret
  exact ⟨rfl, rfl⟩
theorem methodError (v : Value) (w : World) : (Go.method 259 83 v "Error").run Tryd.prog w = .ok (93, v) w := by kernel_rfl
/-- errors.As finds no fault, no number in a text's error. -/
theorem as_text_no (q : Addr) (w : World) (hE : HasErr w) : AsNo (.iface 83 (.pointer (some q))) w := by
  intro t
  refine (as16F 83 _ t w hE (fun w' v w'' => v = .bool false ∧ Below w'.heap.size w' w'') (fun w' b hb _ _ => (as33F_no83 _ _ b w').mono ?_)).mono ?_
  · rintro e w'' ⟨rfl, h⟩; exact ⟨_, rfl, rfl, h⟩
  · rintro e w'' ⟨w', v, hb, rfl, rfl, h⟩; exact ⟨rfl, below_then hb hb.size h⟩
def AsNoNum (e : Value) (w : World) : Prop := ∀ t, Calls Tryd.prog 16 #[e, .iface 55 (.pointer (some t))] w fun ev w' => ev = .returned (.bool false) ∧ Below w.heap.size w w'
theorem as_text_nonum (q : Addr) (w : World) (hE : HasErr w) : AsNoNum (.iface 83 (.pointer (some q))) w := by
  intro t
  refine (as16N 83 _ t w hE (fun w' v w'' => v = .bool false ∧ Below w'.heap.size w' w'') (fun w' b hb _ _ => (as33N_no83 _ _ b w').mono ?_)).mono ?_
  · rintro e w'' ⟨rfl, h⟩; exact ⟨_, rfl, rfl, h⟩
  · rintro e w'' ⟨w', v, hb, rfl, rfl, h⟩; exact ⟨rfl, below_then hb hb.size h⟩
/-- What errors.as lays down, seen from errors.As. -/
theorem to16F (T : TypeId) (x v : Value) (w : World) (hE : HasErr w) (h : ∀ w' t b old, Below w.heap.size w w' → w'.cell? b = some (.pointer (some t)) → w'.cell? t = some old → w'.frozen? t = false →
    Calls Tryd.prog 33 #[.iface T x, .iface 52 (.pointer (some t)), tval 52 b, ttyp 34] w' fun ev w'' => ev = .returned (.bool true) ∧ ∃ w1, Below w'.heap.size w' w1 ∧ w'' = w1.setCell t v) : AsTo (.iface T x) v w := by
  intro t old h1 h2
  have htl := World.block_lt_of_cell? w t h1
  refine (as16F T x t w hE (fun w' u w'' => u = .bool true ∧ ∃ w1, Below w'.heap.size w' w1 ∧ w'' = w1.setCell t v) (fun w' b hb _ hc => (h w' t b old hb hc ((hb.cell htl).trans h1) ((hb.frozen htl).trans h2)).mono ?_)).mono ?_
  · rintro e w'' ⟨rfl, h⟩; exact ⟨_, rfl, rfl, h⟩
  · rintro e w'' ⟨w', u, hb, rfl, rfl, w1, h3, rfl⟩; exact ⟨rfl, w1, below_then hb hb.size h3, rfl⟩
theorem to16N (T : TypeId) (x : Value) (n : Int) (w : World) (hE : HasErr w) (h : ∀ w' t b old, Below w.heap.size w w' → w'.cell? b = some (.pointer (some t)) → w'.cell? t = some old → w'.frozen? t = false →
    Calls Tryd.prog 33 #[.iface T x, .iface 55 (.pointer (some t)), tval 55 b, ttyp 22] w' fun ev w'' => ev = .returned (.bool true) ∧ ∃ w1, Below w'.heap.size w' w1 ∧ w'' = w1.setCell t (.int .i64 n)) : AsNum (.iface T x) n w := by
  intro t old h1 h2
  have htl := World.block_lt_of_cell? w t h1
  refine (as16N T x t w hE (fun w' u w'' => u = .bool true ∧ ∃ w1, Below w'.heap.size w' w1 ∧ w'' = w1.setCell t (.int .i64 n)) (fun w' b hb _ hc => (h w' t b old hb hc ((hb.cell htl).trans h1) ((hb.frozen htl).trans h2)).mono ?_)).mono ?_
  · rintro e w'' ⟨rfl, h⟩; exact ⟨_, rfl, rfl, h⟩
  · rintro e w'' ⟨w', u, hb, rfl, rfl, w1, h3, rfl⟩; exact ⟨rfl, w1, below_then hb hb.size h3, rfl⟩
theorem one_no (tx : ByteArray) (n : Int) (w : World) (hE : HasErr w) : AsNo (.iface 66 (.agg #[.string tx, .iface 22 (.int .i64 n)])) w := by
  intro t
  refine (as16F 66 _ t w hE (fun w' v w'' => v = .bool false ∧ Below w'.heap.size w' w'') (fun w' b hb _ _ => (as33F_oneno tx n _ b w').mono ?_)).mono ?_
  · rintro e w'' ⟨rfl, h⟩; exact ⟨_, rfl, rfl, h⟩
  · rintro e w'' ⟨w', v, hb, rfl, rfl, h⟩; exact ⟨rfl, below_then hb hb.size h⟩
set_option maxRecDepth 100000 in
set_option maxHeartbeats 3200000 in
theorem fault_text (s tx : ByteArray) (q : Nat) (w : World) (hE : Env w) (hq : w.heap[q]? = some (.cells #[.string tx] 85 (0, 0))) :
    Calls Tryd.prog 6 #[.string s, .iface 83 (.pointer (some ⟨q, 0, none⟩))] w fun en w' => en = .returned (.string tx) ∧ Below w.heap.size w w' := by
  have he : ∀ W : World, (binOp .eql 47 (.iface 83 (.pointer (some ⟨q, 0, none⟩))) .nilIface).run Tryd.prog W = .ok (.bool false) W := fun W => run_eql_held_nil W 47 83 _ (by kernel_rfl)
  have mE := methodError
  have hB0 := rbelow2 w #[.pointer none] #[.int .i64 0] 34 22
  have HB := Aside0.mk hB0
  have K0 := Aside0.mk (blk_alloc (heap_alloc_new w (.cells #[.pointer none] 34)) (.cells #[.int .i64 0] 22))
  have HA := Aside0.mk (as_text_no ⟨q, 0, none⟩ _ (hE.below hB0).err)
  have HE := Aside0.mk hE
  have HQ := Aside0.mk hq
  clear hB0 hE hq
  go_enter Tryd.func6, Tryd.ntmps6
  go_wp2_with fail
  generalize ((w.alloc (.cells #[.pointer none] 34)).alloc (.cells #[.int .i64 0] 22)) = wa at *
  refine (HA.out ⟨w.heap.size, 0, none⟩).mono ?_
  rintro en w1 ⟨rfl, hb⟩
  replace K0 := Aside0.mk (blk_below K0.out hb)
  replace HB := Aside0.mk (below_then HB.out HB.out.size hb)
  clear hb HA
  have c0 : w1.cell? ⟨w.heap.size, 0, none⟩ = some (.pointer none) := bcl K0.out
  go_wp2_with fail
  refine (as_text_nonum ⟨q, 0, none⟩ w1 (HE.out.below HB.out).err ⟨w.heap.size + 1, 0, none⟩).mono ?_
  rintro en w2 ⟨rfl, hb⟩
  replace HB := Aside0.mk (below_then HB.out HB.out.size hb)
  clear hb c0 K0
  go_wp2_with fail
  refine (errText_calls q tx w2 ((blk_cell (blk_below HQ.out HB.out) 0).trans rfl)).mono ?_
  rintro en w3 ⟨rfl, rfl⟩
  go_wp2_with fail
  go_ret
  exact ⟨rfl, HB.out⟩
set_option maxRecDepth 100000 in
set_option maxHeartbeats 3200000 in
theorem fault_nilp (s : ByteArray) (w : World) (hE : Env w) :
    Calls Tryd.prog 6 #[.string s, .iface 34 (.pointer none)] w fun en w' => en = .returned (.string ⟨#[]⟩) ∧ Below w.heap.size w w' := by
  have he : ∀ W : World, (binOp .eql 47 (.iface 34 (.pointer none)) .nilIface).run Tryd.prog W = .ok (.bool false) W := fun W => run_eql_held_nil W 47 34 _ (by kernel_rfl)
  have hB0 := rbelow2 w #[.pointer none] #[.int .i64 0] 34 22
  have HB := Aside0.mk hB0
  have K0 := Aside0.mk (blk_alloc (heap_alloc_new w (.cells #[.pointer none] 34)) (.cells #[.int .i64 0] 22))
  have HA := Aside0.mk (to16F 34 (.pointer none) (.pointer none) _ (hE.below hB0).err (fun w' t b old _ hb h1 h2 => as33F_hit none t b old w' hb h1 h2))
  clear hB0 hE
  go_enter Tryd.func6, Tryd.ntmps6
  go_wp2_with fail
  generalize ((w.alloc (.cells #[.pointer none] 34)).alloc (.cells #[.int .i64 0] 22)) = wa at *
  refine (HA.out ⟨w.heap.size, 0, none⟩ (.pointer none) (bcl K0.out) (blk_frozen K0.out 0)).mono ?_
  rintro en w1 ⟨rfl, wx, hbx, rfl⟩
  have k0 : (wx.setCell ⟨w.heap.size, 0, none⟩ (.pointer none)).heap[w.heap.size]? = some (.cells #[.pointer none] 34 (0, 0)) := blk_put (cs := #[.pointer none]) (blk_below K0.out hbx) 0 _ rfl
  have hb2 := (below_then HB.out HB.out.size hbx).setCell (p := ⟨w.heap.size, 0, none⟩) (Nat.le_refl _) (.pointer none)
  replace HB := Aside0.mk hb2
  generalize wx.setCell ⟨w.heap.size, 0, none⟩ (.pointer none) = w3 at *
  have c0 : w3.cell? ⟨w.heap.size, 0, none⟩ = some (.pointer none) := bcl k0
  clear HA K0 hbx k0 hb2
  go_wp2_with fail
  go_ret
  exact ⟨rfl, HB.out⟩
end Go.Proofs.YtamfknhgjkmdfaaDoor.X
