/- errors.Join of three errors, by its contract. -/
import Derived.Test.YtamfknhgjkmdfaaDoorHMade0
namespace Go.Proofs.YtamfknhgjkmdfaaDoor.X
open Go.RowKit Go.Proofs.YtamfknhgjkmdfaaDoorW.PrintWords Go.Proofs.YtamfknhgjkmdfaaDoorW.PrintLast Go.Proofs.YtamfknhgjkmdfaaDoorW.PrintMore
set_option linter.unusedVariables false
set_option linter.unusedSimpArgs false
set_option maxRecDepth 100000 in
set_option maxHeartbeats 3200000 in
theorem join_calls (b : Nat) (p q : Option Addr) (n : Int) (w : World) (h0 : w.cell? ⟨b, 0, none⟩ = some (.iface 83 (.pointer p))) (h1 : w.cell? ⟨b, 1, none⟩ = some (.iface 22 (.int .i64 n))) (h2 : w.cell? ⟨b, 2, none⟩ = some (.iface 34 (.pointer q))) :
    Calls Tryd.prog 29 #[.slice (some ⟨b, 0, none⟩) 3 3] w fun e w' => ∃ J m cap, e = .returned (.iface 87 (.pointer (some ⟨J, 0, none⟩))) ∧ Below w.heap.size w w' ∧ w'.cell? ⟨J, 0, none⟩ = some (.slice (some ⟨m, 0, none⟩) 3 cap) ∧
      w'.cell? ⟨m, 0, none⟩ = some (.iface 83 (.pointer p)) ∧ w'.cell? ⟨m, 1, none⟩ = some (.iface 22 (.int .i64 n)) ∧ w'.cell? ⟨m, 2, none⟩ = some (.iface 34 (.pointer q)) := by
  have hn : ∀ (T : TypeId) (x : Value) (W : World), (binOp .neq 47 (.iface T x) .nilIface).run Tryd.prog W = .ok (.bool true) W := fun T x W => run_neq_held_nil W 47 T x (by kernel_rfl)
  have hmk : ∀ W : World, (Instr.makeSlice 86 (.int .i64 0) (.int .i64 3)).run Tryd.prog W = .ok (.slice (some ⟨W.heap.size, 0, none⟩) 0 3) (W.alloc (.cells #[.nilIface, .nilIface, .nilIface] 47)) := fun W => by kernel_rfl
  have hb := cell_lt h0
  go_enter Tryd.func29, Tryd.ntmps29
  go_wp2_with fail
  refine wp_loop_rounds 4 ?_
  rw [rounds_succ]
  go_wp2_with fail
  rw [rounds_succ]
  go_wp2_with fail
  rw [rounds_succ]
  go_wp2_with fail
  rw [rounds_succ]
  go_wp2_with fail
  refine wp_loop_rounds 4 ?_
  rw [rounds_succ]
  go_wp2_with fail
  have K0 := Aside0.mk (blk_alloc (blk_alloc (heap_alloc_new w (.cells #[.iface 83 (.pointer p), .nilIface, .nilIface] 47)) (.cells #[.slice (some ⟨w.heap.size, 0, none⟩) 1 3] 89)) (.cells #[.iface 83 (.pointer p)] 47))
  have KJ := Aside0.mk (blk_alloc (rnew2 w (.cells #[.iface 83 (.pointer p), .nilIface, .nilIface] 47) #[.slice (some ⟨w.heap.size, 0, none⟩) 1 3] 89) (.cells #[.iface 83 (.pointer p)] 47))
  have HB := Aside0.mk (below3 w (.cells #[.iface 83 (.pointer p), .nilIface, .nilIface] 47) (.cells #[.slice (some ⟨w.heap.size, 0, none⟩) 1 3] 89) (.cells #[.iface 83 (.pointer p)] 47))
  have HZ : Aside0 ((((w.alloc (.cells #[.iface 83 (.pointer p), .nilIface, .nilIface] 47)).alloc (.cells #[.slice (some ⟨w.heap.size, 0, none⟩) 1 3] 89)).alloc (.cells #[.iface 83 (.pointer p)] 47)).heap.size = w.heap.size + 1 + 1 + 1) := .mk (by simp)
  generalize (((w.alloc (.cells #[.iface 83 (.pointer p), .nilIface, .nilIface] 47)).alloc (.cells #[.slice (some ⟨w.heap.size, 0, none⟩) 1 3] 89)).alloc (.cells #[.iface 83 (.pointer p)] 47)) = w1 at *
  have cb := (HB.out.cell (p := ⟨b, 1, none⟩) hb).trans h1
  have m0 := (blk_cell K0.out 0).trans rfl
  have m1 := (blk_cell K0.out 1).trans rfl
  have m2 := (blk_cell K0.out 2).trans rfl
  have mz := fun i => blk_frozen K0.out i
  have j0 := (blk_cell KJ.out 0).trans rfl
  have jz := blk_frozen KJ.out 0
  have hz := HZ.out
  simp at m0 m1 m2 j0
  rw [rounds_succ]
  go_wp2_with fail
  clear cb m0 m1 m2 mz j0 jz
  have k0 := blk_alloc (blk_putf (p := ⟨w.heap.size + 1, 0, none⟩) (u := .slice (some ⟨w.heap.size, 0, none⟩) 2 3) (blk_put K0.out 1 (.iface 22 (.int .i64 n)) rfl) (by show w.heap.size ≠ w.heap.size + 1; omega)) (.cells #[(.iface 22 (.int .i64 n))] 47)
  have kj := blk_alloc (blk_put (blk_putf (p := ⟨w.heap.size, 1, none⟩) (u := (.iface 22 (.int .i64 n))) KJ.out (by show w.heap.size + 1 ≠ w.heap.size; omega)) 0 (.slice (some ⟨w.heap.size, 0, none⟩) 2 3) rfl) (.cells #[(.iface 22 (.int .i64 n))] 47)
  have hb3 := (((HB.out.setCell (p := ⟨w.heap.size, 1, none⟩) (Nat.le_refl _) (.iface 22 (.int .i64 n))).setCell (p := ⟨w.heap.size + 1, 0, none⟩) (by show w.heap.size ≤ w.heap.size + 1; omega) (.slice (some ⟨w.heap.size, 0, none⟩) 2 3)).alloc (by simp [World.setCell]; omega) (.cells #[(.iface 22 (.int .i64 n))] 47))
  have hz3 : (((w1.setCell ⟨w.heap.size, 1, none⟩ (.iface 22 (.int .i64 n))).setCell ⟨w.heap.size + 1, 0, none⟩ (.slice (some ⟨w.heap.size, 0, none⟩) 2 3)).alloc (.cells #[(.iface 22 (.int .i64 n))] 47)).heap.size = w1.heap.size + 1 := by simp [World.setCell]
  rw [hz] at hz3
  replace K0 := Aside0.mk k0
  replace KJ := Aside0.mk kj
  replace HB := Aside0.mk hb3
  clear k0 kj hb3 hz HZ
  have hz := hz3
  have HZ := Aside0.mk hz3
  clear hz3
  generalize (((w1.setCell ⟨w.heap.size, 1, none⟩ (.iface 22 (.int .i64 n))).setCell ⟨w.heap.size + 1, 0, none⟩ (.slice (some ⟨w.heap.size, 0, none⟩) 2 3)).alloc (.cells #[(.iface 22 (.int .i64 n))] 47)) = w2 at *
  have cb := (HB.out.cell (p := ⟨b, 2, none⟩) hb).trans h2
  have m0 := (blk_cell K0.out 0).trans rfl
  have m1 := (blk_cell K0.out 1).trans rfl
  have m2 := (blk_cell K0.out 2).trans rfl
  have mz := fun i => blk_frozen K0.out i
  have j0 := (blk_cell KJ.out 0).trans rfl
  have jz := blk_frozen KJ.out 0
  simp at m0 m1 m2 j0
  rw [rounds_succ]
  go_wp2_with fail
  clear cb m0 m1 m2 mz j0 jz
  have k0 := blk_alloc (blk_putf (p := ⟨w.heap.size + 1, 0, none⟩) (u := .slice (some ⟨w.heap.size, 0, none⟩) 3 3) (blk_put K0.out 2 (.iface 34 (.pointer q)) rfl) (by show w.heap.size ≠ w.heap.size + 1; omega)) (.cells #[(.iface 34 (.pointer q))] 47)
  have kj := blk_alloc (blk_put (blk_putf (p := ⟨w.heap.size, 2, none⟩) (u := (.iface 34 (.pointer q))) KJ.out (by show w.heap.size + 1 ≠ w.heap.size; omega)) 0 (.slice (some ⟨w.heap.size, 0, none⟩) 3 3) rfl) (.cells #[(.iface 34 (.pointer q))] 47)
  have hb3 := (((HB.out.setCell (p := ⟨w.heap.size, 2, none⟩) (Nat.le_refl _) (.iface 34 (.pointer q))).setCell (p := ⟨w.heap.size + 1, 0, none⟩) (by show w.heap.size ≤ w.heap.size + 1; omega) (.slice (some ⟨w.heap.size, 0, none⟩) 3 3)).alloc (by simp [World.setCell]; omega) (.cells #[(.iface 34 (.pointer q))] 47))
  have hz3 : (((w2.setCell ⟨w.heap.size, 2, none⟩ (.iface 34 (.pointer q))).setCell ⟨w.heap.size + 1, 0, none⟩ (.slice (some ⟨w.heap.size, 0, none⟩) 3 3)).alloc (.cells #[(.iface 34 (.pointer q))] 47)).heap.size = w2.heap.size + 1 := by simp [World.setCell]
  rw [hz] at hz3
  replace K0 := Aside0.mk k0
  replace KJ := Aside0.mk kj
  replace HB := Aside0.mk hb3
  clear k0 kj hb3 hz HZ
  have hz := hz3
  have HZ := Aside0.mk hz3
  clear hz3
  generalize (((w2.setCell ⟨w.heap.size, 2, none⟩ (.iface 34 (.pointer q))).setCell ⟨w.heap.size + 1, 0, none⟩ (.slice (some ⟨w.heap.size, 0, none⟩) 3 3)).alloc (.cells #[(.iface 34 (.pointer q))] 47)) = w3 at *
  rw [rounds_succ]
  go_wp2_with fail
  go_ret
  refine ⟨w.heap.size + 1, w.heap.size, 3, rfl, HB.out, (blk_cell KJ.out 0).trans rfl, (blk_cell K0.out 0).trans rfl, (blk_cell K0.out 1).trans rfl, (blk_cell K0.out 2).trans rfl⟩
end Go.Proofs.YtamfknhgjkmdfaaDoor.X
