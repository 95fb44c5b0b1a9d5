/- Small facts on cells and blocks. -/
import Derived.Test.YtamfknhgjkmdfaaDoorHRegG
namespace Go.Proofs.YtamfknhgjkmdfaaDoor.X
open Go.RowKit Go.Proofs.YtamfknhgjkmdfaaDoorW.PrintWords Go.Proofs.YtamfknhgjkmdfaaDoorW.PrintLast Go.Proofs.YtamfknhgjkmdfaaDoorW.PrintMore
set_option linter.unusedVariables false
set_option linter.unusedSimpArgs false
theorem blk_putf {w : World} {g : Nat} {o : Obj} (h : w.heap[g]? = some o) {p : Addr} {u : Value} (hp : g ≠ p.block) : (w.setCell p u).heap[g]? = some o := (Below.heap_setCell w p u g hp).trans h
theorem put_two {w : World} {g : Nat} {c0 c1 : Value} {t : TypeId} (h : w.heap[g]? = some (.cells #[c0, c1] t (0, 0))) (x0 x1 : Value) : ((w.setCell ⟨g, 0, none⟩ x0).setCell ⟨g, 1, none⟩ x1).heap[g]? = some (.cells #[x0, x1] t (0, 0)) :=
  blk_put (cs := #[x0, c1]) (blk_put h 0 _ rfl) 1 _ rfl
theorem cells2 {w : World} {g : Nat} {t : TypeId} {a b : Value} (h : w.heap[g]? = some (.cells #[a, b] t (0, 0))) : w.cell? ⟨g, 0, none⟩ = some a ∧ w.cell? ⟨g, 1, none⟩ = some b ∧ w.frozen? ⟨g, 0, none⟩ = false ∧ w.frozen? ⟨g, 1, none⟩ = false :=
  ⟨(blk_cell h 0).trans rfl, (blk_cell h 1).trans rfl, blk_frozen h 0, blk_frozen h 1⟩
theorem set_far {w : World} {g : Nat} {i : Nat} {v : Value} {p : Addr} {u : Value} (h : w.cell? ⟨g, i, none⟩ = some v) (hp : p.block ≠ g) : (w.setCell p u).cell? ⟨g, i, none⟩ = some v := (World.cell?_setCell_far _ _ _ _ hp).trans h
theorem bytes_below (w : World) (t : ByteArray) : Below w.heap.size w (Lib.bytesWorld w 5 t) := ⟨rfl, rfl, rfl, by rw [Lib.bytesWorld_size]; omega, fun k hk => Lib.bytesWorld_at_old w 5 t k hk⟩
theorem extract_list (s : ByteArray) (i j : Nat) : (s.extract i j).data.toList = (s.data.toList.take j).drop i := by simp [List.drop_take]
theorem extract_take (s : ByteArray) (k : Nat) : (s.extract 0 k).data.toList = s.data.toList.take k := by rw [extract_list]; simp
theorem rbelow2 (w : World) (a b : Array Value) (ta tb : TypeId) : Below w.heap.size w ((w.alloc (.cells a ta)).alloc (.cells b tb)) := ((Below.refl _ _).alloc (Nat.le_refl _) _).alloc (by simp) _
theorem rnew2 (w : World) (o : Obj) (a : Array Value) (t : TypeId) : ((w.alloc o).alloc (.cells a t)).heap[w.heap.size + 1]? = some (.cells a t (0, 0)) := by
  have := heap_alloc_new (w.alloc o) (.cells a t)
  simpa using this
end Go.Proofs.YtamfknhgjkmdfaaDoor.X
