/- Small tools of the walks: what a step keeps. -/
import Derived.Test.YtamhdpllmhafhaaHIs
import Derived.Test.YtamhdpllmhafhaaHRow
namespace Go.Proofs.Ytamhdpllmhafhaa.X
open Go.ChangeShapes Go.WideShapes Go.ChangeAt Go.RowKit Go.Proofs.YtamhdpllmhafhaaW.PrintWords
set_option linter.unusedVariables false

theorem IsT.leaf (w : World) (k : Int) : IsT w (.agg #[.int .i8 k, .slice none 0 0]) ⟨k, []⟩ := ⟨none, 0, rfl, Nat.le_refl _, rfl, by simp, fun h => absurd h (by simp)⟩
theorem new2 (w : World) (o : Obj) (a : Array Value) (t : TypeId) : ((w.alloc o).alloc (.cells a t)).heap[w.heap.size + 1]? = some (.cells a t (0, 0)) := by
  have := heap_alloc_new (w.alloc o) (.cells a t)
  simpa using this
theorem c26_of {W w' : World} {g : Nat} {t : S26} {A : Option Addr} {c : Nat} {u : TypeId} (h : W.heap[g]? = some (.cells #[.int .i8 t.f0, .slice A t.f1.length c] u (0, 0))) (hB : Below W.heap.size W w') : w'.cell? ⟨g, 0, none⟩ = some (.int .i8 t.f0) ∧ w'.cell? ⟨g, 1, none⟩ = some (.slice A t.f1.length c) :=
  ⟨pw_cell_below hB ((blk_cell h 0).trans rfl), pw_cell_below hB ((blk_cell h 1).trans rfl)⟩
theorem below2 (w : World) (a b : Array Value) (ta tb : TypeId) : Below w.heap.size w ((w.alloc (.cells a ta)).alloc (.cells b tb)) := ((Below.refl _ _).alloc (Nat.le_refl _) _).alloc (by simp) _
theorem below1 (w : World) (a : Array Value) (ta : TypeId) : Below w.heap.size w (w.alloc (.cells a ta)) := (Below.refl _ _).alloc (Nat.le_refl _) _
theorem two_blocks {w : World} {a b : Array Value} {ta tb : TypeId} {w1 : World} (hB : Below ((w.alloc (.cells a ta)).alloc (.cells b tb)).heap.size ((w.alloc (.cells a ta)).alloc (.cells b tb)) w1) :
    w1.heap[w.heap.size]? = some (.cells a ta (0, 0)) ∧ w1.heap[w.heap.size + 1]? = some (.cells b tb (0, 0)) ∧ Below w.heap.size w w1 := by
  have h1 := heap_alloc_new w (.cells a ta)
  have h2 := heap_alloc_new (w.alloc (.cells a ta)) (.cells b tb)
  have hb : Below w.heap.size w ((w.alloc (.cells a ta)).alloc (.cells b tb)) := below2 ..
  exact ⟨blk_below (blk_alloc h1 _) hB, blk_below (by simpa using h2) hB, below_then hb hb.size hB⟩
theorem one_block {w : World} {a : Array Value} {ta : TypeId} {w1 : World} (hB : Below (w.alloc (.cells a ta)).heap.size (w.alloc (.cells a ta)) w1) :
    w1.heap[w.heap.size]? = some (.cells a ta (0, 0)) ∧ Below w.heap.size w w1 := by
  have h1 := heap_alloc_new w (.cells a ta)
  have hb : Below w.heap.size w (w.alloc (.cells a ta)) := (Below.refl _ _).alloc (Nat.le_refl _) _
  exact ⟨blk_below h1 hB, below_then hb hb.size hB⟩

/-- An argument of the type api.Type, as a tree. -/
theorem argT {H : Type} {enc : TypeId × Value → H} {w : World} {base : Nat} {spare : Nat → Bool} {held : Bool} {v : Value} {x : DataW H} {ps : List MemPlace} (h : DataW.Trod enc Try.prog w base spare held 26 v x ps) :
    ∃ t : S26, IsT w v t := by
  obtain ⟨k, A, l, c, rfl, h1, h2⟩ := arg26 h
  exact ⟨⟨k, l⟩, IsT.mk h1 h2⟩
end Go.Proofs.Ytamhdpllmhafhaa.X
