/- Small tools of the walks: what a step keeps. -/
import Derived.Test.YtamhdpllmhafhaaHIs
import Derived.Test.YtamhdpllmhafhaaHRow
namespace Go.Proofs.Ytamhdpllmhafhaa.X
open Go.ChangeShapes Go.WideShapes Go.ChangeAt Go.RowKit Go.Proofs.YtamhdpllmhafhaaW.PrintWords
set_option linter.unusedVariables false

theorem IsT.leaf (w : World) (k : Int) : IsT w (.agg #[.int .i8 k, .slice none 0 0]) ⟨k, []⟩ := ⟨none, 0, rfl, Nat.le_refl _, rfl, by simp, fun h => absurd h (by simp)⟩
theorem new2 (w : World) (o : Obj) (a : Array Value) (t : TypeId) : ((w.alloc o).alloc (.cells a t)).heap[w.heap.size + 1]? = some (.cells a t (0, 0)) := by
  have := heap_alloc_new (w.alloc o) (.cells a t)
  simpa using this
theorem c26_of {W w' : World} {g : Nat} {t : S26} {A : Option Addr} {c : Nat} {u : TypeId} (h : W.heap[g]? = some (.cells #[.int .i8 t.f0, .slice A t.f1.length c] u (0, 0))) (hB : Below W.heap.size W w') : w'.cell? ⟨g, 0, none⟩ = some (.int .i8 t.f0) ∧ w'.cell? ⟨g, 1, none⟩ = some (.slice A t.f1.length c) :=
  ⟨pw_cell_below hB ((blk_cell h 0).trans rfl), pw_cell_below hB ((blk_cell h 1).trans rfl)⟩
theorem below2 (w : World) (a b : Array Value) (ta tb : TypeId) : Below w.heap.size w ((w.alloc (.cells a ta)).alloc (.cells b tb)) := ((Below.refl _ _).alloc (Nat.le_refl _) _).alloc (by simp) _
theorem below1 (w : World) (a : Array Value) (ta : TypeId) : Below w.heap.size w (w.alloc (.cells a ta)) := (Below.refl _ _).alloc (Nat.le_refl _) _
theorem two_blocks {w : World} {a b : Array Value} {ta tb : TypeId} {w1 : World} (hB : Below ((w.alloc (.cells a ta)).alloc (.cells b tb)).heap.size ((w.alloc (.cells a ta)).alloc (.cells b tb)) w1) :
    w1.heap[w.heap.size]? = some (.cells a ta (0, 0)) ∧ w1.heap[w.heap.size + 1]? = some (.cells b tb (0, 0)) ∧ Below w.heap.size w w1 := by
  have h1 := heap_alloc_new w (.cells a ta)
  have h2 := heap_alloc_new (w.alloc (.cells a ta)) (.cells b tb)
  have hb : Below w.heap.size w ((w.alloc (.cells a ta)).alloc (.cells b tb)) := below2 ..
  exact ⟨blk_below (blk_alloc h1 _) hB, blk_below (by simpa using h2) hB, below_then hb hb.size hB⟩
theorem one_block {w : World} {a : Array Value} {ta : TypeId} {w1 : World} (hB : Below (w.alloc (.cells a ta)).heap.size (w.alloc (.cells a ta)) w1) :
    w1.heap[w.heap.size]? = some (.cells a ta (0, 0)) ∧ Below w.heap.size w w1 := by
  have h1 := heap_alloc_new w (.cells a ta)
  have hb : Below w.heap.size w (w.alloc (.cells a ta)) := (Below.refl _ _).alloc (Nat.le_refl _) _
  exact ⟨blk_below h1 hB, below_then hb hb.size hB⟩

/-- An argument of the type api.Type, as a tree. -/
theorem argT {H : Type} {enc : TypeId × Value → H} {w : World} {base : Nat} {spare : Nat → Bool} {held : Bool} {v : Value} {x : DataW H} {ps : List MemPlace} (h : DataW.Trod enc Try.prog w base spare held 26 v x ps) :
    ∃ t : S26, IsT w v t := by
  obtain ⟨k, A, l, c, rfl, h1, h2⟩ := arg26 h
  exact ⟨⟨k, l⟩, IsT.mk h1 h2⟩
theorem C_four {w : World} {ad : Addr} {a b : S26} {Aa Ab : Option Addr} {ca cb : Nat} (h0 : w.cell? (ad.add 0) = some (.int .i8 a.f0)) (h1 : w.cell? (ad.add 1) = some (.slice Aa a.f1.length ca)) (h2 : w.cell? (ad.add 2) = some (.int .i8 b.f0)) (h3 : w.cell? (ad.add 3) = some (.slice Ab b.f1.length cb))
    (ha1 : a.f1.length ≤ ca) (hb1 : b.f1.length ≤ cb) (hca : Kd.C k26 w Aa a.f1.length a.f1) (hcb : Kd.C k26 w Ab b.f1.length b.f1) : Kd.C k26 w (some ad) 2 [a, b] := by
  refine ⟨rfl, by simp, fun _ => ⟨_, rfl, fun j p hj => ?_⟩⟩
  match j, hj with
  | 0, hj =>
    obtain rfl : a = p := by simpa using hj
    refine ⟨_, rfl, k26_mk w a ha1 hca, fun i u hu => ?_⟩
    match i, hu with
    | 0, hu => exact h0.trans hu
    | 1, hu => exact h1.trans hu
  | 1, hj =>
    obtain rfl : b = p := by simpa using hj
    refine ⟨_, rfl, k26_mk w b hb1 hcb, fun i u hu => ?_⟩
    match i, hu with
    | 0, hu => exact h2.trans hu
    | 1, hu => exact h3.trans hu
theorem IsT.open2 {w : World} {v : Value} {k : Int} {x y : S26} (h : IsT w v ⟨k, [x, y]⟩) : ∃ (ad : Addr) (c : Nat) (Bx : Option Addr) (dx : Nat) (By : Option Addr) (dy : Nat), v = .agg #[.int .i8 k, .slice (some ad) 2 c] ∧
    (w.cell? ad = some (.int .i8 x.f0) ∧ w.cell? ⟨ad.block, ad.off + 1, none⟩ = some (.slice Bx x.f1.length dx) ∧ w.cell? ⟨ad.block, ad.off + 2, none⟩ = some (.int .i8 y.f0) ∧ w.cell? ⟨ad.block, ad.off + 2 + 1, none⟩ = some (.slice By y.f1.length dy)) ∧ IsT w (.agg #[.int .i8 x.f0, .slice Bx x.f1.length dx]) x ∧ IsT w (.agg #[.int .i8 y.f0, .slice By y.f1.length dy]) y ∧ ad.block < w.heap.size := by
  obtain ⟨A, c, rfl, h1, h2⟩ := h
  obtain ⟨ad, B1, d1, hA, hx0, hx1, hl1, hi1⟩ := at_T26 h2 0 (by simp) (by simp)
  obtain ⟨ad', B2, d2, hA', hy0, hy1, hl2, hi2⟩ := at_T26 h2 1 (by simp) (by simp)
  obtain rfl : some ad = A := hA.symm
  obtain rfl : ad = ad' := by simpa using hA'
  have ra : rd_T26 [x, y] 0 = x := rfl
  have rb : rd_T26 [x, y] 1 = y := rfl
  simp only [ra, rb] at hx0 hx1 hy0 hy1 hl1 hl2 hi1 hi2
  have hlt := World.block_lt_of_cell? w _ hx0
  simp [Addr.add] at hx0 hx1 hy0 hy1 hlt
  have TA := IsT.mk (k := x.f0) hl1 hi1
  have TB := IsT.mk (k := y.f0) hl2 hi2
  rw [S26.eta] at TA TB
  exact ⟨ad, c, B1, d1, B2, d2, rfl, ⟨hx0, hx1, hy0, hy1⟩, TA, TB, hlt⟩
theorem four_of {W w' : World} {ad : Addr} {x y : S26} {Bx By : Option Addr} {dx dy : Nat} (h : (W.cell? ad = some (.int .i8 x.f0) ∧ W.cell? ⟨ad.block, ad.off + 1, none⟩ = some (.slice Bx x.f1.length dx) ∧ W.cell? ⟨ad.block, ad.off + 2, none⟩ = some (.int .i8 y.f0) ∧ W.cell? ⟨ad.block, ad.off + 2 + 1, none⟩ = some (.slice By y.f1.length dy))) (hB : Below W.heap.size W w') : (w'.cell? ad = some (.int .i8 x.f0) ∧ w'.cell? ⟨ad.block, ad.off + 1, none⟩ = some (.slice Bx x.f1.length dx) ∧ w'.cell? ⟨ad.block, ad.off + 2, none⟩ = some (.int .i8 y.f0) ∧ w'.cell? ⟨ad.block, ad.off + 2 + 1, none⟩ = some (.slice By y.f1.length dy)) :=
  ⟨pw_cell_below hB h.1, pw_cell_below hB h.2.1, pw_cell_below hB h.2.2.1, pw_cell_below hB h.2.2.2⟩
end Go.Proofs.Ytamhdpllmhafhaa.X
