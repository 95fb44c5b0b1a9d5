/- Hand texts of round 1, parted: HIs. -/
import Derived.Test.YtamhdpllmhafhaaFCheck
import Derived.Test.YtamhdpllmhafhaaHSpec
import Derived.Test.YtamhdpllmhafhaaX0
namespace Go.Proofs.Ytamhdpllmhafhaa.X
open Go.RowKit Go.Proofs.YtamhdpllmhafhaaW.PrintWords Go.Proofs.YtamhdpllmhafhaaW.PrintLast Go.Proofs.YtamhdpllmhafhaaW.PrintMore
set_option linter.unusedVariables false
set_option linter.unusedSimpArgs false


/-- A value that reads as a type. -/
def IsT (w : World) (v : Value) (t : S26) : Prop := ∃ A c, v = .agg #[.int .i8 t.f0, .slice A t.f1.length c] ∧ t.f1.length ≤ c ∧ Kd.C k26 w A t.f1.length t.f1
theorem IsT.below {w w' : World} {v : Value} {t : S26} (h : IsT w v t) (hb : Below w.heap.size w w') : IsT w' v t := by
  obtain ⟨A, c, e, h1, h2⟩ := h
  exact ⟨A, c, e, h1, Kd.C_below h2 hb⟩
theorem IsT.zero (w : World) : IsT w (.agg #[.int .i8 0, .slice none 0 0]) z26 := ⟨none, 0, rfl, Nat.le_refl _, rfl, by simp [z26], fun h => absurd h (by simp [z26])⟩
theorem IsT.mk {w : World} {k : Int} {A : Option Addr} {l : List S26} {c : Nat} (h1 : l.length ≤ c) (h2 : Kd.C k26 w A l.length l) : IsT w (.agg #[.int .i8 k, .slice A l.length c]) ⟨k, l⟩ := ⟨A, c, rfl, h1, h2⟩

theorem Check_calls {t : S26} {v : Value} {w : World} (h : IsT w v t) : Calls Try.prog 38 #[v] w fun e w' => e = .returned (.int .i64 (checkI t)) ∧ Below w.heap.size w w' := by
  obtain ⟨A, c, rfl, h1, h2⟩ := h
  obtain ⟨k, hk⟩ := (Check_ev t.f0 t.f1).rounds
  rw [S26.eta] at hk
  exact types_Check.calls k t.f0 A c t.f1 _ w h2 h1 hk

/-- Three new blocks, and what a later world holds of them. -/
theorem three_blocks {w : World} {a b c : Array Value} {ta tb tc : TypeId} {w1 : World} (hB : Below (((w.alloc (.cells a ta)).alloc (.cells b tb)).alloc (.cells c tc)).heap.size (((w.alloc (.cells a ta)).alloc (.cells b tb)).alloc (.cells c tc)) w1) :
    w1.heap[w.heap.size]? = some (.cells a ta (0, 0)) ∧ w1.heap[w.heap.size + 1]? = some (.cells b tb (0, 0)) ∧ w1.heap[w.heap.size + 1 + 1]? = some (.cells c tc (0, 0)) ∧ Below w.heap.size w w1 := by
  have h1 := heap_alloc_new w (.cells a ta)
  have h2 := heap_alloc_new (w.alloc (.cells a ta)) (.cells b tb)
  have h3 := heap_alloc_new ((w.alloc (.cells a ta)).alloc (.cells b tb)) (.cells c tc)
  have hb : Below w.heap.size w (((w.alloc (.cells a ta)).alloc (.cells b tb)).alloc (.cells c tc)) := (((Below.refl _ _).alloc (Nat.le_refl _) _).alloc (by simp) _).alloc (by simp; omega) _
  refine ⟨blk_below (blk_alloc (blk_alloc h1 _) _) hB, blk_below (blk_alloc (by simpa using h2) _) hB, blk_below (by simpa using h3) hB, below_then hb hb.size hB⟩
theorem below3 (w : World) (a b c : Array Value) (ta tb tc : TypeId) : Below w.heap.size w (((w.alloc (.cells a ta)).alloc (.cells b tb)).alloc (.cells c tc)) := (((Below.refl _ _).alloc (Nat.le_refl _) _).alloc (by simp) _).alloc (by simp; omega) _
end Go.Proofs.Ytamhdpllmhafhaa.X
