/- The walk of the law BelowUp: made of parts: a pair is below as its parts are, a function the other way round on its left. -/
import Derived.Test.YtamhdpllmhafhaaWkBelowUpB
namespace Go.Proofs.Ytamhdpllmhafhaa.X
open Go.RowKit Go.Proofs.YtamhdpllmhafhaaW.PrintWords Go.Proofs.YtamhdpllmhafhaaW.PrintLast Go.Proofs.YtamhdpllmhafhaaW.PrintMore
set_option linter.unusedVariables false
set_option linter.unusedSimpArgs false

theorem belowUp_walk (u0 : Value) (a : S26) (u1 : Value) (b : S26) (u2 : Value) (c : S26) (u3 : Value) (d : S26) (w : World) (h0 : IsT w u0 a) (h1 : IsT w u1 b) (h2 : IsT w u2 c) (h3 : IsT w u3 d) :
    Calls Try.prog 8 #[u0, u1, u2, u3] w fun e w' => e = .returned (.bool true) ∧ Below w.heap.size w w' := by
  have T0 := Aside0.mk h0
  have T1 := Aside0.mk h1
  have T2 := Aside0.mk h2
  have T3 := Aside0.mk h3
  obtain ⟨A0, c0, rfl, _, _⟩ := h0
  obtain ⟨A1, c1, rfl, _, _⟩ := h1
  obtain ⟨A2, c2, rfl, _, _⟩ := h2
  obtain ⟨A3, c3, rfl, _, _⟩ := h3
  cases s0 : smallB a with
  | false => exact up_small0 a b c d w A0 c0 A1 c1 A2 c2 A3 c3 T0 T1 T2 T3 (.mk s0)
  | true =>
  cases s1 : smallB b with
  | false => exact up_small1 a b c d w A0 c0 A1 c1 A2 c2 A3 c3 T0 T1 T2 T3 (.mk s0) (.mk s1)
  | true =>
  cases s2 : smallB c with
  | false => exact up_small2 a b c d w A0 c0 A1 c1 A2 c2 A3 c3 T0 T1 T2 T3 (.mk s0) (.mk s1) (.mk s2)
  | true =>
  cases s3 : smallB d with
  | false => exact up_small3 a b c d w A0 c0 A1 c1 A2 c2 A3 c3 T0 T1 T2 T3 (.mk s0) (.mk s1) (.mk s2) (.mk s3)
  | true =>
  by_cases cf : checkI ⟨3, [a, b]⟩ = 0
  · by_cases cg : checkI ⟨3, [c, d]⟩ = 0
    · have cp := check_kind (k := 4) (.inr (.inl rfl)) cf
      have cq := check_kind (k := 4) (.inr (.inl rfl)) cg
      have e9 : ∀ m, relB m ⟨4, [a, b]⟩ ⟨4, [c, d]⟩ = (relB m a c && relB m b d) := fun m => (rel_two cp cq).trans (if_neg (by omega))
      have e1 : ∀ m, relB m ⟨3, [a, b]⟩ ⟨3, [c, d]⟩ = (relB (otherW m) c a && relB m b d) := fun m => (rel_two cf cg).trans (if_pos rfl)
      exact up_main a b c d w A0 c0 A1 c1 A2 c2 A3 c3 T0 T1 T2 T3 (.mk s0) (.mk s1) (.mk s2) (.mk s3) (.mk cf) (.mk cg) _ _ _ _ _ _ _ _ _ (.mk rfl) (.mk rfl) (.mk rfl) (.mk (e9 0)) (.mk (e9 1)) (.mk (e9 2)) (.mk (e1 0)) (.mk (e1 1)) (.mk (e1 2)) (.mk rfl) (.mk rfl) (.mk rfl) (.mk rfl) (.mk rfl) (.mk rfl)
    · exact up_wrong1 a b c d w A0 c0 A1 c1 A2 c2 A3 c3 T0 T1 T2 T3 (.mk s0) (.mk s1) (.mk s2) (.mk s3) (.mk cf) (.mk (by simp [cg])) (.mk (rel_wrong (.inr cg))) (.mk (rel_wrong (.inr cg)))
  · exact up_wrong0 a b c d w A0 c0 A1 c1 A2 c2 A3 c3 T0 T1 T2 T3 (.mk s0) (.mk s1) (.mk s2) (.mk s3) (.mk (by simp [cf])) (.mk (rel_wrong (.inl cf))) (.mk (rel_wrong (.inl cf)))
end Go.Proofs.Ytamhdpllmhafhaa.X
