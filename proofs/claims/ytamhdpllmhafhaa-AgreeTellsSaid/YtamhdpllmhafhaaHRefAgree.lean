/- Hand texts of round 1, parted: HRefAgree. -/
import Derived.Test.YtamhdpllmhafhaaFRefAgree
import Derived.Test.YtamhdpllmhafhaaHAgree
import Derived.Test.YtamhdpllmhafhaaHIs
import Derived.Test.YtamhdpllmhafhaaHLevel
import Derived.Test.YtamhdpllmhafhaaHNodes
import Derived.Test.YtamhdpllmhafhaaHSpec
import Derived.Test.YtamhdpllmhafhaaHSpecR
import Derived.Test.YtamhdpllmhafhaaHTy
import Derived.Test.YtamhdpllmhafhaaX0
namespace Go.Proofs.Ytamhdpllmhafhaa.X
open Go.RowKit Go.Proofs.YtamhdpllmhafhaaW.PrintWords Go.Proofs.YtamhdpllmhafhaaW.PrintLast Go.Proofs.YtamhdpllmhafhaaW.PrintMore
set_option linter.unusedVariables false
set_option linter.unusedSimpArgs false


/-! ### the document's Right, Agree -/
theorem refRight_ev (n : Nat) : ∀ (a b : S26), nodes a < n → rightB a = true → rightB b = true → Ev (fun f => lychgateref06_Right.f f a.f0 a.f1 b.f0 b.f1) (levB a b) := by
  induction n with
  | zero => intro a b h; omega
  | succ n ih =>
  intro a b hn ha hb
  by_cases a0 : a.f0 = 0
  · refine Ev.step (f := fun f => lychgateref06_Right.j0 f true a.f0 a.f1 b.f0 b.f1) (fun f => by simp only [lychgateref06_Right.f]; rw [if_pos a0]) (Ev.step (f := fun _ => some true) (fun f => by simp [lychgateref06_Right.j0]) (Ev_eq (Ev.now _) ?_))
    unfold levB
    rw [lev_eq, if_pos a0]
    rfl
  refine Ev.step (f := fun f => lychgateref06_Right.j0 f (b.f0 == 0) a.f0 a.f1 b.f0 b.f1) (fun f => by simp only [lychgateref06_Right.f]; rw [if_neg a0]) ?_
  by_cases b0 : b.f0 = 0
  · refine Ev.step (f := fun _ => some true) (fun f => by simp [lychgateref06_Right.j0, b0]) (Ev_eq (Ev.now _) ?_)
    unfold levB
    rw [lev_eq, if_neg a0, if_pos b0]
    rfl
  by_cases e : a.f0 = b.f0
  rotate_left
  · refine Ev.step (f := fun _ => some false) (fun f => by simp [lychgateref06_Right.j0, b0, e]) (Ev_eq (Ev.now _) ?_)
    unfold levB
    rw [lev_eq, if_neg a0, if_neg b0, if_neg e]
    rfl
  refine Ev.step (f := fun f => lychgateref06_Right.l0 f 0 a.f0 a.f1 b.f0 b.f1) (fun f => by simp [lychgateref06_Right.j0, b0, e]) ?_
  rcases right_cases ha with ⟨k, hk, rfl⟩ | ⟨k, a1, a2, hk, ha1, ha2, rfl⟩
  · refine Ev.step (f := fun _ => some true) (fun f => by simp [lychgateref06_Right.l0]) (Ev_eq (Ev.now _) ?_)
    unfold levB
    rw [lev_eq, if_neg a0, if_neg b0, if_pos e]
    simp [levL]
  · rcases right_cases hb with ⟨k', hk', rfl⟩ | ⟨k', b1, b2, hk', hb1, hb2, rfl⟩
    · exact absurd (show nodeK k' from (show k = k' from e) ▸ hk) (leaf_ne_node hk')
    · rw [nodes_two] at hn
      have p1 := nodes_pos a1
      have p2 := nodes_pos a2
      have e1 := ih a1 b1 (by omega) ha1 hb1
      have e2 := ih a2 b2 (by omega) ha2 hb2
      have w1 : wrap64 1 = 1 := w64 1 (by omega) (by omega)
      have w2 : wrap64 2 = 2 := w64 2 (by omega) (by omega)
      have hl := levB_two hk hk' ha1 ha2 hb1 hb2
      simp only at e a0 b0
      refine Ev.step (f := fun f => (lychgateref06_Right.f f a1.f0 a1.f1 b1.f0 b1.f1).bind fun t => if t = true then lychgateref06_Right.l0 f 1 k [a1, a2] k' [b1, b2] else some false) (fun f => by simp [lychgateref06_Right.l0, rd_T26, w1]) (Ev.bind e1 ?_)
      cases h1 : levB a1 b1 with
      | false => simpa [hl, h1] using Ev.now _
      | true =>
        simp only [if_true]
        refine Ev.step (f := fun f => (lychgateref06_Right.f f a2.f0 a2.f1 b2.f0 b2.f1).bind fun t => if t = true then lychgateref06_Right.l0 f 2 k [a1, a2] k' [b1, b2] else some false) (fun f => by simp [lychgateref06_Right.l0, rd_T26, w2]) (Ev.bind e2 ?_)
        cases h2 : levB a2 b2 with
        | false => simpa [hl, h1, h2] using Ev.now _
        | true => simpa using Ev.step (f := fun _ => some true) (fun f => by simp [lychgateref06_Right.l0]) (Ev_eq (Ev.now _) (by rw [hl, h1, h2]; simp [e]))
theorem refAgree_ev (a b : S26) : Ev (fun f => lychgateref06_Agree.f f a.f0 a.f1 b.f0 b.f1) (agreeB a b) := by
  unfold lychgateref06_Agree.f agreeB
  refine Ev.bind (Ev_eq (refCheck_ev a.f0 a.f1) (by rw [S26.eta])) ?_
  by_cases h1 : checkI a = 0
  · simp only [h1, if_true, decide_true, Bool.true_and]
    refine Ev.bind (Ev_eq (refCheck_ev b.f0 b.f1) (by rw [S26.eta])) ?_
    by_cases h2 : checkI b = 0
    · simp only [h2, if_true, decide_true, Bool.true_and]
      exact Ev.bind (refRight_ev (nodes a + 1) a b (by omega) (check_nodes h1).2.2 (check_nodes h2).2.2) (Ev.now _)
    · simpa [h2] using Ev.now _
  · simpa [h1] using Ev.now _

theorem refAgree_calls {a b : S26} {va vb : Value} {w : World} (ha : IsT w va a) (hb : IsT w vb b) : Calls Try.prog 25 #[va, vb] w fun e w' => e = .returned (.bool (agreeB a b)) ∧ Below w.heap.size w w' := by
  obtain ⟨A, c, rfl, h1, h2⟩ := ha
  obtain ⟨B, d, rfl, h3, h4⟩ := hb
  obtain ⟨k, hk⟩ := (refAgree_ev a b).rounds
  exact lychgateref06_Agree.calls k a.f0 A c a.f1 b.f0 B d b.f1 _ w h2 h1 h4 h3 hk
end Go.Proofs.Ytamhdpllmhafhaa.X
