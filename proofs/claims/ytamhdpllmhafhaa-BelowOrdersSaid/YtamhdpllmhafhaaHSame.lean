/- Hand texts of round 1, parted: HSame. -/
import Derived.Test.YtamhdpllmhafhaaFSame
import Derived.Test.YtamhdpllmhafhaaHIs
import Derived.Test.YtamhdpllmhafhaaHNodes
import Derived.Test.YtamhdpllmhafhaaHSpec
import Derived.Test.YtamhdpllmhafhaaHTy
import Derived.Test.YtamhdpllmhafhaaX0
namespace Go.Proofs.Ytamhdpllmhafhaa.X
open Go.RowKit Go.Proofs.YtamhdpllmhafhaaW.PrintWords Go.Proofs.YtamhdpllmhafhaaW.PrintLast Go.Proofs.YtamhdpllmhafhaaW.PrintMore
set_option linter.unusedVariables false
set_option linter.unusedSimpArgs false

/-! ### types.equal: of right types -/
theorem equal_ev (n : Nat) : ∀ (a b : S26), nodes a < n → rightB a = true → rightB b = true → Ev (fun f => types_equal.f f a.f0 a.f1 b.f0 b.f1) (likeB a b) := by
  induction n with
  | zero => intro a b h; omega
  | succ n ih =>
  intro a b hn ha hb
  rcases right_cases ha with ⟨k, hk, rfl⟩ | ⟨k, a1, a2, hk, ha1, ha2, rfl⟩
  · rcases right_cases hb with ⟨k', hk', rfl⟩ | ⟨k', b1, b2, hk', hb1, hb2, rfl⟩
    · by_cases e : k = k'
      · refine Ev.step (f := fun f => types_equal.l0 f 0 0 k [] k' []) (fun f => by simp only [types_equal.f]; rw [if_pos e]; rfl) (Ev.step (f := fun _ => some true) (fun f => by simp [types_equal.l0]) (Ev_eq (Ev.now _) (by simp [likeB, likeL, e])))
      · exact Ev.step (f := fun _ => some false) (fun f => by simp only [types_equal.f]; rw [if_neg e]) (Ev_eq (Ev.now _) (by simp [likeB, e]))
    · have e : ¬ k = k' := fun e => leaf_ne_node hk (e ▸ hk')
      exact Ev.step (f := fun _ => some false) (fun f => by simp only [types_equal.f]; rw [if_neg e]) (Ev_eq (Ev.now _) (by simp [likeB, e]))
  · rcases right_cases hb with ⟨k', hk', rfl⟩ | ⟨k', b1, b2, hk', hb1, hb2, rfl⟩
    · have e : ¬ k = k' := fun e => leaf_ne_node hk' (e ▸ hk)
      exact Ev.step (f := fun _ => some false) (fun f => by simp only [types_equal.f]; rw [if_neg e]) (Ev_eq (Ev.now _) (by simp [likeB, e]))
    · rw [nodes_two] at hn
      have p1 := nodes_pos a1
      have p2 := nodes_pos a2
      by_cases e : k = k'
      · have e1 := ih a1 b1 (by omega) ha1 hb1
        have e2 := ih a2 b2 (by omega) ha2 hb2
        have w1 : wrap64 1 = 1 := w64 1 (by omega) (by omega)
        have w2 : wrap64 2 = 2 := w64 2 (by omega) (by omega)
        refine Ev.step (f := fun f => types_equal.l0 f 2 0 k [a1, a2] k' [b1, b2]) (fun f => by simp only [types_equal.f]; rw [if_pos e]; rfl) ?_
        refine Ev.step (f := fun f => (types_equal.f f a1.f0 a1.f1 b1.f0 b1.f1).bind fun t => if t = true then types_equal.l0 f 2 1 k [a1, a2] k' [b1, b2] else some false) (fun f => by simp [types_equal.l0, rd_T26, w1]) (Ev.bind e1 ?_)
        cases h1 : likeB a1 b1 with
        | false => simpa [like_two, h1] using Ev.now _
        | true =>
          simp only [if_true]
          refine Ev.step (f := fun f => (types_equal.f f a2.f0 a2.f1 b2.f0 b2.f1).bind fun t => if t = true then types_equal.l0 f 2 2 k [a1, a2] k' [b1, b2] else some false) (fun f => by simp [types_equal.l0, rd_T26, w2]) (Ev.bind e2 ?_)
          cases h2 : likeB a2 b2 with
          | false => simpa [like_two, h2] using Ev.now _
          | true => simpa using Ev.step (f := fun _ => some true) (fun f => by simp [types_equal.l0]) (Ev_eq (Ev.now _) (by simp [like_two, h1, h2, e]))
      · exact Ev.step (f := fun _ => some false) (fun f => by simp only [types_equal.f]; rw [if_neg e]) (Ev_eq (Ev.now _) (by simp [likeB, e]))
def sameB (a b : S26) : Bool := decide (checkI a = 0) && decide (checkI b = 0) && likeB a b
theorem Same_ev (a b : S26) : Ev (fun f => types_Same.f f a.f0 a.f1 b.f0 b.f1) (sameB a b) := by
  unfold types_Same.f sameB
  refine Ev.bind (Ev_eq (Check_ev a.f0 a.f1) (by rw [S26.eta])) ?_
  by_cases h1 : checkI a = 0
  · simp only [h1, if_true, decide_true, Bool.true_and]
    refine Ev.bind (Ev_eq (Check_ev b.f0 b.f1) (by rw [S26.eta])) ?_
    by_cases h2 : checkI b = 0
    · simp only [h2, if_true, decide_true, Bool.true_and]
      exact Ev.bind (equal_ev (nodes a + 1) a b (by omega) (check_nodes h1).2.2 (check_nodes h2).2.2) (Ev.now _)
    · simpa [h2] using Ev.now _
  · simpa [h1] using Ev.now _

theorem Same_calls {a b : S26} {va vb : Value} {w : World} (ha : IsT w va a) (hb : IsT w vb b) : Calls Try.prog 30 #[va, vb] w fun e w' => e = .returned (.bool (sameB a b)) ∧ Below w.heap.size w w' := by
  obtain ⟨A, c, rfl, h1, h2⟩ := ha
  obtain ⟨B, d, rfl, h3, h4⟩ := hb
  obtain ⟨k, hk⟩ := (Same_ev a b).rounds
  exact types_Same.calls k a.f0 A c a.f1 b.f0 B d b.f1 _ w h2 h1 h4 h3 hk
end Go.Proofs.Ytamhdpllmhafhaa.X
