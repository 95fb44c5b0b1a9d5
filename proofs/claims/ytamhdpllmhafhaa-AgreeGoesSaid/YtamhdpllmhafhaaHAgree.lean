/- Hand texts of round 1, parted: HAgree. -/
import Derived.Test.YtamhdpllmhafhaaFAgree
import Derived.Test.YtamhdpllmhafhaaHIs
import Derived.Test.YtamhdpllmhafhaaHLevel
import Derived.Test.YtamhdpllmhafhaaHSpec
import Derived.Test.YtamhdpllmhafhaaHTy
import Derived.Test.YtamhdpllmhafhaaX0
namespace Go.Proofs.Ytamhdpllmhafhaa.X
open Go.RowKit Go.Proofs.YtamhdpllmhafhaaW.PrintWords Go.Proofs.YtamhdpllmhafhaaW.PrintLast Go.Proofs.YtamhdpllmhafhaaW.PrintMore
set_option linter.unusedVariables false
set_option linter.unusedSimpArgs false

/-! ### agree.level: of right types -/
def levB (a b : S26) : Bool := (lev a b).getD false
theorem lev_two {k k' : Int} {a b a' b' : S26} (h : nodeK k) (h' : nodeK k') : lev ⟨k, [a, b]⟩ ⟨k', [a', b']⟩ = if k = k' then (match lev a a' with | none => none | some false => some false | some true => match lev b b' with | none => none | some false => some false | some true => some true) else some false := by
  have n0 : ¬ k = 0 := by rcases h with rfl | rfl | rfl <;> omega
  have n1 : ¬ k' = 0 := by rcases h' with rfl | rfl | rfl <;> omega
  simp only [lev, levL, n0, n1, if_false]
  split
  · cases lev a a' with
    | none => rfl
    | some x =>
      cases x
      · rfl
      · cases lev b b' with
        | none => rfl
        | some y => cases y <;> rfl
  · rfl
theorem lev_some (a : S26) (ha : rightB a = true) : ∀ b, rightB b = true → lev a b = some (levB a b) := by
  refine right_ind (P := fun a => ∀ b, rightB b = true → lev a b = some (levB a b)) ?_ ?_ a ha
  · intro k hk b hb
    unfold levB
    rw [lev]
    split
    · rfl
    split
    · rfl
    split
    · simp [levL]
    · rfl
  · intro k a1 a2 hk ha1 ha2 ih1 ih2 b hb
    rcases right_cases hb with ⟨k', hk', rfl⟩ | ⟨k', b1, b2, hk', hb1, hb2, rfl⟩
    · have e : ¬ k = k' := fun e => leaf_ne_node hk' (e ▸ hk)
      unfold levB
      rw [lev]
      split
      · rfl
      split
      · rfl
      · simp [e]
    · unfold levB
      rw [lev_two hk hk', ih1 b1 hb1, ih2 b2 hb2]
      split
      · cases levB a1 b1 <;> cases levB a2 b2 <;> rfl
      · rfl
theorem levB_two {k k' : Int} {a b a' b' : S26} (h : nodeK k) (h' : nodeK k') (ha : rightB a = true) (hb : rightB b = true) (ha' : rightB a' = true) (hb' : rightB b' = true) :
    levB ⟨k, [a, b]⟩ ⟨k', [a', b']⟩ = (decide (k = k') && (levB a a' && levB b b')) := by
  have : levB ⟨k, [a, b]⟩ ⟨k', [a', b']⟩ = (lev ⟨k, [a, b]⟩ ⟨k', [a', b']⟩).getD false := rfl
  rw [this, lev_two h h', lev_some a ha a' ha', lev_some b hb b' hb']
  by_cases e : k = k' <;> simp [e]
  cases levB a a' <;> cases levB b b' <;> rfl
def agreeB (a b : S26) : Bool := decide (checkI a = 0) && decide (checkI b = 0) && levB a b
theorem Agree_ev (a b : S26) : Ev (fun f => agree_Agree.f f a.f0 a.f1 b.f0 b.f1) (agreeB a b) := by
  unfold agree_Agree.f agreeB agree_level.f
  refine Ev.bind (Ev_eq (Check_ev a.f0 a.f1) (by rw [S26.eta])) ?_
  by_cases h1 : checkI a = 0
  · simp only [h1, if_true, decide_true, Bool.true_and]
    refine Ev.bind (Ev_eq (Check_ev b.f0 b.f1) (by rw [S26.eta])) ?_
    by_cases h2 : checkI b = 0
    · simp only [h2, if_true, decide_true, Bool.true_and]
      rw [lev_eta, lev_some a (check_nodes h1).2.2 b (check_nodes h2).2.2]
      exact Ev.now _
    · simpa [h2] using Ev.now _
  · simpa [h1] using Ev.now _

theorem Agree_calls {a b : S26} {va vb : Value} {w : World} (ha : IsT w va a) (hb : IsT w vb b) : Calls Try.prog 24 #[va, vb] w fun e w' => e = .returned (.bool (agreeB a b)) ∧ Below w.heap.size w w' := by
  obtain ⟨A, c, rfl, h1, h2⟩ := ha
  obtain ⟨B, d, rfl, h3, h4⟩ := hb
  obtain ⟨k, hk⟩ := (Agree_ev a b).rounds
  exact agree_Agree.calls k a.f0 A c a.f1 b.f0 B d b.f1 _ w h2 h1 h4 h3 hk
end Go.Proofs.Ytamhdpllmhafhaa.X
