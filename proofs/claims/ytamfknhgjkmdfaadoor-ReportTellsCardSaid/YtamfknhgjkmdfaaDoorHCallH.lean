/- Steps of a region that draws its order, with a condition held: a call by the callee's contract, the operands read by evaluation; and the steps under a guard that is a variable. -/
import Derived.Deep.RegionHeld3
import Derived.KernelRfl
namespace Go.Proofs.YtamfknhgjkmdfaaDoor.X
open Go
section
variable {P : Program} {ops : Array Oper} {Q : Exit → Act → World → Prop} {md : Region.Mode} {S : World → Prop}
theorem callH {d : Option Tmp} (i : Nat) {oi : Oper} {fuel : Nat} {listed : Array Bool} {a : Act} {w : World} {f : FuncId} {args : Array Value} {R : Ending → World → Prop}
    (hi : ops[i]? = some oi) (hd : oi.dst = d) (hr : Region.ready md ops listed = [i]) (hw : Region.wanted oi (yielded ops a.tmps) = true)
    (hx : (execOp a.eval oi).run P w = .ok (.enter f args) w) (hc : Calls P f args w R)
    (h : ∀ e w', R e w' → ∃ v, e = .returned v ∧ S w' ∧ (S w' → wpAnyH P md ops Q S fuel (listed.setIfInBounds i true) (a.put d v) w')) :
    wpAnyH P md ops Q S (fuel + 1) listed a w := by
  subst hd
  refine wpAnyH_ready (rs := [i]) hr (by simp) (AllReadyH.cons hi (fun K hK => ?_) AllReadyH.nil)
  rw [if_pos hw]
  unfold Oper.wp
  rw [hx, Oper.upon_enter]
  refine hc.mono fun e w' hR => ?_
  obtain ⟨v, rfl, hS, hW⟩ := h e w' hR
  exact hK.out _ _ hS hW
/-- The same where the guard is a variable: behind it the slot holds the answer, or nothing. -/
theorem callCH {d : Option Tmp} (p : Bool) (i : Nat) {oi : Oper} {fuel : Nat} {listed : Array Bool} {a : Act} {w : World} {f : FuncId} {args : Array Value} {v : Value} {T : World → Prop}
    (hi : ops[i]? = some oi) (hd : oi.dst = d) (hr : Region.ready md ops listed = [i]) (hw : Region.wanted oi (yielded ops a.tmps) = p)
    (hx : p = true → (execOp a.eval oi).run P w = .ok (.enter f args) w) (h0 : T w) (hc : Calls P f args w fun e w' => e = .returned v ∧ T w')
    (h : ∀ w', T w' → S w' ∧ (S w' → wpAnyH P md ops Q S fuel (listed.setIfInBounds i true) (a.put d (bif p then v else undef)) w')) :
    wpAnyH P md ops Q S (fuel + 1) listed a w := by
  subst hd
  refine wpAnyH_ready (rs := [i]) hr (by simp) (AllReadyH.cons hi (fun K hK => ?_) AllReadyH.nil)
  cases p with
  | true =>
    rw [if_pos hw]
    unfold Oper.wp
    rw [hx rfl, Oper.upon_enter]
    refine hc.mono fun e w' ⟨he, hT⟩ => ?_
    subst he
    exact hK.out _ _ (h w' hT).1 (h w' hT).2
  | false =>
    rw [if_neg (by rw [hw]; simp)]
    exact hK.out _ _ (h w h0).1 (h w h0).2
theorem takeCH {d : Option Tmp} (p : Bool) (i : Nat) {oi : Oper} {v : Value} {fuel : Nat} {listed : Array Bool} {a : Act} {w : World} (hi : ops[i]? = some oi) (hd : oi.dst = d)
    (hs : Region.noSelect ops = true) (hf : Region.free md ops listed i = true) (hr : (Region.ready md ops listed).contains i = true)
    (hQ : ∀ c a w, Q (.panic c) (a.put d (bif p then v else undef)) w → Q (.panic c) a w) (hw : Region.wanted oi (yielded ops a.tmps) = p)
    (hy : p = true → ∀ w, S w → (execOp a.eval oi).run P w = .ok (.value v) w) (hS : S w)
    (h : wpAnyH P md ops Q S fuel (listed.setIfInBounds i true) (a.put d (bif p then v else undef)) w) : wpAnyH P md ops Q S (fuel + 1) listed a w := by
  subst hd
  cases p with
  | true => exact wpAnyH_take hi hs hf hr hQ (Or.inl ⟨hw, hy rfl⟩) hS h
  | false => exact wpAnyH_take hi hs hf hr hQ (Or.inr ⟨hw, rfl⟩) hS h
end
end Go.Proofs.YtamfknhgjkmdfaaDoor.X
