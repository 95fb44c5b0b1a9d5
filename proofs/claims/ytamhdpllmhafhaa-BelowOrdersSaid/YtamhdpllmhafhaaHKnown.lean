/- Hand texts of round 1, parted: HKnown. -/
import Derived.Test.YtamhdpllmhafhaaFKnown
import Derived.Test.YtamhdpllmhafhaaHIs
import Derived.Test.YtamhdpllmhafhaaHLevel
import Derived.Test.YtamhdpllmhafhaaHNodes
import Derived.Test.YtamhdpllmhafhaaHSpec
import Derived.Test.YtamhdpllmhafhaaHTy
import Derived.Test.YtamhdpllmhafhaaX0
namespace Go.Proofs.Ytamhdpllmhafhaa.X
open Go.RowKit Go.Proofs.YtamhdpllmhafhaaW.PrintWords Go.Proofs.YtamhdpllmhafhaaW.PrintLast Go.Proofs.YtamhdpllmhafhaaW.PrintMore
set_option linter.unusedVariables false
set_option linter.unusedSimpArgs false

/-! ### Known -/
mutual
def closedB : S26 → Bool
  | ⟨k, l⟩ => decide (k ≠ 0) && closedL l
def closedL : List S26 → Bool
  | [] => true
  | x :: l => closedB x && closedL l
end
theorem closedB_eq (x : S26) : closedB x = (decide (x.f0 ≠ 0) && closedL x.f1) := by cases x; rw [closedB]
theorem closedL_drop (l : List S26) (i : Nat) (h : i < l.length) : closedL (l.drop i) = (closedB (rd_T26 l i) && closedL (l.drop (i + 1))) := by
  rw [drop_rd l i h, closedL]
theorem closed_two (k : Int) (a b : S26) (hk : nodeK k) : closedB ⟨k, [a, b]⟩ = (closedB a && closedB b) := by
  have : k ≠ 0 := by rcases hk with rfl | rfl | rfl <;> omega
  simp [closedB, closedL, this]
theorem closed_ev (n : Nat) : ∀ (k : Int) (l : List S26), nodesL l < n → nodesL l ≤ 8192 → Ev (fun f => types_closed.f f k l) (closedB ⟨k, l⟩) := by
  induction n with
  | zero => intro k l h; omega
  | succ n ih =>
  intro k l hn h8
  have hlen := length_le_nodesL l
  have loop : ∀ (d i : Nat), i ≤ l.length → l.length - i = d → Ev (fun f => types_closed.l0 f l (l.length : Int) (i : Int)) (closedL (l.drop i)) := by
    intro d
    induction d with
    | zero =>
      intro i hi hd
      refine Ev.step (f := fun _ => some true) (fun f => by simp only [types_closed.l0]; rw [if_neg (by omega)]) (Ev_eq (Ev.now _) ?_)
      rw [List.drop_eq_nil_of_le (by omega), closedL]
    | succ d ihd =>
      intro i hi hd
      have hlt : i < l.length := by omega
      have hr := nodesL_rd l i hlt
      have e1 := ih (rd_T26 l i).f0 (rd_T26 l i).f1 (by omega) (by omega)
      rw [S26.eta] at e1
      refine Ev.step (f := fun f => (types_closed.f f (rd_T26 l i).f0 (rd_T26 l i).f1).bind fun t => if t = true then types_closed.l0 f l (l.length : Int) ((i + 1 : Nat) : Int) else some false) (fun f => ?_) (Ev.bind e1 ?_)
      · simp only [types_closed.l0]
        rw [if_pos (by omega), if_pos (by omega), if_pos (by omega), w64 ((i : Int) + 1) (by omega) (by omega)]
        rfl
      · rw [closedL_drop l i hlt]
        cases closedB (rd_T26 l i) with
        | true => simpa using ihd (i + 1) (by omega) (by omega)
        | false => simpa using Ev.now _
  rw [closedB]
  by_cases hk : k = 0
  · exact Ev.step (f := fun _ => some false) (fun f => by simp only [types_closed.f]; rw [if_pos hk]) (Ev_eq (Ev.now _) (by simp [hk]))
  · refine Ev.step (f := fun f => types_closed.l0 f l (l.length : Int) 0) (fun f => by simp only [types_closed.f]; rw [if_neg hk]) (Ev_eq (loop l.length 0 (by omega) rfl) ?_)
    simp [hk]
def knownB (t : S26) : Bool := decide (checkI t = 0) && closedB t
theorem Known_ev (t : S26) : Ev (fun f => types_Known.f f t.f0 t.f1) (knownB t) := by
  unfold types_Known.f knownB
  refine Ev.bind (Ev_eq (Check_ev t.f0 t.f1) (by rw [S26.eta])) ?_
  by_cases h1 : checkI t = 0
  · simp only [h1, if_true, decide_true, Bool.true_and]
    have := (check_nodes h1).1
    rw [nodes_eq] at this
    exact Ev_eq (Ev.bind (closed_ev (nodesL t.f1 + 1) t.f0 t.f1 (by omega) (by omega)) (Ev.now _)) (by rw [S26.eta])
  · simpa [h1] using Ev.now _
theorem Known_calls {t : S26} {v : Value} {w : World} (h : IsT w v t) : Calls Try.prog 39 #[v] w fun e w' => e = .returned (.bool (knownB t)) ∧ Below w.heap.size w w' := by
  obtain ⟨A, c, rfl, h1, h2⟩ := h
  obtain ⟨k, hk⟩ := (Known_ev t).rounds
  exact types_Known.calls k t.f0 A c t.f1 _ w h2 h1 hk
end Go.Proofs.Ytamhdpllmhafhaa.X
