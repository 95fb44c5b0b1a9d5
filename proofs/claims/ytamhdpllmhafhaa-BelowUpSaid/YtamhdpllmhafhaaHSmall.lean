/- Hand texts of round 1, parted: HSmall. -/
import Derived.Test.YtamhdpllmhafhaaFSmall
import Derived.Test.YtamhdpllmhafhaaHIs
import Derived.Test.YtamhdpllmhafhaaHLevel
import Derived.Test.YtamhdpllmhafhaaHNodes
import Derived.Test.YtamhdpllmhafhaaHSpec
import Derived.Test.YtamhdpllmhafhaaX0
namespace Go.Proofs.Ytamhdpllmhafhaa.X
open Go.RowKit Go.Proofs.YtamhdpllmhafhaaW.PrintWords Go.Proofs.YtamhdpllmhafhaaW.PrintLast Go.Proofs.YtamhdpllmhafhaaW.PrintMore
set_option linter.unusedVariables false
set_option linter.unusedSimpArgs false

theorem counted_ev (n : Nat) : ∀ (k : Int) (l : List S26) (c : Int), nodesL l < n → 0 ≤ c → c ≤ 32768 → Ev (fun f => lychgatelaw02_counted.f f k l c) (min (c + 1 + (nodesL l : Int)) 32769) := by
  induction n with
  | zero => intro k l c h; omega
  | succ n ih =>
  intro k l c hn h0 h8
  have loop : ∀ (d i : Nat) (c : Int), i ≤ l.length → l.length - i = d → (i : Int) ≤ c → 0 ≤ c → c ≤ 32769 → Ev (fun f => lychgatelaw02_counted.l0 f c (i : Int) k l) (min (c + (nodesL (l.drop i) : Int)) 32769) := by
    intro d
    induction d with
    | zero =>
      intro i c hi hd hic h0 h8
      refine Ev.step (f := fun _ => some c) (fun f => by simp only [lychgatelaw02_counted.l0]; rw [if_neg (by omega)]) (Ev_eq (Ev.now _) ?_)
      rw [List.drop_eq_nil_of_le (by omega), nodesL]
      omega
    | succ d ihd =>
      intro i c hi hd hic h0 h8
      have hlt : i < l.length := by omega
      by_cases hc : c ≤ 32768
      · have hr := nodesL_rd l i hlt
        have e1 := ih (rd_T26 l i).f0 (rd_T26 l i).f1 c (by omega) (by omega) (by omega)
        have hd2 := nodesL_drop l i hlt
        rw [nodes_eq] at hd2
        have e2 := ihd (i + 1) (min (c + 1 + (nodesL (rd_T26 l i).f1 : Int)) 32769) (by omega) (by omega) (by omega) (by omega) (by omega)
        refine Ev.step (f := fun f => (lychgatelaw02_counted.f f (rd_T26 l i).f0 (rd_T26 l i).f1 c).bind fun t => lychgatelaw02_counted.l0 f t ((i + 1 : Nat) : Int) k l) (fun f => ?_) (Ev.bind e1 (Ev_eq e2 ?_))
        · simp only [lychgatelaw02_counted.l0]
          rw [if_pos (by omega), if_pos hc, if_pos (by omega), w64 ((i : Int) + 1) (by omega) (by omega)]
          rfl
        · omega
      · refine Ev.step (f := fun _ => some c) (fun f => by simp only [lychgatelaw02_counted.l0]; rw [if_pos (by omega), if_neg hc]) (Ev_eq (Ev.now _) ?_)
        omega
  refine Ev.step (f := fun f => lychgatelaw02_counted.l0 f (c + 1) 0 k l) (fun f => by simp only [lychgatelaw02_counted.f]; rw [w64 (c + 1) (by omega) (by omega)]) (Ev_eq (loop l.length 0 (c + 1) (by omega) rfl (by omega) (by omega) (by omega)) ?_)
  rw [List.drop_zero]
def smallB (t : S26) : Bool := decide (nodes t ≤ 32768)
theorem Small_ev (t : S26) : Ev (fun f => lychgatelaw02_Small.f f t.f0 t.f1) (smallB t) := by
  unfold lychgatelaw02_Small.f
  refine Ev.bind (counted_ev (nodesL t.f1 + 1) t.f0 t.f1 0 (by omega) (by omega) (by omega)) (Ev_eq (Ev.now _) ?_)
  unfold smallB
  rw [nodes_eq, decide_eq_decide]
  omega

theorem Small_calls {t : S26} {v : Value} {w : World} (h : IsT w v t) : Calls Try.prog 28 #[v] w fun e w' => e = .returned (.bool (smallB t)) ∧ Below w.heap.size w w' := by
  obtain ⟨A, c, rfl, h1, h2⟩ := h
  obtain ⟨k, hk⟩ := (Small_ev t).rounds
  exact lychgatelaw02_Small.calls k t.f0 A c t.f1 _ w h2 h1 hk
end Go.Proofs.Ytamhdpllmhafhaa.X
