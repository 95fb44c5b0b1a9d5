/- Hand texts of round 1, parted: HSpecR. -/
import Derived.Test.YtamhdpllmhafhaaFCheck
import Derived.Test.YtamhdpllmhafhaaFRef
import Derived.Test.YtamhdpllmhafhaaFRefCheck
import Derived.Test.YtamhdpllmhafhaaHLevel
import Derived.Test.YtamhdpllmhafhaaHNodes
import Derived.Test.YtamhdpllmhafhaaHSpec
import Derived.Test.YtamhdpllmhafhaaX0
namespace Go.Proofs.Ytamhdpllmhafhaa.X
open Go.RowKit Go.Proofs.YtamhdpllmhafhaaW.PrintWords Go.Proofs.YtamhdpllmhafhaaW.PrintLast Go.Proofs.YtamhdpllmhafhaaW.PrintMore
set_option linter.unusedVariables false
set_option linter.unusedSimpArgs false

/-! ### the document's count, deep, right, Check -/
theorem refcount_ev (n : Nat) : ∀ (k : Int) (l : List S26) (c : Int), nodesL l < n → 0 ≤ c → c ≤ 8192 → Ev (fun f => lychgateref02_count.f f k l c) (min (c + 1 + (nodesL l : Int)) 8193) := by
  induction n with
  | zero => intro k l c h; omega
  | succ n ih =>
  intro k l c hn h0 h8
  have loop : ∀ (d i : Nat) (c : Int), i ≤ l.length → l.length - i = d → (i : Int) ≤ c → 0 ≤ c → c ≤ 8193 → Ev (fun f => lychgateref02_count.l0 f c (i : Int) k l) (min (c + (nodesL (l.drop i) : Int)) 8193) := by
    intro d
    induction d with
    | zero =>
      intro i c hi hd hic h0 h8
      refine Ev.step (f := fun _ => some c) (fun f => by simp only [lychgateref02_count.l0]; rw [if_neg (by omega)]) (Ev_eq (Ev.now _) ?_)
      rw [List.drop_eq_nil_of_le (by omega), nodesL]
      omega
    | succ d ihd =>
      intro i c hi hd hic h0 h8
      have hlt : i < l.length := by omega
      by_cases hc : c ≤ 8192
      · have hr := nodesL_rd l i hlt
        have e1 := ih (rd_T26 l i).f0 (rd_T26 l i).f1 c (by omega) (by omega) (by omega)
        have hd2 := nodesL_drop l i hlt
        rw [nodes_eq] at hd2
        have e2 := ihd (i + 1) (min (c + 1 + (nodesL (rd_T26 l i).f1 : Int)) 8193) (by omega) (by omega) (by omega) (by omega) (by omega)
        refine Ev.step (f := fun f => (lychgateref02_count.f f (rd_T26 l i).f0 (rd_T26 l i).f1 c).bind fun t => lychgateref02_count.l0 f t ((i + 1 : Nat) : Int) k l) (fun f => ?_) (Ev.bind e1 (Ev_eq e2 ?_))
        · simp only [lychgateref02_count.l0]
          rw [if_pos (by omega), if_pos hc, if_pos (by omega), w64 ((i : Int) + 1) (by omega) (by omega)]
          rfl
        · omega
      · refine Ev.step (f := fun _ => some c) (fun f => by simp only [lychgateref02_count.l0]; rw [if_pos (by omega), if_neg hc]) (Ev_eq (Ev.now _) ?_)
        omega
  refine Ev.step (f := fun f => lychgateref02_count.l0 f (c + 1) 0 k l) (fun f => by simp only [lychgateref02_count.f]; rw [w64 (c + 1) (by omega) (by omega)]) (Ev_eq (loop l.length 0 (c + 1) (by omega) rfl (by omega) (by omega) (by omega)) ?_)
  rw [List.drop_zero]
theorem refNodes_ev (k : Int) (l : List S26) : Ev (fun f => lychgateref02_Nodes.f f k l) ((min (nodes ⟨k, l⟩) 8193 : Nat) : Int) := by
  unfold lychgateref02_Nodes.f
  refine Ev.bind (refcount_ev (nodesL l + 1) k l 0 (by omega) (by omega) (by omega)) (Ev_eq (Ev.now _) ?_)
  rw [nodes]
  unfold mn
  split <;> omega
theorem refdeep_ev (n : Nat) : ∀ (k : Int) (l : List S26) (left : Int), nodesL l < n → nodesL l ≤ 8192 → 1 ≤ left → left ≤ 201 →
    Ev (fun f => lychgateref02_deep.f f k l left) (min ((1 + depthL l : Nat) : Int) left) := by
  induction n with
  | zero => intro k l left h; omega
  | succ n ih =>
  intro k l left hn h8 h1 h2
  have hlen := length_le_nodesL l
  by_cases hl : left ≤ 1
  · refine Ev.step (f := fun _ => some left) (fun f => by simp only [lychgateref02_deep.f]; rw [if_pos hl]) (Ev_eq (Ev.now _) ?_)
    omega
  · have loop : ∀ (d i : Nat) (acc : Int), i ≤ l.length → l.length - i = d → 0 ≤ acc → acc ≤ 200 →
        Ev (fun f => lychgateref02_deep.l0 f left acc (i : Int) k l) (min (max acc (min ((depthL (l.drop i) : Nat) : Int) (left - 1)) + 1) left) := by
      intro d
      induction d with
      | zero =>
        intro i acc hi hd h0 h200
        refine Ev.step (f := fun _ => some (mn (1 + acc) left)) (fun f => by simp only [lychgateref02_deep.l0]; rw [if_neg (by omega), w64 _ (by omega) (by omega)]) (Ev_eq (Ev.now _) ?_)
        rw [List.drop_eq_nil_of_le (by omega), depthL]
        unfold mn
        simp
        split <;> omega
      | succ d ihd =>
        intro i acc hi hd h0 h200
        have hlt : i < l.length := by omega
        have hr := nodesL_rd l i hlt
        have hdr := depthL_drop l i hlt
        have e1 := ih (rd_T26 l i).f0 (rd_T26 l i).f1 (left - 1) (by omega) (by omega) (by omega) (by omega)
        rw [← depth_eq] at e1
        have e2 := ihd (i + 1) (mx acc (min ((depth (rd_T26 l i) : Nat) : Int) (left - 1))) (by omega) (by omega) (by unfold mx; split <;> omega) (by unfold mx; split <;> omega)
        refine Ev.step (f := fun f => (lychgateref02_deep.f f (rd_T26 l i).f0 (rd_T26 l i).f1 (left - 1)).bind fun t => lychgateref02_deep.l0 f left (mx acc t) ((i + 1 : Nat) : Int) k l) (fun f => ?_) (Ev.bind e1 (Ev_eq e2 ?_))
        · simp only [lychgateref02_deep.l0]
          rw [if_pos (by omega), if_pos (by omega), w64 (left - 1) (by omega) (by omega), w64 ((i : Int) + 1) (by omega) (by omega)]
          rfl
        · rw [hdr]
          unfold mx
          split <;> omega
    refine Ev.step (f := fun f => lychgateref02_deep.l0 f left 0 0 k l) (fun f => by simp only [lychgateref02_deep.f]; rw [if_neg hl]) (Ev_eq (loop l.length 0 0 (by omega) rfl (by omega) (by omega)) ?_)
    rw [List.drop_zero]
    omega
theorem refDepth_ev (k : Int) (l : List S26) : Ev (fun f => lychgateref02_Depth.f f k l) (if 8192 < nodes ⟨k, l⟩ then 201 else min (depth ⟨k, l⟩ : Int) 201) := by
  unfold lychgateref02_Depth.f
  refine Ev.bind (refNodes_ev k l) ?_
  rw [nodes, depth]
  by_cases h8 : 8192 < 1 + nodesL l
  · rw [if_pos h8]
    have h9 : ((min (1 + nodesL l) 8193 : Nat) : Int) > 8192 := by omega
    simp only [h9, if_true]
    exact Ev.now _
  · rw [if_neg h8]
    have h9 : ¬ ((min (1 + nodesL l) 8193 : Nat) : Int) > 8192 := by omega
    simp only [h9, if_false]
    exact Ev.bind (refdeep_ev (nodesL l + 1) k l 201 (by omega) (by omega) (by omega) (by omega)) (Ev.now _)
theorem Kids_ev (k : Int) : Ev (fun f => lychgateref02_Kids.f f k) (partsI k) := Ev.step (f := fun _ => some (partsI k)) (fun f => parts_is f k) (Ev.now _)

theorem Depth_ev (k : Int) (l : List S26) : Ev (fun f => types_Depth.f f k l) (if 8192 < nodes ⟨k, l⟩ then 201 else min (depth ⟨k, l⟩ : Int) 201) := by
  unfold types_Depth.f types_Nodes.f
  rw [nodes, depth]
  by_cases h8 : 8192 < 1 + nodesL l
  · rw [if_pos h8]
    have : ((min (1 + nodesL l) 8193 : Nat) : Int) > 8192 := by omega
    simpa [this] using Ev.now _
  · rw [if_neg h8]
    have h9 : ¬ ((min (1 + nodesL l) 8193 : Nat) : Int) > 8192 := by omega
    simp only [Option.bind_some, h9, if_false]
    exact Ev.bind (deep_ev (nodesL l + 1) k l 201 (by omega) (by omega) (by omega) (by omega)) (Ev.now _)

theorem refright_ev (n : Nat) : ∀ (k : Int) (l : List S26), nodesL l < n → nodesL l ≤ 8192 → Ev (fun f => lychgateref02_right.f f k l) (rightB ⟨k, l⟩) := by
  induction n with
  | zero => intro k l h; omega
  | succ n ih =>
  intro k l hn h8
  have hlen := length_le_nodesL l
  have loop : ∀ (d i : Nat), i ≤ l.length → l.length - i = d → Ev (fun f => lychgateref02_right.l0 f (i : Int) k l) (rightL (l.drop i)) := by
    intro d
    induction d with
    | zero =>
      intro i hi hd
      refine Ev.step (f := fun _ => some true) (fun f => by simp only [lychgateref02_right.l0]; rw [if_neg (by omega)]) (Ev_eq (Ev.now _) ?_)
      rw [List.drop_eq_nil_of_le (by omega), rightL]
    | succ d ihd =>
      intro i hi hd
      have hlt : i < l.length := by omega
      have hr := nodesL_rd l i hlt
      have e1 := ih (rd_T26 l i).f0 (rd_T26 l i).f1 (by omega) (by omega)
      rw [S26.eta] at e1
      refine Ev.step (f := fun f => (lychgateref02_right.f f (rd_T26 l i).f0 (rd_T26 l i).f1).bind fun t => if t = true then lychgateref02_right.l0 f ((i + 1 : Nat) : Int) k l else some false) (fun f => ?_) (Ev.bind e1 ?_)
      · simp only [lychgateref02_right.l0]
        rw [if_pos (by omega), if_pos (by omega), w64 ((i : Int) + 1) (by omega) (by omega)]
        rfl
      · rw [rightL_drop l i hlt]
        cases rightB (rd_T26 l i) with
        | true => simpa using ihd (i + 1) (by omega) (by omega)
        | false => simpa using Ev.now _
  refine Ev.step (f := fun f => (lychgateref02_Kids.f f k).bind fun t => if t = (l.length : Int) then lychgateref02_right.l0 f 0 k l else some false) (fun f => by simp only [lychgateref02_right.f]) (Ev.bind (Kids_ev k) ?_)
  rw [rightB]
  by_cases hp : partsI k = (l.length : Int)
  · simp only [hp, if_true, decide_true, Bool.true_and]
    exact Ev_eq (loop l.length 0 (by omega) rfl) (by rw [List.drop_zero])
  · simpa [hp] using Ev.now _
theorem refCheck_ev (k : Int) (l : List S26) : Ev (fun f => lychgateref02_Check.f f k l) (checkI ⟨k, l⟩) := by
  unfold checkI lychgateref02_Check.f
  refine Ev.bind (refNodes_ev k l) ?_
  by_cases h8 : 8192 < nodes ⟨k, l⟩
  · rw [if_pos h8]
    have h9 : ((min (nodes ⟨k, l⟩) 8193 : Nat) : Int) > 8192 := by omega
    simp only [h9, if_true]
    exact Ev.now _
  · rw [if_neg h8]
    have h9 : ¬ ((min (nodes ⟨k, l⟩) 8193 : Nat) : Int) > 8192 := by omega
    simp only [h9, if_false]
    refine Ev.bind (refDepth_ev k l) ?_
    rw [if_neg h8]
    by_cases h2 : 200 < depth ⟨k, l⟩
    · rw [if_pos h2]
      have h3 : (min (depth ⟨k, l⟩ : Int) 201) > 200 := by omega
      simp only [h3, if_true]
      exact Ev.now _
    · rw [if_neg h2]
      have h3 : ¬ (min (depth ⟨k, l⟩ : Int) 201) > 200 := by omega
      simp only [h3, if_false]
      rw [nodes] at h8
      refine Ev.bind (refright_ev (nodesL l + 1) k l (by omega) (by omega)) ?_
      cases rightB ⟨k, l⟩ <;> simpa using Ev.now _
end Go.Proofs.Ytamhdpllmhafhaa.X
