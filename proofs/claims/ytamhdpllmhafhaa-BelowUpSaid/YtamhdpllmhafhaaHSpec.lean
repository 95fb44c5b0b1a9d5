/- Hand texts of round 1, parted: HSpec. -/
import Derived.Test.YtamhdpllmhafhaaFCheck
import Derived.Test.YtamhdpllmhafhaaHLevel
import Derived.Test.YtamhdpllmhafhaaHNodes
import Derived.Test.YtamhdpllmhafhaaX0
namespace Go.Proofs.Ytamhdpllmhafhaa.X
open Go.RowKit Go.Proofs.YtamhdpllmhafhaaW.PrintWords Go.Proofs.YtamhdpllmhafhaaW.PrintLast Go.Proofs.YtamhdpllmhafhaaW.PrintMore
set_option linter.unusedVariables false
set_option linter.unusedSimpArgs false


theorem S26.eta (x : S26) : (⟨x.f0, x.f1⟩ : S26) = x := by cases x; rfl
theorem Ev_eq {α : Type} {g : Nat → Option α} {r r' : α} (h : Ev g r) (e : r = r') : Ev g r' := e ▸ h
theorem w64 (i : Int) (h0 : -9223372036854775808 ≤ i) (h1 : i ≤ 9223372036854775807) : wrap64 i = i := by unfold wrap64; omega

theorem length_le_nodesL (l : List S26) : l.length ≤ nodesL l := by
  induction l with
  | nil => simp
  | cons x l ih => simp only [List.length_cons, nodesL]; have := nodes_eq x; omega
theorem nodesL_drop (l : List S26) (i : Nat) (h : i < l.length) : nodesL (l.drop i) = nodes (rd_T26 l i) + nodesL (l.drop (i + 1)) := by
  rw [drop_rd l i h, nodesL]
theorem nodesL_drop_le (l : List S26) (i : Nat) : nodesL (l.drop i) ≤ nodesL l := by
  have := nodesL_append (l.take i) (l.drop i)
  rw [List.take_append_drop] at this
  omega
theorem nodes_rd_le (l : List S26) (i : Nat) (h : i < l.length) : nodes (rd_T26 l i) ≤ nodesL l := by
  have := nodesL_drop l i h
  have := nodesL_drop_le l i
  omega

/-! ### depth -/
mutual
def depth : S26 → Nat
  | ⟨_, l⟩ => 1 + depthL l
def depthL : List S26 → Nat
  | [] => 0
  | x :: l => max (depth x) (depthL l)
end
theorem depth_eq (x : S26) : depth x = 1 + depthL x.f1 := by cases x; rw [depth]
theorem depthL_drop (l : List S26) (i : Nat) (h : i < l.length) : depthL (l.drop i) = max (depth (rd_T26 l i)) (depthL (l.drop (i + 1))) := by
  rw [drop_rd l i h, depthL]

theorem deep_ev (n : Nat) : ∀ (k : Int) (l : List S26) (left : Int), nodesL l < n → nodesL l ≤ 8192 → 1 ≤ left → left ≤ 201 →
    Ev (fun f => types_deep.f f k l left) (min ((1 + depthL l : Nat) : Int) left) := by
  induction n with
  | zero => intro k l left h; omega
  | succ n ih =>
  intro k l left hn h8 h1 h2
  have hlen := length_le_nodesL l
  by_cases hl : left ≤ 1
  · refine Ev.step (f := fun _ => some left) (fun f => by simp only [types_deep.f]; rw [if_pos hl]) (Ev_eq (Ev.now _) ?_)
    omega
  · have loop : ∀ (d i : Nat) (acc : Int), i ≤ l.length → l.length - i = d → 0 ≤ acc → acc ≤ 200 →
        Ev (fun f => types_deep.l0 f left acc l (l.length : Int) (i : Int)) (max acc (min ((depthL (l.drop i) : Nat) : Int) (left - 1)) + 1) := by
      intro d
      induction d with
      | zero =>
        intro i acc hi hd h0 h200
        refine Ev.step (f := fun _ => some (acc + 1)) (fun f => by simp only [types_deep.l0]; rw [if_neg (by omega), w64 _ (by omega) (by omega)]) (Ev_eq (Ev.now _) ?_)
        rw [List.drop_eq_nil_of_le (by omega), depthL]
        simp
        omega
      | succ d ihd =>
        intro i acc hi hd h0 h200
        have hlt : i < l.length := by omega
        have hr := nodesL_rd l i hlt
        have hdr := depthL_drop l i hlt
        have e1 := ih (rd_T26 l i).f0 (rd_T26 l i).f1 (left - 1) (by omega) (by omega) (by omega) (by omega)
        rw [← depth_eq] at e1
        have e2 := ihd (i + 1) (mx acc (min ((depth (rd_T26 l i) : Nat) : Int) (left - 1))) (by omega) (by omega) (by unfold mx; split <;> omega) (by unfold mx; split <;> omega)
        refine Ev.step (f := fun f => (types_deep.f f (rd_T26 l i).f0 (rd_T26 l i).f1 (left - 1)).bind fun t => types_deep.l0 f left (mx acc t) l (l.length : Int) ((i + 1 : Nat) : Int)) (fun f => ?_) (Ev.bind e1 (Ev_eq e2 ?_))
        · simp only [types_deep.l0]
          rw [if_pos (by omega), if_pos (by omega), if_pos (by omega), w64 (left - 1) (by omega) (by omega), w64 ((i : Int) + 1) (by omega) (by omega)]
          rfl
        · rw [hdr]
          unfold mx
          split <;> omega
    refine Ev.step (f := fun f => types_deep.l0 f left 0 l (l.length : Int) 0) (fun f => by simp only [types_deep.f]; rw [if_neg hl]) (Ev_eq (loop l.length 0 0 (by omega) rfl (by omega) (by omega)) ?_)
    rw [List.drop_zero]
    omega

/-! ### right -/
def partsI (k : Int) : Int := if k = 0 ∨ k = 1 ∨ k = 2 then 0 else if k = 3 ∨ k = 4 ∨ k = 5 then 2 else -1
theorem parts_is (f : Nat) (k : Int) : types_parts.f (f + 1) k = some (partsI k) := by
  unfold types_parts.f partsI
  simp only [types_parts.j0]
  by_cases h0 : k = 0
  · simp [h0]
  by_cases h1 : k = 1
  · simp [h1]
  by_cases h2 : k = 2
  · simp [h2]
  by_cases h3 : k = 3
  · simp [h3]
  by_cases h4 : k = 4
  · simp [h4]
  by_cases h5 : k = 5
  · simp [h5]
  simp [h0, h1, h2, h3, h4, h5]
theorem parts_ev (k : Int) : Ev (fun f => types_parts.f f k) (partsI k) := Ev.step (f := fun _ => some (partsI k)) (fun f => parts_is f k) (Ev.now _)
mutual
def rightB : S26 → Bool
  | ⟨k, l⟩ => decide (partsI k = (l.length : Int)) && rightL l
def rightL : List S26 → Bool
  | [] => true
  | x :: l => rightB x && rightL l
end
theorem rightB_eq (x : S26) : rightB x = (decide (partsI x.f0 = (x.f1.length : Int)) && rightL x.f1) := by cases x; rw [rightB]
theorem rightL_drop (l : List S26) (i : Nat) (h : i < l.length) : rightL (l.drop i) = (rightB (rd_T26 l i) && rightL (l.drop (i + 1))) := by
  rw [drop_rd l i h, rightL]
theorem right_ev (n : Nat) : ∀ (k : Int) (l : List S26), nodesL l < n → nodesL l ≤ 8192 → Ev (fun f => types_right.f f k l) (rightB ⟨k, l⟩) := by
  induction n with
  | zero => intro k l h; omega
  | succ n ih =>
  intro k l hn h8
  have hlen := length_le_nodesL l
  have loop : ∀ (d i : Nat), i ≤ l.length → l.length - i = d → Ev (fun f => types_right.l0 f l (l.length : Int) (i : Int)) (rightL (l.drop i)) := by
    intro d
    induction d with
    | zero =>
      intro i hi hd
      refine Ev.step (f := fun _ => some true) (fun f => by simp only [types_right.l0]; rw [if_neg (by omega)]) (Ev_eq (Ev.now _) ?_)
      rw [List.drop_eq_nil_of_le (by omega), rightL]
    | succ d ihd =>
      intro i hi hd
      have hlt : i < l.length := by omega
      have hr := nodesL_rd l i hlt
      have e1 := ih (rd_T26 l i).f0 (rd_T26 l i).f1 (by omega) (by omega)
      rw [S26.eta] at e1
      refine Ev.step (f := fun f => (types_right.f f (rd_T26 l i).f0 (rd_T26 l i).f1).bind fun t => if t = true then types_right.l0 f l (l.length : Int) ((i + 1 : Nat) : Int) else some false) (fun f => ?_) (Ev.bind e1 ?_)
      · simp only [types_right.l0]
        rw [if_pos (by omega), if_pos (by omega), if_pos (by omega), w64 ((i : Int) + 1) (by omega) (by omega)]
        rfl
      · rw [rightL_drop l i hlt]
        cases rightB (rd_T26 l i) with
        | true => simpa using ihd (i + 1) (by omega) (by omega)
        | false => simpa using Ev.now _
  refine Ev.step (f := fun f => (types_parts.f f k).bind fun t => if t = (l.length : Int) then types_right.l0 f l (l.length : Int) 0 else some false) (fun f => by simp only [types_right.f]) (Ev.bind (parts_ev k) ?_)
  rw [rightB]
  by_cases hp : partsI k = (l.length : Int)
  · simp only [hp, if_true, decide_true, Bool.true_and]
    exact Ev_eq (loop l.length 0 (by omega) rfl) (by rw [List.drop_zero])
  · simpa [hp] using Ev.now _

/-! ### Check -/
def checkI (t : S26) : Int := if 8192 < nodes t then 32 else if 200 < depth t then 31 else if rightB t = true then 0 else 20
theorem Check_ev (k : Int) (l : List S26) : Ev (fun f => types_Check.f f k l) (checkI ⟨k, l⟩) := by
  unfold checkI types_Check.f types_Nodes.f types_Depth.f types_Nodes.f
  rw [nodes, depth]
  by_cases h8 : 8192 < 1 + nodesL l
  · rw [if_pos h8]
    have : ((min (1 + nodesL l) 8193 : Nat) : Int) > 8192 := by omega
    simpa [this] using Ev.now _
  · rw [if_neg h8]
    have h9 : ¬ ((min (1 + nodesL l) 8193 : Nat) : Int) > 8192 := by omega
    simp only [Option.bind_some, h9, if_false]
    have e1 := deep_ev (nodesL l + 1) k l 201 (by omega) (by omega) (by omega) (by omega)
    refine Ev.bind (a := (min ((1 + depthL l : Nat) : Int) 201)) (Ev_eq (Ev.bind e1 (Ev.now _)) rfl) ?_
    by_cases h2 : 200 < 1 + depthL l
    · rw [if_pos h2]
      have h3 : (min ((1 + depthL l : Nat) : Int) 201) > 200 := by omega
      simp only [h3, if_true]
      exact Ev.now _
    · rw [if_neg h2]
      have h3 : ¬ (min ((1 + depthL l : Nat) : Int) 201) > 200 := by omega
      simp only [h3, if_false]
      refine Ev.bind (right_ev (nodesL l + 1) k l (by omega) (by omega)) ?_
      cases rightB ⟨k, l⟩ <;> simpa using Ev.now _
theorem check_nodes {t : S26} (h : checkI t = 0) : nodes t ≤ 8192 ∧ depth t ≤ 200 ∧ rightB t = true := by
  unfold checkI at h
  split at h
  · omega
  split at h
  · omega
  split at h
  · exact ⟨by omega, by omega, by assumption⟩
  · omega
theorem check_of {t : S26} (h1 : nodes t ≤ 8192) (h2 : depth t ≤ 200) (h3 : rightB t = true) : checkI t = 0 := by
  unfold checkI
  rw [if_neg (by omega), if_neg (by omega), if_pos h3]
end Go.Proofs.Ytamhdpllmhafhaa.X
