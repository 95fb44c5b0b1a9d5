/- Hand texts of round 1, parted: HTy. -/
import Derived.Test.YtamhdpllmhafhaaHNodes
import Derived.Test.YtamhdpllmhafhaaHSpec
import Derived.Test.YtamhdpllmhafhaaX0
namespace Go.Proofs.Ytamhdpllmhafhaa.X
open Go.RowKit Go.Proofs.YtamhdpllmhafhaaW.PrintWords Go.Proofs.YtamhdpllmhafhaaW.PrintLast Go.Proofs.YtamhdpllmhafhaaW.PrintMore
set_option linter.unusedVariables false
set_option linter.unusedSimpArgs false


def leafK (k : Int) : Prop := k = 0 ∨ k = 1 ∨ k = 2
def nodeK (k : Int) : Prop := k = 3 ∨ k = 4 ∨ k = 5
theorem right_cases {t : S26} (h : rightB t = true) : (∃ k, leafK k ∧ t = ⟨k, []⟩) ∨ (∃ k a b, nodeK k ∧ rightB a = true ∧ rightB b = true ∧ t = ⟨k, [a, b]⟩) := by
  obtain ⟨k, l⟩ := t
  rw [rightB] at h
  simp only [Bool.and_eq_true, decide_eq_true_eq] at h
  obtain ⟨h1, h2⟩ := h
  by_cases hl : k = 0 ∨ k = 1 ∨ k = 2
  · have : partsI k = 0 := by unfold partsI; rw [if_pos hl]
    rw [this] at h1
    have : l = [] := List.eq_nil_of_length_eq_zero (by omega)
    exact .inl ⟨k, hl, by rw [this]⟩
  · by_cases hn : k = 3 ∨ k = 4 ∨ k = 5
    · have : partsI k = 2 := by unfold partsI; rw [if_neg hl, if_pos hn]
      rw [this] at h1
      match l, h1, h2 with
      | [a, b], _, h2 =>
        simp only [rightL, Bool.and_eq_true] at h2
        exact .inr ⟨k, a, b, hn, h2.1, h2.2.1, rfl⟩
    · have : partsI k = -1 := by unfold partsI; rw [if_neg hl, if_neg hn]
      omega
theorem nodes_two (k : Int) (a b : S26) : nodes ⟨k, [a, b]⟩ = 1 + nodes a + nodes b := by simp only [nodes, nodesL]; omega
theorem nodes_leaf (k : Int) : nodes ⟨k, []⟩ = 1 := by simp only [nodes, nodesL]
theorem nodes_pos (t : S26) : 0 < nodes t := by rw [nodes_eq]; omega
theorem depth_two (k : Int) (a b : S26) : depth ⟨k, [a, b]⟩ = 1 + max (depth a) (depth b) := by simp only [depth, depthL]; omega
theorem right_two (k : Int) (a b : S26) (hk : nodeK k) : rightB ⟨k, [a, b]⟩ = (rightB a && rightB b) := by
  have : partsI k = 2 := by rcases hk with rfl | rfl | rfl <;> rfl
  simp [rightB, rightL, this]
theorem right_leaf (k : Int) (hk : leafK k) : rightB ⟨k, []⟩ = true := by
  have : partsI k = 0 := by rcases hk with rfl | rfl | rfl <;> rfl
  simp [rightB, rightL, this]
theorem right_ind {P : S26 → Prop} (leaf : ∀ k, leafK k → P ⟨k, []⟩) (node : ∀ k a b, nodeK k → rightB a = true → rightB b = true → P a → P b → P ⟨k, [a, b]⟩) : ∀ t, rightB t = true → P t := by
  suffices h : ∀ n t, nodes t < n → rightB t = true → P t from fun t ht => h (nodes t + 1) t (by omega) ht
  intro n
  induction n with
  | zero => intro t h; omega
  | succ n ih =>
    intro t hn ht
    rcases right_cases ht with ⟨k, hk, rfl⟩ | ⟨k, a, b, hk, ha, hb, rfl⟩
    · exact leaf k hk
    · rw [nodes_two] at hn
      have := nodes_pos a
      have := nodes_pos b
      exact node k a b hk ha hb (ih a (by omega) ha) (ih b (by omega) hb)
theorem leaf_ne_node {k : Int} (h : leafK k) : ¬ nodeK k := by rcases h with rfl | rfl | rfl <;> simp [nodeK]
theorem check_two {k : Int} {a b : S26} (h : checkI ⟨k, [a, b]⟩ = 0) : checkI a = 0 ∧ checkI b = 0 ∧ nodeK k := by
  obtain ⟨h1, h2, h3⟩ := check_nodes h
  rw [nodes_two] at h1
  rw [depth_two] at h2
  have hk : nodeK k := by
    rcases right_cases h3 with ⟨k', hk, e⟩ | ⟨k', a', b', hk, _, _, e⟩
    · injection e with _ e2; simp at e2
    · injection e with e1 _; rw [e1]; exact hk
  rw [right_two k a b hk] at h3
  simp only [Bool.and_eq_true] at h3
  exact ⟨check_of (by omega) (by omega) h3.1, check_of (by omega) (by omega) h3.2, hk⟩

/-! ### two trees are the same -/
mutual
def likeB : S26 → S26 → Bool
  | ⟨k, l⟩, b => decide (k = b.f0) && likeL l b.f1
def likeL : List S26 → List S26 → Bool
  | [], m => match m with
    | [] => true
    | _ :: _ => false
  | x :: l, m => match m with
    | [] => false
    | y :: m => likeB x y && likeL l m
end
theorem likeB_eq (a b : S26) : likeB a b = (decide (a.f0 = b.f0) && likeL a.f1 b.f1) := by cases a; rw [likeB]
theorem like_iff_aux (n : Nat) : (∀ a b : S26, nodes a < n → (likeB a b = true ↔ a = b)) ∧ (∀ l m : List S26, nodesL l < n → (likeL l m = true ↔ l = m)) := by
  induction n with
  | zero => exact ⟨fun _ _ h => by omega, fun _ _ h => by omega⟩
  | succ n ih =>
    have hL : ∀ l m : List S26, nodesL l < n + 1 → (likeL l m = true ↔ l = m) := by
      intro l
      induction l with
      | nil => intro m _; cases m <;> simp [likeL]
      | cons x l ihl =>
        intro m hn
        rw [nodesL] at hn
        have := nodes_pos x
        cases m with
        | nil => simp [likeL]
        | cons y m =>
          rw [likeL, Bool.and_eq_true, ihl m (by omega)]
          by_cases hx : nodes x < n
          · rw [(ih.1 x y hx)]; simp
          · have hl0 : nodesL l = 0 := by omega
            obtain ⟨k, lx⟩ := x
            rw [nodes] at hn hx
            have := (ih.2 lx y.f1 (by omega))
            rw [likeB, Bool.and_eq_true, this, decide_eq_true_eq]
            cases y
            simp
    refine ⟨fun a b hn => ?_, hL⟩
    obtain ⟨k, l⟩ := a
    rw [nodes] at hn
    rw [likeB, Bool.and_eq_true, hL l b.f1 (by omega), decide_eq_true_eq]
    cases b
    simp
theorem like_iff (a b : S26) : likeB a b = true ↔ a = b := (like_iff_aux (nodes a + 1)).1 a b (by omega)
theorem like_refl (a : S26) : likeB a a = true := (like_iff a a).2 rfl
theorem like_two {k k' : Int} {a b a' b' : S26} : likeB ⟨k, [a, b]⟩ ⟨k', [a', b']⟩ = (decide (k = k') && (likeB a a' && likeB b b')) := by
  simp [likeB, likeL]
theorem node_ne_zero {k : Int} (h : nodeK k) : ¬ k = 0 := by rcases h with rfl | rfl | rfl <;> omega
theorem z26_eq {t : S26} (h : rightB t = true) (h0 : t.f0 = 0) : t = z26 := by
  rcases right_cases h with ⟨k, hk, rfl⟩ | ⟨k, a, b, hk, _, _, rfl⟩
  · obtain rfl : k = 0 := h0
    rfl
  · exact absurd h0 (node_ne_zero hk)
theorem check_z26 : checkI z26 = 0 := by kernel_rfl
theorem check_made {kind : Int} (h : nodeK kind) : checkI ⟨kind, [z26, z26]⟩ = 0 := by
  rcases h with rfl | rfl | rfl <;> kernel_rfl
end Go.Proofs.Ytamhdpllmhafhaa.X
