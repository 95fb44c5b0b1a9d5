/- Plain laws of the relations below, positively below, negatively below, on right types. -/
import Derived.Test.YtamhdpllmhafhaaHTy
import Derived.Test.YtamhdpllmhafhaaHGround
namespace Go.Proofs.Ytamhdpllmhafhaa.X
open Go.RowKit Go.Proofs.YtamhdpllmhafhaaW.PrintWords Go.Proofs.YtamhdpllmhafhaaW.PrintLast Go.Proofs.YtamhdpllmhafhaaW.PrintMore
set_option linter.unusedVariables false
set_option linter.unusedSimpArgs false

/-- The three ways: 0 plain, 1 positive, 2 negative. -/
def otherW (m : Nat) : Nat := if m = 0 then 0 else if m = 1 then 2 else 1
theorem otherW_0 : otherW 0 = 0 := rfl
theorem otherW_1 : otherW 1 = 2 := rfl
theorem otherW_2 : otherW 2 = 1 := rfl
def isZ (a : S26) : Bool := decide (a.f0 = 0)
def groundS (a : S26) : S26 := match a.f1 with
  | [] => ⟨a.f0, []⟩
  | _ :: _ => ⟨a.f0, [z26, z26]⟩
def mu (a b : S26) : Nat := nodes a + nodes b + (if b.f0 = 0 then 3 else 0)
/-- Rounds of the relation, as the code asks it. -/
def belN : Nat → Nat → S26 → S26 → Bool
  | 0, _, _, _ => false
  | n + 1, m, a, b =>
    if a.f0 = 0 ∧ b.f0 = 0 then true
    else if a.f0 = 0 then decide (m = 2)
    else if b.f0 = 0 then (if m = 1 then true else belN n m a (groundS a))
    else if a.f0 ≠ b.f0 then false
    else match a.f1, b.f1 with
      | [x, y], [x', y'] => if a.f0 = 3 then belN n (otherW m) x' x && belN n m y y' else belN n m x x' && belN n m y y'
      | _, _ => true
def bel (m : Nat) (a b : S26) : Bool := belN (mu a b + 1) m a b
theorem groundS_two (k : Int) (x y : S26) : groundS ⟨k, [x, y]⟩ = ⟨k, [z26, z26]⟩ := rfl
theorem groundS_leaf (k : Int) : groundS ⟨k, []⟩ = ⟨k, []⟩ := rfl
theorem nodes_z26 : nodes z26 = 1 := rfl
theorem z26_f0 : z26.f0 = 0 := rfl
theorem groundS_f0 (a : S26) : (groundS a).f0 = a.f0 := by unfold groundS; split <;> rfl
theorem mu_ground {a b : S26} (ha : rightB a = true) (h0 : a.f0 ≠ 0) (hb : b.f0 = 0) : mu a (groundS a) < mu a b := by
  have hp := nodes_pos b
  unfold mu
  rw [groundS_f0, if_neg h0, if_pos hb]
  rcases right_cases ha with ⟨k, hk, rfl⟩ | ⟨k, x, y, hk, hx, hy, rfl⟩
  · rw [groundS_leaf, nodes_leaf]; omega
  · rw [groundS_two, nodes_two k z26 z26, nodes_z26]; omega
theorem mu_parts {k k' : Int} {x y x' y' : S26} (hk : k' ≠ 0) : mu x x' < mu ⟨k, [x, y]⟩ ⟨k', [x', y']⟩ ∧ mu x' x < mu ⟨k, [x, y]⟩ ⟨k', [x', y']⟩ ∧ mu y y' < mu ⟨k, [x, y]⟩ ⟨k', [x', y']⟩ := by
  have h1 := nodes_pos x
  have h2 := nodes_pos y
  have h3 := nodes_pos x'
  have h4 := nodes_pos y'
  unfold mu
  simp only [nodes_two, hk, if_false]
  refine ⟨?_, ?_, ?_⟩ <;> split <;> omega
theorem belN_more (n : Nat) : ∀ m a b, rightB a = true → rightB b = true → mu a b < n → belN (n + 1) m a b = belN n m a b := by
  induction n with
  | zero => intro m a b _ _ h; omega
  | succ n ih =>
    intro m a b ha hb hn
    rw [belN]
    conv => rhs; rw [belN]
    by_cases c1 : a.f0 = 0 ∧ b.f0 = 0
    · rw [if_pos c1, if_pos c1]
    rw [if_neg c1, if_neg c1]
    by_cases c2 : a.f0 = 0
    · rw [if_pos c2, if_pos c2]
    rw [if_neg c2, if_neg c2]
    by_cases c3 : b.f0 = 0
    · rw [if_pos c3, if_pos c3]
      by_cases c4 : m = 1
      · rw [if_pos c4, if_pos c4]
      · rw [if_neg c4, if_neg c4]
        refine ih m a _ ha ?_ (by have := mu_ground ha c2 c3; omega)
        rcases right_cases ha with ⟨k, hk, rfl⟩ | ⟨k, x, y, hk, hx, hy, rfl⟩
        · exact right_leaf k hk
        · rw [groundS_two, right_two _ _ _ hk]; rfl
    rw [if_neg c3, if_neg c3]
    by_cases c4 : a.f0 ≠ b.f0
    · rw [if_pos c4, if_pos c4]
    rw [if_neg c4, if_neg c4]
    rcases right_cases ha with ⟨k, hk, rfl⟩ | ⟨k, x, y, hk, hx, hy, rfl⟩
    · rfl
    rcases right_cases hb with ⟨k', hk', rfl⟩ | ⟨k', x', y', hk', hx', hy', rfl⟩
    · rfl
    obtain ⟨h1, h2, h3⟩ := @mu_parts k k' x y x' y' c3
    show (if k = 3 then _ else _) = (if k = 3 then _ else _)
    rw [ih _ x' x hx' hx (by omega), ih _ x x' hx hx' (by omega), ih _ y y' hy hy' (by omega)]
theorem belN_eq (n : Nat) (m : Nat) (a b : S26) (ha : rightB a = true) (hb : rightB b = true) (h : mu a b < n) : belN n m a b = bel m a b := by
  obtain ⟨d, rfl⟩ : ∃ d, n = mu a b + 1 + d := ⟨n - (mu a b + 1), by omega⟩
  clear h
  induction d with
  | zero => rfl
  | succ d ih => rw [← Nat.add_assoc, belN_more _ m a b ha hb (by omega), ih]
theorem right_z26 : rightB z26 = true := rfl
theorem right_ground {a : S26} (ha : rightB a = true) : rightB (groundS a) = true := by
  rcases right_cases ha with ⟨k, hk, rfl⟩ | ⟨k, x, y, hk, hx, hy, rfl⟩
  · exact right_leaf k hk
  · rw [groundS_two, right_two _ _ _ hk]; rfl

def BPost (r : Bool) (w : World) (e : Ending) (w' : World) : Prop := e = .returned (.bool r) ∧ Below w.heap.size w w'
theorem ground_eq {t : S26} (hc : checkI t = 0) (h0 : t.f0 ≠ 0) : groundT t = (groundS t, true) := by
  unfold groundT
  rw [if_pos ⟨hc, h0⟩]
  rcases right_cases (check_nodes hc).2.2 with ⟨k, hk, rfl⟩ | ⟨k, x, y, hk, hx, hy, rfl⟩ <;> rfl
theorem check_ground {t : S26} (hc : checkI t = 0) : checkI (groundS t) = 0 := by
  rcases right_cases (check_nodes hc).2.2 with ⟨k, hk, rfl⟩ | ⟨k, x, y, hk, hx, hy, rfl⟩
  · exact hc
  · rw [groundS_two]; exact check_made hk
/-! ### the table's rows -/
theorem bel_zz (m : Nat) : bel m z26 z26 = true := by unfold bel; rw [belN]; rfl
theorem bel_z (m : Nat) {b : S26} (h : b.f0 ≠ 0) : bel m z26 b = decide (m = 2) := by unfold bel; rw [belN]; simp [z26_f0, h]
theorem bel_up (m : Nat) {a : S26} (ha : rightB a = true) (h : a.f0 ≠ 0) : bel m a z26 = if m = 1 then true else bel m a (groundS a) := by
  unfold bel
  rw [belN]
  simp only [h, z26_f0, false_and, if_false, if_true]
  split
  · rfl
  · exact belN_eq _ m a _ ha (right_ground ha) (mu_ground ha h rfl)
theorem bel_ne (m : Nat) {a b : S26} (h : a.f0 ≠ 0) (h' : b.f0 ≠ 0) (hne : a.f0 ≠ b.f0) : bel m a b = false := by unfold bel; rw [belN]; simp [h, h', hne]
theorem bel_leaf (m : Nat) (k : Int) (h : k ≠ 0) : bel m ⟨k, []⟩ ⟨k, []⟩ = true := by unfold bel; rw [belN]; simp [h]
theorem bel_two (m : Nat) {k : Int} {x y x' y' : S26} (hk : nodeK k) (hx : rightB x = true) (hy : rightB y = true) (hx' : rightB x' = true) (hy' : rightB y' = true) :
    bel m ⟨k, [x, y]⟩ ⟨k, [x', y']⟩ = if k = 3 then bel (otherW m) x' x && bel m y y' else bel m x x' && bel m y y' := by
  have h0 := node_ne_zero hk
  obtain ⟨h1, h2, h3⟩ := @mu_parts k k x y x' y' h0
  have : bel m ⟨k, [x, y]⟩ ⟨k, [x', y']⟩ = belN (mu ⟨k, [x, y]⟩ ⟨k, [x', y']⟩ + 1) m ⟨k, [x, y]⟩ ⟨k, [x', y']⟩ := rfl
  rw [this, belN]
  simp only [h0, false_and, if_false, ne_eq, not_true_eq_false]
  rw [belN_eq _ _ x' x hx' hx h2, belN_eq _ _ x x' hx hx' h1, belN_eq _ _ y y' hy hy' h3]
/-- Both are types, and it holds that way. -/
def relB (m : Nat) (a b : S26) : Bool := (decide (checkI a = 0) && decide (checkI b = 0)) && bel m a b
end Go.Proofs.Ytamhdpllmhafhaa.X
