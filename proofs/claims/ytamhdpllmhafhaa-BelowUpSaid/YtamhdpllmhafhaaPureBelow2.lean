/- Plain laws of the relations of layer 8: both ways, orders, made of parts. -/
import Derived.Test.YtamhdpllmhafhaaPureBelow
namespace Go.Proofs.Ytamhdpllmhafhaa.X
open Go.RowKit Go.Proofs.YtamhdpllmhafhaaW.PrintWords Go.Proofs.YtamhdpllmhafhaaW.PrintLast Go.Proofs.YtamhdpllmhafhaaW.PrintMore
set_option linter.unusedVariables false
set_option linter.unusedSimpArgs false

theorem bel_pos_z (a : S26) (ha : rightB a = true) : bel 1 a z26 = true := by
  by_cases h : a.f0 = 0
  · rw [z26_eq ha h, bel_zz]
  · rw [bel_up 1 ha h]; rfl
theorem bel_neg_z (b : S26) (hb : rightB b = true) : bel 2 z26 b = true := by
  by_cases h : b.f0 = 0
  · rw [z26_eq hb h, bel_zz]
  · rw [bel_z 2 h]; rfl
theorem bel_pos_ground (a : S26) (ha : rightB a = true) (h0 : a.f0 ≠ 0) : bel 1 a (groundS a) = true := by
  rcases right_cases ha with ⟨k, hk, rfl⟩ | ⟨k, x, y, hk, hx, hy, rfl⟩
  · rw [groundS_leaf, bel_leaf 1 k h0]
  · rw [groundS_two, bel_two 1 hk hx hy right_z26 right_z26, otherW_1, bel_neg_z x hx, bel_pos_z y hy, bel_pos_z x hx]
    simp
/-- Cases of two right types. -/
theorem two_cases {a b : S26} (ha : rightB a = true) (hb : rightB b = true) (P : Prop) (zz : a = z26 → b = z26 → P) (zb : a = z26 → b.f0 ≠ 0 → P) (az : a.f0 ≠ 0 → b = z26 → P) (ne : a.f0 ≠ 0 → b.f0 ≠ 0 → a.f0 ≠ b.f0 → P)
    (leaf : ∀ k, leafK k → k ≠ 0 → a = ⟨k, []⟩ → b = ⟨k, []⟩ → P)
    (two : ∀ k x y x' y', nodeK k → rightB x = true → rightB y = true → rightB x' = true → rightB y' = true → a = ⟨k, [x, y]⟩ → b = ⟨k, [x', y']⟩ → P) : P := by
  by_cases a0 : a.f0 = 0
  · by_cases b0 : b.f0 = 0
    · exact zz (z26_eq ha a0) (z26_eq hb b0)
    · exact zb (z26_eq ha a0) b0
  by_cases b0 : b.f0 = 0
  · exact az a0 (z26_eq hb b0)
  by_cases hne : a.f0 = b.f0
  · rcases right_cases ha with ⟨k, hk, rfl⟩ | ⟨k, x, y, hk, hx, hy, rfl⟩
    · rcases right_cases hb with ⟨k', hk', rfl⟩ | ⟨k', x', y', hk', hx', hy', rfl⟩
      · obtain rfl : k = k' := hne
        exact leaf k hk a0 rfl rfl
      · obtain rfl : k = k' := hne
        exact absurd hk' (leaf_ne_node hk)
    · rcases right_cases hb with ⟨k', hk', rfl⟩ | ⟨k', x', y', hk', hx', hy', rfl⟩
      · obtain rfl : k = k' := hne
        exact absurd hk (leaf_ne_node hk')
      · obtain rfl : k = k' := hne
        exact two k x y x' y' hk hx hy hx' hy' rfl rfl
  · exact ne a0 b0 hne
theorem bel_both (n : Nat) : ∀ a b, mu a b < n → rightB a = true → rightB b = true → bel 0 a b = (bel 1 a b && bel 2 a b) := by
  induction n with
  | zero => intro a b h; omega
  | succ n ih =>
    intro a b hn ha hb
    refine two_cases ha hb _ ?_ ?_ ?_ ?_ ?_ ?_
    · rintro rfl rfl; rw [bel_zz, bel_zz, bel_zz]; rfl
    · rintro rfl h; rw [bel_z 0 h, bel_z 1 h, bel_z 2 h]; rfl
    · rintro h rfl
      rw [bel_up 0 ha h, bel_up 1 ha h, bel_up 2 ha h]
      have := ih a (groundS a) (by have := mu_ground ha h (rfl : z26.f0 = 0); omega) ha (right_ground ha)
      rw [bel_pos_ground a ha h] at this
      simpa using this
    · intro h h' hne; rw [bel_ne 0 h h' hne, bel_ne 1 h h' hne]; rfl
    · rintro k hk h0 rfl rfl; rw [bel_leaf 0 k h0, bel_leaf 1 k h0, bel_leaf 2 k h0]; rfl
    · rintro k x y x' y' hk hx hy hx' hy' rfl rfl
      obtain ⟨h1, h2, h3⟩ := @mu_parts k k x y x' y' (node_ne_zero hk)
      rw [bel_two 0 hk hx hy hx' hy', bel_two 1 hk hx hy hx' hy', bel_two 2 hk hx hy hx' hy', otherW_0, otherW_1, otherW_2, ih x' x (by omega) hx' hx, ih x x' (by omega) hx hx', ih y y' (by omega) hy hy']
      split
      · cases bel 1 x' x <;> cases bel 2 x' x <;> cases bel 1 y y' <;> cases bel 2 y y' <;> rfl
      · cases bel 1 x x' <;> cases bel 2 x x' <;> cases bel 1 y y' <;> cases bel 2 y y' <;> rfl
theorem bel_refl (m : Nat) (hm : m ≤ 2) (a : S26) (ha : rightB a = true) : bel m a a = true := by
  refine right_ind (P := fun a => ∀ m, m ≤ 2 → bel m a a = true) (fun k hk m hm => ?_) (fun k x y hk hx hy ihx ihy m hm => ?_) a ha m hm
  · by_cases e : k = 0
    · subst e; exact bel_zz m
    · exact bel_leaf m k e
  · have ho : otherW m ≤ 2 := by unfold otherW; (repeat' split) <;> omega
    rw [bel_two m hk hx hy hx hy, ihx _ ho, ihx _ hm, ihy _ hm]
    simp
theorem bel_z0 {b : S26} (hb : rightB b = true) (h : bel 0 z26 b = true) : b = z26 := by
  by_cases e : b.f0 = 0
  · exact z26_eq hb e
  · rw [bel_z 0 e] at h; simp at h
theorem bel_kind {m : Nat} {a b : S26} (h : bel m a b = true) (ha : a.f0 ≠ 0) (hb : b.f0 ≠ 0) : a.f0 = b.f0 := by
  by_cases e : a.f0 = b.f0
  · exact e
  · rw [bel_ne m ha hb e] at h; simp at h
theorem bel_trans (n : Nat) : ∀ a b c, nodes a + nodes b + nodes c < n → rightB a = true → rightB b = true → rightB c = true → bel 0 a b = true → bel 0 b c = true → bel 0 a c = true := by
  induction n with
  | zero => intro a b c h; omega
  | succ n ih =>
    intro a b c hn ha hb hc h1 h2
    by_cases a0 : a.f0 = 0
    · obtain rfl := z26_eq ha a0
      obtain rfl := bel_z0 hb h1
      exact h2
    by_cases b0 : b.f0 = 0
    · obtain rfl := z26_eq hb b0
      obtain rfl := bel_z0 hc h2
      exact h1
    have e1 := bel_kind h1 a0 b0
    rcases right_cases ha with ⟨k, hk, rfl⟩ | ⟨k, x, y, hk, hx, hy, rfl⟩
    · rcases right_cases hb with ⟨k', hk', rfl⟩ | ⟨k', x', y', hk', hx', hy', rfl⟩
      · obtain rfl : k = k' := e1
        exact h2
      · obtain rfl : k = k' := e1
        exact absurd hk' (leaf_ne_node hk)
    rcases right_cases hb with ⟨k', hk', rfl⟩ | ⟨k', x', y', hk', hx', hy', rfl⟩
    · obtain rfl : k = k' := e1
      exact absurd hk (leaf_ne_node hk')
    obtain rfl : k = k' := e1
    rw [bel_two 0 hk hx hy hx' hy', otherW_0] at h1
    have p1 := nodes_pos x
    have p2 := nodes_pos y
    have p3 := nodes_pos x'
    have p4 := nodes_pos y'
    have p5 := nodes_pos c
    simp only [nodes_two] at hn
    by_cases c0 : c.f0 = 0
    · obtain rfl := z26_eq hc c0
      rw [bel_up 0 hb b0, if_neg (by omega), groundS_two, bel_two 0 hk hx' hy' right_z26 right_z26, otherW_0] at h2
      rw [bel_up 0 ha a0, if_neg (by omega), groundS_two, bel_two 0 hk hx hy right_z26 right_z26, otherW_0]
      rw [nodes_z26] at hn
      by_cases h3 : k = 3
      · simp only [h3, if_true, Bool.and_eq_true] at h1 h2 ⊢
        obtain rfl := bel_z0 hx' h2.1
        exact ⟨h1.1, ih y y' z26 (by rw [nodes_z26]; omega) hy hy' right_z26 h1.2 h2.2⟩
      · simp only [h3, if_false, Bool.and_eq_true] at h1 h2 ⊢
        exact ⟨ih x x' z26 (by rw [nodes_z26]; omega) hx hx' right_z26 h1.1 h2.1, ih y y' z26 (by rw [nodes_z26]; omega) hy hy' right_z26 h1.2 h2.2⟩
    · have e2 := bel_kind h2 b0 c0
      rcases right_cases hc with ⟨k', hk', rfl⟩ | ⟨k', x2, y2, hk', hx2, hy2, rfl⟩
      · obtain rfl : k = k' := e2
        exact absurd hk (leaf_ne_node hk')
      · obtain rfl : k = k' := e2
        have p6 := nodes_pos x2
        have p7 := nodes_pos y2
        rw [bel_two 0 hk hx' hy' hx2 hy2, otherW_0] at h2
        rw [bel_two 0 hk hx hy hx2 hy2, otherW_0]
        simp only [nodes_two] at hn
        by_cases h3 : k = 3
        · simp only [h3, if_true, Bool.and_eq_true] at h1 h2 ⊢
          exact ⟨ih x2 x' x (by omega) hx2 hx' hx h2.1 h1.1, ih y y' y2 (by omega) hy hy' hy2 h1.2 h2.2⟩
        · simp only [h3, if_false, Bool.and_eq_true] at h1 h2 ⊢
          exact ⟨ih x x' x2 (by omega) hx hx' hx2 h1.1 h2.1, ih y y' y2 (by omega) hy hy' hy2 h1.2 h2.2⟩
theorem bel_anti (n : Nat) : ∀ a b, mu a b < n → rightB a = true → rightB b = true → bel 0 a b = true → bel 0 b a = true → a = b := by
  induction n with
  | zero => intro a b h; omega
  | succ n ih =>
    intro a b hn ha hb h1 h2
    refine two_cases ha hb _ ?_ ?_ ?_ ?_ ?_ ?_
    · rintro rfl rfl; rfl
    · rintro rfl h; exact (bel_z0 hb h1).symm
    · rintro h rfl; exact bel_z0 ha h2
    · intro h h' hne; exact absurd (bel_kind h1 h h') hne
    · rintro k hk h0 rfl rfl; rfl
    · rintro k x y x' y' hk hx hy hx' hy' rfl rfl
      obtain ⟨m1, m2, m3⟩ := @mu_parts k k x y x' y' (node_ne_zero hk)
      rw [bel_two 0 hk hx hy hx' hy', otherW_0] at h1
      rw [bel_two 0 hk hx' hy' hx hy, otherW_0] at h2
      by_cases h3 : k = 3
      · simp only [h3, if_true, Bool.and_eq_true] at h1 h2
        rw [ih x' x (by omega) hx' hx h1.1 h2.1, ih y y' (by omega) hy hy' h1.2 h2.2]
      · simp only [h3, if_false, Bool.and_eq_true] at h1 h2
        rw [ih x x' (by omega) hx hx' h1.1 h2.1, ih y y' (by omega) hy hy' h1.2 h2.2]
mutual
def lessB : S26 → S26 → Bool
  | ⟨k, l⟩, b => if k = 0 then true else if k ≠ b.f0 then false else lessL l b.f1
def lessL : List S26 → List S26 → Bool
  | [], _ => true
  | x :: l, m => match m with
    | [] => true
    | y :: m => lessB x y && lessL l m
end
theorem less_z (b : S26) : lessB z26 b = true := by rw [z26, lessB]; simp
theorem less_to_z {a : S26} (h : a.f0 ≠ 0) : lessB a z26 = false := by
  obtain ⟨k, l⟩ := a
  have h' : ¬ k = 0 := h
  rw [lessB, if_neg h', if_pos (show k ≠ z26.f0 from h)]
theorem less_ne {a b : S26} (h : a.f0 ≠ 0) (hne : a.f0 ≠ b.f0) : lessB a b = false := by
  obtain ⟨k, l⟩ := a
  have h' : ¬ k = 0 := h
  rw [lessB, if_neg h', if_pos (show k ≠ b.f0 from hne)]
theorem less_leaf (k : Int) : lessB ⟨k, []⟩ ⟨k, []⟩ = true := by
  rw [lessB]
  simp [lessL]
theorem less_two {k : Int} {x y x' y' : S26} (hk : nodeK k) : lessB ⟨k, [x, y]⟩ ⟨k, [x', y']⟩ = (lessB x x' && lessB y y') := by
  rw [lessB, if_neg (node_ne_zero hk), if_neg (by simp)]; simp [lessL]
theorem less_both (n : Nat) : ∀ a b, mu a b < n → rightB a = true → rightB b = true → lessB b a = (bel 1 a b && bel 2 b a) := by
  induction n with
  | zero => intro a b h; omega
  | succ n ih =>
    intro a b hn ha hb
    refine two_cases ha hb _ ?_ ?_ ?_ ?_ ?_ ?_
    · rintro rfl rfl; rw [less_z, bel_zz, bel_zz]; rfl
    · rintro rfl h; rw [less_to_z h, bel_z 1 h]; rfl
    · rintro h rfl; rw [less_z, bel_pos_z a ha, bel_neg_z a ha]; rfl
    · intro h h' hne; rw [less_ne h' (fun e => hne e.symm), bel_ne 1 h h' hne]; rfl
    · rintro k hk h0 rfl rfl; rw [less_leaf, bel_leaf 1 k h0, bel_leaf 2 k h0]; rfl
    · rintro k x y x' y' hk hx hy hx' hy' rfl rfl
      obtain ⟨h1, h2, h3⟩ := @mu_parts k k x y x' y' (node_ne_zero hk)
      rw [less_two hk, bel_two 1 hk hx hy hx' hy', bel_two 2 hk hx' hy' hx hy, otherW_1, otherW_2, ih x x' (by omega) hx hx', ih y y' (by omega) hy hy']
      split
      · cases bel 1 x x' <;> cases bel 2 x' x <;> cases bel 1 y y' <;> cases bel 2 y' y <;> rfl
      · cases bel 1 x x' <;> cases bel 2 x' x <;> cases bel 1 y y' <;> cases bel 2 y' y <;> rfl
theorem like_symm (a b : S26) : likeB a b = likeB b a := by
  cases h : likeB a b with
  | true =>
    have := (like_iff a b).1 h
    subst this
    exact h.symm
  | false =>
    cases h' : likeB b a with
    | true =>
      have := (like_iff b a).1 h'
      subst this
      rw [h'] at h
      exact h.symm
    | false => rfl
/-! ### made of parts -/
theorem check_kind {a b : S26} {k : Int} (hk : nodeK k) (h : checkI ⟨3, [a, b]⟩ = 0) : checkI ⟨k, [a, b]⟩ = 0 := by
  obtain ⟨h1, h2, h3⟩ := check_nodes h
  rw [nodes_two] at h1
  rw [depth_two] at h2
  rw [right_two _ _ _ (.inl rfl)] at h3
  exact check_of (by rw [nodes_two]; omega) (by rw [depth_two]; omega) (by rw [right_two _ _ _ hk]; exact h3)
theorem rel_two {m : Nat} {k : Int} {x y x' y' : S26} (h : checkI ⟨k, [x, y]⟩ = 0) (h' : checkI ⟨k, [x', y']⟩ = 0) :
    relB m ⟨k, [x, y]⟩ ⟨k, [x', y']⟩ = if k = 3 then relB (otherW m) x' x && relB m y y' else relB m x x' && relB m y y' := by
  obtain ⟨c1, c2, hk⟩ := check_two h
  obtain ⟨c3, c4, _⟩ := check_two h'
  simp only [relB, h, h', c1, c2, c3, c4, decide_true, Bool.true_and]
  exact bel_two m hk (check_nodes c1).2.2 (check_nodes c2).2.2 (check_nodes c3).2.2 (check_nodes c4).2.2
theorem rel_wrong {m : Nat} {a b : S26} (h : checkI a ≠ 0 ∨ checkI b ≠ 0) : relB m a b = false := by
  unfold relB
  rcases h with h | h <;> simp [h]
theorem rel_both (a b : S26) : relB 0 a b = (relB 1 a b && relB 2 a b) := by
  by_cases h : checkI a = 0
  · by_cases h' : checkI b = 0
    · simp only [relB, h, h', decide_true, Bool.true_and]
      exact bel_both _ a b (Nat.lt_succ_self _) (check_nodes h).2.2 (check_nodes h').2.2
    · rw [rel_wrong (.inr h'), rel_wrong (.inr h')]; rfl
  · rw [rel_wrong (.inl h), rel_wrong (.inl h)]; rfl
def lessR (b a : S26) : Bool := (decide (checkI b = 0) && decide (checkI a = 0)) && lessB b a
theorem rel_less (a b : S26) : lessR b a = (relB 1 a b && relB 2 b a) := by
  by_cases h : checkI a = 0
  · by_cases h' : checkI b = 0
    · simp only [relB, lessR, h, h', decide_true, Bool.true_and]
      exact less_both _ a b (Nat.lt_succ_self _) (check_nodes h).2.2 (check_nodes h').2.2
    · rw [rel_wrong (.inr h')]; simp [lessR, h']
  · rw [rel_wrong (.inl h)]; simp [lessR, h]
theorem rel_refl (m : Nat) (hm : m ≤ 2) (a : S26) : relB m a a = decide (checkI a = 0) := by
  by_cases h : checkI a = 0
  · simp [relB, h, bel_refl m hm a (check_nodes h).2.2]
  · simp [relB, h]
theorem rel_trans {a b c : S26} (h1 : relB 0 a b = true) (h2 : relB 0 b c = true) : relB 0 a c = true := by
  simp only [relB, Bool.and_eq_true, decide_eq_true_eq] at h1 h2 ⊢
  exact ⟨⟨h1.1.1, h2.1.2⟩, bel_trans _ a b c (Nat.lt_succ_self _) (check_nodes h1.1.1).2.2 (check_nodes h1.1.2).2.2 (check_nodes h2.1.2).2.2 h1.2 h2.2⟩
end Go.Proofs.Ytamhdpllmhafhaa.X
