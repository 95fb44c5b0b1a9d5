/- Plain laws of agreement on right types. -/
import Derived.Test.YtamhdpllmhafhaaHAgree
import Derived.Test.YtamhdpllmhafhaaHAs
import Derived.Test.YtamhdpllmhafhaaHSame
import Derived.Test.YtamhdpllmhafhaaHKnown
namespace Go.Proofs.Ytamhdpllmhafhaa.X
open Go.RowKit Go.Proofs.YtamhdpllmhafhaaW.PrintWords Go.Proofs.YtamhdpllmhafhaaW.PrintLast Go.Proofs.YtamhdpllmhafhaaW.PrintMore
set_option linter.unusedVariables false
set_option linter.unusedSimpArgs false

theorem node_ne_zero {k : Int} (h : nodeK k) : ¬ k = 0 := by rcases h with rfl | rfl | rfl <;> omega
theorem levB_zero_l (a : S26) : levB z26 a = true := by unfold levB z26; rw [lev]; simp
theorem levB_zero_r (a : S26) : levB a z26 = true := by
  obtain ⟨k, l⟩ := a
  unfold levB z26
  rw [lev]
  simp
theorem levB_leaf {k : Int} (hk : leafK k) (b : S26) (h : b.f0 ≠ 0) (h0 : k ≠ 0) : levB ⟨k, []⟩ b = decide (k = b.f0) := by
  unfold levB
  rw [lev]
  simp [h, h0, levL]
  by_cases e : k = b.f0 <;> simp [e]
theorem levB_refl (a : S26) (h : rightB a = true) : levB a a = true := by
  refine right_ind (P := fun a => levB a a = true) (fun k hk => ?_) (fun k a b hk ha hb iha ihb => ?_) a h
  · by_cases e : k = 0
    · subst e; exact levB_zero_l _
    · rw [levB_leaf hk _ e e]; simp
  · rw [levB_two hk hk ha hb ha hb, iha, ihb]; simp
theorem z26_eq {t : S26} (h : rightB t = true) (h0 : t.f0 = 0) : t = z26 := by
  rcases right_cases h with ⟨k, hk, rfl⟩ | ⟨k, a, b, hk, _, _, rfl⟩
  · obtain rfl : k = 0 := h0
    rfl
  · exact absurd h0 (node_ne_zero hk)
theorem levB_symm (a b : S26) (ha : rightB a = true) (hb : rightB b = true) : levB a b = levB b a := by
  refine right_ind (P := fun a => ∀ b, rightB b = true → levB a b = levB b a) (fun k hk b hb => ?_) (fun k a1 a2 hk ha1 ha2 ih1 ih2 b hb => ?_) a ha b hb
  · by_cases e : k = 0
    · subst e; exact (levB_zero_l _).trans (levB_zero_r _).symm
    · by_cases e2 : b.f0 = 0
      · rw [z26_eq hb e2, levB_zero_l, levB_zero_r]
      · rw [levB_leaf hk b e2 e]
        rcases right_cases hb with ⟨k', hk', rfl⟩ | ⟨k', b1, b2, hk', hb1, hb2, rfl⟩
        · rw [levB_leaf hk' _ e e2]
          simp only [decide_eq_decide]
          exact eq_comm
        · have e3 : ¬ k = k' := fun e => leaf_ne_node hk (e ▸ hk')
          have e4 : ¬ k' = k := fun e => e3 e.symm
          unfold levB
          rw [lev]
          simp [e, e3, e4, node_ne_zero hk']
  · rcases right_cases hb with ⟨k', hk', rfl⟩ | ⟨k', b1, b2, hk', hb1, hb2, rfl⟩
    · by_cases e : k' = 0
      · subst e; exact (levB_zero_r _).trans (levB_zero_l _).symm
      · rw [levB_leaf hk' ⟨k, [a1, a2]⟩ (node_ne_zero hk) e]
        have e3 : ¬ k' = k := fun e => leaf_ne_node hk' (e ▸ hk)
        have e4 : ¬ k = k' := fun e => e3 e.symm
        unfold levB
        rw [lev]
        simp [e, e3, e4, node_ne_zero hk]
    · rw [levB_two hk hk' ha1 ha2 hb1 hb2, levB_two hk' hk hb1 hb2 ha1 ha2, ih1 b1 hb1, ih2 b2 hb2]
      congr 1
      simp only [decide_eq_decide]
      exact eq_comm
theorem levB_closed (a b : S26) (ha : rightB a = true) (hb : rightB b = true) (ca : closedB a = true) (cb : closedB b = true) : levB a b = likeB a b := by
  refine right_ind (P := fun a => ∀ b, rightB b = true → closedB a = true → closedB b = true → levB a b = likeB a b) (fun k hk b hb ca cb => ?_) (fun k a1 a2 hk ha1 ha2 ih1 ih2 b hb ca cb => ?_) a ha b hb ca cb
  · have e : k ≠ 0 := by rw [closedB] at ca; simpa [closedL] using ca
    have e2 : b.f0 ≠ 0 := by rw [closedB_eq, Bool.and_eq_true] at cb; exact of_decide_eq_true cb.1
    rw [levB_leaf hk b e2 e]
    rcases right_cases hb with ⟨k', hk', rfl⟩ | ⟨k', b1, b2, hk', hb1, hb2, rfl⟩
    · simp [likeB, likeL]
    · have e3 : ¬ k = k' := fun e => leaf_ne_node hk (e ▸ hk')
      simp [likeB, e3]
  · rcases right_cases hb with ⟨k', hk', rfl⟩ | ⟨k', b1, b2, hk', hb1, hb2, rfl⟩
    · have e2 : k' ≠ 0 := by rw [closedB] at cb; simpa [closedL] using cb
      have e3 : ¬ k = k' := fun e => leaf_ne_node hk' (e ▸ hk)
      unfold levB
      rw [lev]
      simp [likeB, e2, e3, node_ne_zero hk]
    · rw [closed_two _ _ _ hk, Bool.and_eq_true] at ca
      rw [closed_two _ _ _ hk', Bool.and_eq_true] at cb
      rw [levB_two hk hk' ha1 ha2 hb1 hb2, like_two, ih1 b1 hb1 ca.1 cb.1, ih2 b2 hb2 ca.2 cb.2]

theorem check_z26 : checkI z26 = 0 := by kernel_rfl
theorem agree_refl (a : S26) : agreeB a a = decide (checkI a = 0) := by
  unfold agreeB
  by_cases h : checkI a = 0
  · simp [h, levB_refl a (check_nodes h).2.2]
  · simp [h]
theorem agree_zero (a : S26) : agreeB a z26 = decide (checkI a = 0) := by simp [agreeB, check_z26, levB_zero_r]
theorem agree_symm (a b : S26) : agreeB a b = agreeB b a := by
  unfold agreeB
  by_cases h : checkI a = 0 <;> by_cases h2 : checkI b = 0 <;> simp [h, h2]
  exact levB_symm a b (check_nodes h).2.2 (check_nodes h2).2.2
theorem agree_known {a b : S26} (ha : knownB a = true) (hb : knownB b = true) : agreeB a b = sameB a b := by
  unfold knownB at ha hb
  simp only [Bool.and_eq_true, decide_eq_true_eq] at ha hb
  simp only [agreeB, sameB, ha.1, hb.1, decide_true, Bool.true_and]
  exact levB_closed a b (check_nodes ha.1).2.2 (check_nodes hb.1).2.2 ha.2 hb.2
theorem agree_two {k : Int} {a b a' b' : S26} (h : checkI ⟨k, [a, b]⟩ = 0) (h' : checkI ⟨k, [a', b']⟩ = 0) : agreeB ⟨k, [a, b]⟩ ⟨k, [a', b']⟩ = (agreeB a a' && agreeB b b') := by
  obtain ⟨h1, h2, hk⟩ := check_two h
  obtain ⟨h3, h4, _⟩ := check_two h'
  simp only [agreeB, h, h', h1, h2, h3, h4, decide_true, Bool.true_and]
  rw [levB_two hk hk (check_nodes h1).2.2 (check_nodes h2).2.2 (check_nodes h3).2.2 (check_nodes h4).2.2]
  simp
/-- What As says yes to. -/
theorem asT_ok {kind : Int} {t L R : S26} (h : asT kind t = (L, R, true)) : nodeK kind ∧ checkI t = 0 ∧ ((t = z26 ∧ L = z26 ∧ R = z26) ∨ t = ⟨kind, [L, R]⟩) := by
  unfold asT at h
  by_cases h1 : (3 ≤ kind ∧ kind ≤ 5) ∧ checkI t = 0
  · rw [if_pos h1] at h
    have hk : nodeK kind := by unfold nodeK; omega
    refine ⟨hk, h1.2, ?_⟩
    have hr := (check_nodes h1.2).2.2
    by_cases h2 : t.f0 = 0
    · rw [if_pos h2] at h
      injection h with e1 e2
      injection e2 with e2 _
      exact .inl ⟨z26_eq hr h2, e1.symm, e2.symm⟩
    · rw [if_neg h2] at h
      by_cases h3 : t.f0 = kind
      · rw [if_pos h3] at h
        injection h with e1 e2
        injection e2 with e2 _
        rcases right_cases hr with ⟨k, hk', rfl⟩ | ⟨k, a, b, hk', _, _, rfl⟩
        · exact absurd hk (h3 ▸ leaf_ne_node hk')
        · obtain rfl : k = kind := h3
          right
          rw [← e1, ← e2]
          rfl
      · rw [if_neg h3] at h
        injection h with _ e2
        injection e2 with _ e3
        simp at e3
  · rw [if_neg h1] at h
    injection h with _ e2
    injection e2 with _ e3
    simp at e3
theorem check_made {kind : Int} (h : nodeK kind) : checkI ⟨kind, [z26, z26]⟩ = 0 := by
  rcases h with rfl | rfl | rfl <;> kernel_rfl
theorem as_agree {kind : Int} {t L R : S26} (h : asT kind t = (L, R, true)) : agreeB t ⟨kind, [L, R]⟩ = true := by
  obtain ⟨hk, hc, ⟨rfl, rfl, rfl⟩ | rfl⟩ := asT_ok h
  · rw [agree_symm, agree_zero, check_made hk]; rfl
  · rw [agree_refl, hc]; rfl
theorem same_refl {a : S26} (h : checkI a = 0) : sameB a a = true := by simp [sameB, h, like_refl]
/-- Parts made unknown. -/
inductive Opens : S26 → S26 → Prop
  | none (t : S26) : Opens t z26
  | same (t : S26) : Opens t t
  | two {k : Int} {a b a' b' : S26} (hk : nodeK k) (h1 : Opens a a') (h2 : Opens b b') : Opens ⟨k, [a, b]⟩ ⟨k, [a', b']⟩
theorem Opens.right {a c : S26} (h : Opens a c) : rightB a = true → rightB c = true ∧ nodes c ≤ nodes a ∧ depth c ≤ depth a := by
  induction h with
  | none t => intro _; exact ⟨by kernel_rfl, by have := nodes_pos t; simp only [z26, nodes, nodesL]; omega, by rw [depth_eq t]; simp [z26, depth, depthL]⟩
  | same t => intro h; exact ⟨h, Nat.le_refl _, Nat.le_refl _⟩
  | two hk _ _ ih1 ih2 =>
    intro h
    rw [right_two _ _ _ hk, Bool.and_eq_true] at h
    obtain ⟨r1, n1, d1⟩ := ih1 h.1
    obtain ⟨r2, n2, d2⟩ := ih2 h.2
    rw [right_two _ _ _ hk, nodes_two, nodes_two, depth_two, depth_two]
    exact ⟨by simp [r1, r2], by omega, by omega⟩
theorem Opens.check {a c : S26} (h : Opens a c) (ha : checkI a = 0) : checkI c = 0 := by
  obtain ⟨h1, h2, h3⟩ := check_nodes ha
  obtain ⟨r, n, d⟩ := h.right h3
  exact check_of (by omega) (by omega) r
theorem Opens.lev {a c : S26} (h : Opens a c) : rightB a = true → levB a c = true ∧ ∀ b, rightB b = true → levB a b = true → levB c b = true := by
  induction h with
  | none t => intro _; exact ⟨levB_zero_r _, fun b _ _ => levB_zero_l _⟩
  | same t => intro h; exact ⟨levB_refl _ h, fun _ _ h => h⟩
  | @two k a b a' b' hk h1 h2 ih1 ih2 =>
    intro h
    rw [right_two _ _ _ hk, Bool.and_eq_true] at h
    obtain ⟨g1, g2⟩ := ih1 h.1
    obtain ⟨g3, g4⟩ := ih2 h.2
    have r1 := (h1.right h.1).1
    have r2 := (h2.right h.2).1
    refine ⟨by rw [levB_two hk hk h.1 h.2 r1 r2, g1, g3]; simp, fun y hy hl => ?_⟩
    rcases right_cases hy with ⟨k', hk', rfl⟩ | ⟨k', b1, b2, hk', hb1, hb2, rfl⟩
    · by_cases e : k' = 0
      · subst e; exact levB_zero_r _
      · have e4 : ¬ k = k' := fun e => leaf_ne_node hk' (e ▸ hk)
        unfold levB at hl
        rw [X.lev] at hl
        simp [e, e4, node_ne_zero hk] at hl
    · rw [levB_two hk hk' h.1 h.2 hb1 hb2] at hl
      rw [levB_two hk hk' r1 r2 hb1 hb2]
      simp only [Bool.and_eq_true] at hl ⊢
      exact ⟨hl.1, g2 _ hb1 hl.2.1, g4 _ hb2 hl.2.2⟩
theorem Opens.agree {a c b : S26} (h : Opens a c) (ha : checkI a = 0) : agreeB a c = true ∧ (agreeB a b = true → agreeB c b = true) := by
  have hr := (check_nodes ha).2.2
  obtain ⟨g1, g2⟩ := h.lev hr
  have hc := h.check ha
  refine ⟨by simp [agreeB, ha, hc, g1], fun hb => ?_⟩
  simp only [agreeB, Bool.and_eq_true, decide_eq_true_eq] at hb ⊢
  exact ⟨⟨hc, hb.1.2⟩, g2 b (check_nodes hb.1.2).2.2 hb.2⟩
end Go.Proofs.Ytamhdpllmhafhaa.X
