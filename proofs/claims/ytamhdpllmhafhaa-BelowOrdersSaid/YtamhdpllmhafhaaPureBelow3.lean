/- Plain laws of layer 8: below both ways is the same; known types. -/
import Derived.Test.YtamhdpllmhafhaaPureBelow2
import Derived.Test.YtamhdpllmhafhaaHKnown
import Derived.Test.YtamhdpllmhafhaaHSame
namespace Go.Proofs.Ytamhdpllmhafhaa.X
open Go.RowKit Go.Proofs.YtamhdpllmhafhaaW.PrintWords Go.Proofs.YtamhdpllmhafhaaW.PrintLast Go.Proofs.YtamhdpllmhafhaaW.PrintMore
set_option linter.unusedVariables false
set_option linter.unusedSimpArgs false

theorem rel_anti {a b : S26} (h : relB 0 a b = true) : relB 0 b a = sameB a b := by
  have h0 := h
  simp only [relB, Bool.and_eq_true, decide_eq_true_eq] at h
  obtain ⟨⟨ha, hb⟩, hr⟩ := h
  simp only [relB, sameB, ha, hb, decide_true, Bool.true_and]
  cases hl : likeB a b with
  | true =>
    have e := (like_iff a b).1 hl
    subst e
    exact hr
  | false =>
    cases hr2 : bel 0 b a with
    | false => rfl
    | true =>
      have e := bel_anti _ a b (Nat.lt_succ_self _) (check_nodes ha).2.2 (check_nodes hb).2.2 hr hr2
      subst e
      rw [like_refl] at hl
      exact hl
theorem bel_known (n : Nat) : ∀ m a b, mu a b < n → rightB a = true → rightB b = true → closedB a = true → closedB b = true → bel m a b = likeB a b := by
  induction n with
  | zero => intro m a b h; omega
  | succ n ih =>
    intro m a b hn ha hb ca cb
    have na : ∀ t : S26, closedB t = true → t.f0 ≠ 0 := fun t h => by rw [closedB_eq, Bool.and_eq_true] at h; exact of_decide_eq_true h.1
    refine two_cases ha hb _ ?_ ?_ ?_ ?_ ?_ ?_
    · rintro rfl rfl; exact absurd rfl (na _ ca)
    · rintro rfl h; exact absurd rfl (na _ ca)
    · rintro h rfl; exact absurd rfl (na _ cb)
    · intro h h' hne; rw [bel_ne m h h' hne, likeB_eq]; simp [hne]
    · rintro k hk h0 rfl rfl; rw [bel_leaf m k h0]; exact (like_refl _).symm
    · rintro k x y x' y' hk hx hy hx' hy' rfl rfl
      rw [closed_two _ _ _ hk, Bool.and_eq_true] at ca cb
      obtain ⟨h1, h2, h3⟩ := @mu_parts k k x y x' y' (node_ne_zero hk)
      rw [bel_two m hk hx hy hx' hy', ih (otherW m) x' x (by omega) hx' hx cb.1 ca.1, ih m x x' (by omega) hx hx' ca.1 cb.1, ih m y y' (by omega) hy hy' ca.2 cb.2, like_two, like_symm x' x]
      simp
theorem rel_known {m : Nat} {a b : S26} (ha : knownB a = true) (hb : knownB b = true) : relB m a b = sameB a b := by
  unfold knownB at ha hb
  simp only [Bool.and_eq_true, decide_eq_true_eq] at ha hb
  simp only [relB, sameB, ha.1, hb.1, decide_true, Bool.true_and]
  exact bel_known _ m a b (Nat.lt_succ_self _) (check_nodes ha.1).2.2 (check_nodes hb.1).2.2 ha.2 hb.2
end Go.Proofs.Ytamhdpllmhafhaa.X
