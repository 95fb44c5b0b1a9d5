/- Hand texts of round 1, parted: HGround. -/
import Derived.Test.YtamhdpllmhafhaaFGround
import Derived.Test.YtamhdpllmhafhaaFOf
import Derived.Test.YtamhdpllmhafhaaFRefGround
import Derived.Test.YtamhdpllmhafhaaHIs
import Derived.Test.YtamhdpllmhafhaaHSpec
import Derived.Test.YtamhdpllmhafhaaHSpecR
import Derived.Test.YtamhdpllmhafhaaHTy
import Derived.Test.YtamhdpllmhafhaaX0
namespace Go.Proofs.Ytamhdpllmhafhaa.X
open Go.RowKit Go.Proofs.YtamhdpllmhafhaaW.PrintWords Go.Proofs.YtamhdpllmhafhaaW.PrintLast Go.Proofs.YtamhdpllmhafhaaW.PrintMore
set_option linter.unusedVariables false
set_option linter.unusedSimpArgs false

/-! ### Ground -/
def groundT (t : S26) : S26 × Bool := if checkI t = 0 ∧ t.f0 ≠ 0 then (if t.f1.length = 0 then (⟨t.f0, []⟩, true) else (⟨t.f0, [z26, z26]⟩, true)) else (z26, false)
theorem Ground_ev (t : S26) : Ev (fun f => types_Ground.f f t.f0 t.f1) ((groundT t).1.f0, (groundT t).1.f1, (groundT t).2) := by
  unfold types_Ground.f groundT
  refine Ev.bind (Ev_eq (Check_ev t.f0 t.f1) (by rw [S26.eta])) ?_
  by_cases h1 : checkI t = 0
  · simp only [h1, if_true]
    by_cases h0 : t.f0 = 0
    · simpa [h0, z26] using Ev.now _
    · rw [if_pos ⟨trivial, h0⟩]
      simp only [h0, if_false]
      refine Ev.bind (parts_ev t.f0) ?_
      have hr := (check_nodes h1).2.2
      rcases right_cases hr with ⟨k, hk, rfl⟩ | ⟨k, a, b, hk, _, _, rfl⟩
      · have : partsI k = 0 := by rcases hk with rfl | rfl | rfl <;> rfl
        simp only [this]
        simpa using Ev.now _
      · have : partsI k = 2 := by rcases hk with rfl | rfl | rfl <;> rfl
        simp only [this]
        simpa [List.replicate] using Ev.now _
  · simp only [h1, if_false, false_and]
    simpa [z26] using Ev.now _
theorem refGround_ev (t : S26) : Ev (fun f => lychgateref02_Ground.f f t.f0 t.f1) ((groundT t).1.f0, (groundT t).1.f1, (groundT t).2) := by
  unfold lychgateref02_Ground.f groundT
  refine Ev.bind (Ev_eq (refCheck_ev t.f0 t.f1) (by rw [S26.eta])) ?_
  by_cases h1 : checkI t = 0
  · simp only [h1, if_true]
    by_cases h0 : t.f0 = 0
    · exact Ev.step (f := fun _ => some (0, [], false)) (fun f => by simp [lychgateref02_Ground.j0, h0]) (Ev_eq (Ev.now _) (by simp [h0, z26]))
    · rw [if_pos ⟨trivial, h0⟩]
      by_cases hl : t.f1.length = 0
      · exact Ev.step (f := fun _ => some (t.f0, [], true)) (fun f => by simp [lychgateref02_Ground.j0, h0, hl]) (Ev_eq (Ev.now _) (by simp [hl]))
      · exact Ev.step (f := fun _ => some (t.f0, [z26, z26], true)) (fun f => by simp [lychgateref02_Ground.j0, h0, hl, lychgateref02_Of.f, z26]) (Ev_eq (Ev.now _) (by simp [hl]))
  · simp only [h1, if_false, false_and]
    exact Ev.step (f := fun _ => some (0, [], false)) (fun f => by simp [lychgateref02_Ground.j0]) (Ev_eq (Ev.now _) (by simp [z26]))

theorem IsT.of_R {w w1 : World} {base : Nat} {ok : Nat → Prop} {v : Value} {t : S26} (h : Kd.R k26 26 w base ok v t.f1) : IsT w (.agg #[.int .i8 t.f0, v]) t := by
  obtain ⟨A, c, rfl, h1, h2⟩ := Kd.R_reads h
  exact ⟨A, c, rfl, h1, h2⟩
theorem Ground_calls {t : S26} {v : Value} {w : World} (h : IsT w v t) : Calls Try.prog 41 #[v] w fun e w' => ∃ vg, e = .returned (.tuple #[vg, .bool (groundT t).2]) ∧ IsT w' vg (groundT t).1 ∧ Below w.heap.size w w' := by
  obtain ⟨A, c, rfl, h1, h2⟩ := h
  obtain ⟨k, hk⟩ := (Ground_ev t).rounds
  refine (types_Ground.calls k t.f0 A c t.f1 _ _ _ w h2 h1 hk).mono ?_
  rintro e w' ⟨v1, rfl, hR, hB⟩
  exact ⟨_, rfl, IsT.of_R (w1 := w) hR, hB⟩
theorem refGround_calls {t : S26} {v : Value} {w : World} (h : IsT w v t) : Calls Try.prog 42 #[v] w fun e w' => ∃ vg, e = .returned (.tuple #[vg, .bool (groundT t).2]) ∧ IsT w' vg (groundT t).1 ∧ Below w.heap.size w w' := by
  obtain ⟨A, c, rfl, h1, h2⟩ := h
  obtain ⟨k, hk⟩ := (refGround_ev t).rounds
  refine (lychgateref02_Ground.calls k t.f0 A c t.f1 _ _ _ w h2 h1 hk).mono ?_
  rintro e w' ⟨v1, rfl, hR, hB⟩
  obtain ⟨B, d, rfl, h3, h4⟩ := Kd.N_reads hR
  exact ⟨_, rfl, ⟨B, d, rfl, h3, h4⟩, hB⟩
end Go.Proofs.Ytamhdpllmhafhaa.X
