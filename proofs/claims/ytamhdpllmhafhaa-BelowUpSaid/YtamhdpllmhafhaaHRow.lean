/- How arguments of the type api.Type, read as data, are values that the print's kinds tell. -/
import Derived.Test.YtamhdpllmhafhaaX0
import Derived.ProofKit
import Derived.OpenShut
import Derived.ChangeOld
import Derived.SizedLaws
import Derived.ChangeArms
namespace Go.Proofs.Ytamhdpllmhafhaa.X
open Go.ChangeShapes Go.WideShapes Go.ChangeAt Go.RowKit Go.Proofs.YtamhdpllmhafhaaW.PrintWords
set_option linter.unusedVariables false

theorem agg_of_cells {v : Value} {cs : List Value} (h : v.cells.toList = cs) (hl : cs.length ≠ 1) : v = .agg cs.toArray := by
  subst h
  cases v <;> simp_all [Value.cells]

theorem list_of_lt {α : Type} {n : Nat} {p : Nat → α → Prop} (h : ∀ i, i < n → ∃ x, p i x) : ∃ l : List α, l.length = n ∧ ∀ i x, l[i]? = some x → p i x := by
  induction n with
  | zero => exact ⟨[], rfl, fun i x h => by simp at h⟩
  | succ n ih =>
    obtain ⟨l, hl, hp⟩ := ih (fun i hi => h i (by omega))
    obtain ⟨x, hx⟩ := h n (by omega)
    refine ⟨l ++ [x], by simp [hl], fun i y hy => ?_⟩
    rcases Nat.lt_or_ge i n with hi | hi
    · rw [List.getElem?_append_left (by omega)] at hy
      exact hp i y hy
    · have hi2 : i = n := by
        have := (List.getElem?_eq_some_iff.1 hy).1
        simp at this
        omega
      subst hi2
      rw [List.getElem?_append_right (by omega)] at hy
      simp [hl] at hy
      subst hy
      exact hx
section
variable {H : Type} {enc : TypeId × Value → H} {P : Program} {w : World} {base : Nat} {spare : Nat → Bool} {held : Bool}
theorem row_of_trod {α : Type} (d : Kd α) {t e : TypeId} (ht : P.underlying t = some (.slice e)) (hc : P.cellsOf e = d.sz) {fuel : Nat} {cs : List Value} {x : DataW H × List MemPlace}
    (ih : ∀ n, n < fuel → ∀ cs x, DataW.trod enc P w base spare held n e cs = some x → ∃ v, d.K w v cs) (h : DataW.trod enc P w base spare held fuel t cs = some x) :
    ∃ A l c, cs = [.slice A l.length c] ∧ l.length ≤ c ∧ c ≤ maxLen ∧ Kd.C d w A l.length l := by
  rcases DataW.trod_slice ht h with ⟨rfl, _⟩ | ⟨a, len, cap, elems, rest, n, rfl, rfl, _, hb, hl, hm, hlen, hel, _, _⟩
  · exact ⟨none, [], 0, rfl, Nat.le_refl _, Nat.zero_le _, rfl, by simp, fun h => absurd h (by simp)⟩
  · have key : ∀ i, i < len → ∃ v cs', cs'.length = d.sz ∧ d.K w v cs' ∧ ∀ j u, cs'[j]? = some u → w.cell? (a.add (i * d.sz + j)) = some u := fun i hi => by
      have h1 := hel i hi
      rw [List.getElem?_eq_getElem (by omega)] at h1
      obtain ⟨cs', h2, h3⟩ := Option.bind_eq_some_iff.1 h1
      obtain ⟨v, hv⟩ := ih n (Nat.lt_succ_self n) _ _ h3
      rw [hc] at h2
      obtain ⟨_, h4, h5⟩ := World.cells?_some h2
      refine ⟨v, cs', h4, hv, fun j u hu => ?_⟩
      have hj : j < d.sz := by rw [← h4]; exact (List.getElem?_eq_some_iff.1 hu).1
      rw [← hu, ← h5 j hj]
      congr 1
      unfold Addr.add
      by_cases h6 : i * d.sz = 0 <;> by_cases h7 : j = 0 <;> simp [h6, h7, Nat.add_assoc] <;> omega
    obtain ⟨l, hll, hp⟩ := list_of_lt key
    subst hll
    exact ⟨some a, l, cap, rfl, hl, hm, rfl, by simp only [maxLen] at hm; omega, fun _ => ⟨a, rfl, fun j p hj => by
      obtain ⟨c, h1, h2, h3⟩ := hp j p hj
      exact ⟨c, h1, h2, h3⟩⟩⟩
end
section
variable {H : Type} {enc : TypeId × Value → H} {w : World} {base : Nat} {spare : Nat → Bool} {held : Bool}
theorem T26_of_trod (fuel : Nat) : ∀ (cs : List Value) (x : DataW H × List MemPlace), DataW.trod enc Try.prog w base spare held fuel 26 cs = some x → ∃ v : S26, k26.K w v cs := by
  induction fuel using Nat.strongRecOn with
  | _ fuel ih =>
  intro cs x h
  obtain ⟨xs, n, rfl, rfl, hl, hx, hf⟩ := DataW.trod_struct Try.underlying26 h
  have h0 := hf 0 _ rfl
  have h1 := hf 1 _ rfl
  have hx2 : xs.length = 2 := hx
  rw [List.getElem?_eq_getElem (by omega)] at h0 h1
  obtain ⟨k, e0, _, wk⟩ := DataW.trod_int Try.underlying23 h0
  obtain ⟨A, l, c, e1, hlc, _, hC⟩ := row_of_trod k26 Try.underlying24 (by kernel_rfl) (fun m hm cs x h => ih m (by omega) cs x h) h1
  have hc2 : cs.length = 2 := hl.trans (by kernel_rfl)
  match cs, hc2 with
  | [a, b], _ =>
    simp at e0 e1
    have ha : a = .int .i8 k := by simpa using (show [a] = [Value.int .i8 k] from e0)
    have hb : b = .slice A l.length c := by simpa using (show [b] = [Value.slice A l.length c] from e1)
    subst ha hb
    exact ⟨⟨k, l⟩, k26_mk w ⟨k, l⟩ hlc hC⟩
/-- An argument of the type api.Type. -/
theorem arg26 {v : Value} {x : DataW H} {ps : List MemPlace} (h : DataW.Trod enc Try.prog w base spare held 26 v x ps) :
    ∃ (k : Int) (A : Option Addr) (l : List S26) (c : Nat), v = .agg #[.int .i8 k, .slice A l.length c] ∧ l.length ≤ c ∧ Kd.C k26 w A l.length l := by
  obtain ⟨fuel, hf⟩ := h
  obtain ⟨t, ht⟩ := T26_of_trod fuel _ _ hf
  obtain ⟨A, c, e, h1, h2⟩ := k26_open ht
  exact ⟨t.f0, A, t.f1, c, by rw [agg_of_cells e (by simp)], h1, h2⟩
end
end Go.Proofs.Ytamhdpllmhafhaa.X
