/- Hand texts of round 1, parted: HLike. -/
import Derived.Test.YtamhdpllmhafhaaFLike
import Derived.Test.YtamhdpllmhafhaaHIs
import Derived.Test.YtamhdpllmhafhaaHLevel
import Derived.Test.YtamhdpllmhafhaaHNodes
import Derived.Test.YtamhdpllmhafhaaHSpec
import Derived.Test.YtamhdpllmhafhaaHTy
import Derived.Test.YtamhdpllmhafhaaX0
namespace Go.Proofs.Ytamhdpllmhafhaa.X
open Go.RowKit Go.Proofs.YtamhdpllmhafhaaW.PrintWords Go.Proofs.YtamhdpllmhafhaaW.PrintLast Go.Proofs.YtamhdpllmhafhaaW.PrintMore
set_option linter.unusedVariables false
set_option linter.unusedSimpArgs false

/-! ### lists that fit; LikeType, Small -/
mutual
def fits : S26 → Prop
  | ⟨_, l⟩ => l.length ≤ 9223372036854775807 ∧ fitsL l
def fitsL : List S26 → Prop
  | [] => True
  | x :: l => fits x ∧ fitsL l
end
theorem fits_eq (x : S26) : fits x = (x.f1.length ≤ 9223372036854775807 ∧ fitsL x.f1) := by cases x; rw [fits]
theorem fitsL_get {l : List S26} (h : fitsL l) (i : Nat) (hi : i < l.length) : fits (rd_T26 l i) := by
  induction l generalizing i with
  | nil => simp at hi
  | cons x l ih =>
    rw [fitsL] at h
    cases i with
    | zero => simpa [rd_T26] using h.1
    | succ i =>
      have := ih h.2 i (by simpa using hi)
      simpa [rd_T26] using this
theorem fitsL_of {l : List S26} (h : ∀ i, i < l.length → fits (rd_T26 l i)) : fitsL l := by
  induction l with
  | nil => rw [fitsL]; trivial
  | cons x l ih =>
    rw [fitsL]
    refine ⟨by simpa [rd_T26] using h 0 (by simp), ih fun i hi => ?_⟩
    have := h (i + 1) (by simpa using hi)
    simpa [rd_T26] using this
theorem fits_of_C (n : Nat) : ∀ (l : List S26) (w : World) (A : Option Addr), nodesL l < n → Kd.C k26 w A l.length l → l.length ≤ 9223372036854775807 ∧ fitsL l := by
  induction n with
  | zero => intro l w A h; omega
  | succ n ih =>
    intro l w A hn h
    refine ⟨h.2.1, fitsL_of fun i hi => ?_⟩
    obtain ⟨ad, A1, c1, _, _, _, _, h2⟩ := at_T26 h (i : Int) (by omega) (by omega)
    have := nodesL_rd l i hi
    rw [fits_eq]
    exact ih _ w A1 (by omega) h2
theorem fits_of_nodes (n : Nat) : ∀ t : S26, nodes t < n → nodes t ≤ 9223372036854775807 → fits t := by
  induction n with
  | zero => intro t h; omega
  | succ n ih =>
    intro t hn h
    rw [nodes_eq] at hn h
    have := length_le_nodesL t.f1
    rw [fits_eq]
    refine ⟨by omega, fitsL_of fun i hi => ?_⟩
    have := nodes_rd_le t.f1 i hi
    exact ih _ (by omega) (by omega)
theorem likeL_drop (l m : List S26) (i : Nat) (h : i < l.length) (h' : i < m.length) : likeL (l.drop i) (m.drop i) = (likeB (rd_T26 l i) (rd_T26 m i) && likeL (l.drop (i + 1)) (m.drop (i + 1))) := by
  rw [drop_rd l i h, drop_rd m i h', likeL]
theorem LikeType_ev (n : Nat) : ∀ (a b : S26), nodes a < n → fits a → Ev (fun f => lychgatelaw02_LikeType.f f a.f0 a.f1 b.f0 b.f1) (likeB a b) := by
  induction n with
  | zero => intro a b h; omega
  | succ n ih =>
  intro a b hn hfit
  rw [fits_eq] at hfit
  by_cases e : a.f0 = b.f0
  rotate_left
  · refine Ev.step (f := fun f => lychgatelaw02_LikeType.j0 f true a.f0 a.f1 b.f0 b.f1) (fun f => by simp only [lychgatelaw02_LikeType.f]; rw [if_neg e]) (Ev.step (f := fun _ => some false) (fun f => by simp [lychgatelaw02_LikeType.j0]) (Ev_eq (Ev.now _) (by rw [likeB_eq]; simp [e])))
  refine Ev.step (f := fun f => lychgatelaw02_LikeType.j0 f ((a.f1.length : Int) != (b.f1.length : Int)) a.f0 a.f1 b.f0 b.f1) (fun f => by simp only [lychgatelaw02_LikeType.f]; rw [if_pos e]) ?_
  by_cases hl : a.f1.length = b.f1.length
  rotate_left
  · have hne : ((a.f1.length : Int) != (b.f1.length : Int)) = true := by rw [bne_iff_ne]; omega
    refine Ev.step (f := fun _ => some false) (fun f => by simp only [lychgatelaw02_LikeType.j0]; rw [if_pos hne]) (Ev_eq (Ev.now _) ?_)
    cases h : likeB a b with
    | false => rfl
    | true =>
      have := (like_iff a b).1 h
      rw [this] at hl
      exact absurd rfl hl
  have heq : ((a.f1.length : Int) != (b.f1.length : Int)) = false := by rw [bne_eq_false_iff_eq]; omega
  refine Ev.step (f := fun f => lychgatelaw02_LikeType.l0 f 0 a.f0 a.f1 b.f0 b.f1) (fun f => by simp only [lychgatelaw02_LikeType.j0]; rw [heq]; rfl) ?_
  have loop : ∀ (d i : Nat), i ≤ a.f1.length → a.f1.length - i = d → Ev (fun f => lychgatelaw02_LikeType.l0 f (i : Int) a.f0 a.f1 b.f0 b.f1) (likeL (a.f1.drop i) (b.f1.drop i)) := by
    intro d
    induction d with
    | zero =>
      intro i hi hd
      refine Ev.step (f := fun _ => some true) (fun f => by simp only [lychgatelaw02_LikeType.l0]; rw [if_neg (by omega)]) (Ev_eq (Ev.now _) ?_)
      rw [List.drop_eq_nil_of_le (by omega), List.drop_eq_nil_of_le (by omega), likeL]
    | succ d ihd =>
      intro i hi hd
      have hlt : i < a.f1.length := by omega
      have hr := nodesL_rd a.f1 i hlt
      rw [nodes_eq] at hn
      have e1 := ih (rd_T26 a.f1 i) (rd_T26 b.f1 i) (by rw [nodes_eq]; omega) (fitsL_get hfit.2 i hlt)
      refine Ev.step (f := fun f => (lychgatelaw02_LikeType.f f (rd_T26 a.f1 i).f0 (rd_T26 a.f1 i).f1 (rd_T26 b.f1 i).f0 (rd_T26 b.f1 i).f1).bind fun t => if t = true then lychgatelaw02_LikeType.l0 f ((i + 1 : Nat) : Int) a.f0 a.f1 b.f0 b.f1 else some false) (fun f => ?_) (Ev.bind e1 ?_)
      · simp only [lychgatelaw02_LikeType.l0]
        rw [if_pos (by omega), if_pos (by omega), if_pos (by omega), w64 ((i : Int) + 1) (by omega) (by omega)]
        rfl
      · rw [likeL_drop a.f1 b.f1 i hlt (by omega)]
        cases likeB (rd_T26 a.f1 i) (rd_T26 b.f1 i) with
        | true => simpa using ihd (i + 1) (by omega) (by omega)
        | false => simpa using Ev.now _
  refine Ev_eq (loop a.f1.length 0 (by omega) rfl) ?_
  rw [likeB_eq]
  simp [e]
theorem IsT.fits {w : World} {v : Value} {t : S26} (h : IsT w v t) : fits t := by
  obtain ⟨A, c, rfl, h1, h2⟩ := h
  rw [fits_eq]
  exact fits_of_C (nodesL t.f1 + 1) t.f1 w A (by omega) h2
theorem LikeType_calls {a b : S26} {va vb : Value} {w : World} (ha : IsT w va a) (hb : IsT w vb b) : Calls Try.prog 26 #[va, vb] w fun e w' => e = .returned (.bool (likeB a b)) ∧ Below w.heap.size w w' := by
  have hf := ha.fits
  obtain ⟨A, c, rfl, h1, h2⟩ := ha
  obtain ⟨B, d, rfl, h3, h4⟩ := hb
  obtain ⟨k, hk⟩ := (LikeType_ev (nodes a + 1) a b (by omega) hf).rounds
  exact lychgatelaw02_LikeType.calls k a.f0 A c a.f1 b.f0 B d b.f1 _ w h2 h1 h4 h3 hk
end Go.Proofs.Ytamhdpllmhafhaa.X
