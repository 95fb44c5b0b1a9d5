/- The walk of the law RaceSame: both functions answer alike at any two outcomes. -/
import Derived.Test.YtamhdpllmhafhaaX3
import Derived.Test.YtamhdpllmhafhaaHRow
namespace Go.Proofs.Ytamhdpllmhafhaa.X
open Go.ChangeShapes Go.WideShapes Go.RowKit Go.Proofs.YtamhdpllmhafhaaW.PrintWords
set_option linter.unusedVariables false

theorem raceSame_pure (a0 a1 : Int) (a2 : ByteArray) (a3 : Bool) (a4 : Int) (a5 : List S26) (a6 : Int) (a7 : Bool) (b0 b1 : Int) (b2 : ByteArray) (b3 : Bool) (b4 : Int) (b5 : List S26) (b6 : Int) (b7 : Bool) :
    lychgatelaw21_RaceSame.f a0 a1 a2 a3 a4 a5 a6 a7 b0 b1 b2 b3 b4 b5 b6 b7 = some true := by
  have key : race_Same.f a0 a1 a2 a3 a4 a5 a6 a7 b0 b1 b2 b3 b4 b5 b6 b7 = lychgateref21_Same.f a0 a1 a2 a3 a4 a5 a6 a7 b0 b1 b2 b3 b4 b5 b6 b7 := by
    unfold race_Same.f lychgateref21_Same.f race_of.f
    by_cases h : a0 = b0
    · subst h
      rw [if_pos rfl]
      by_cases h1 : a0 = 183
      · rw [if_pos h1, if_pos h1, if_pos h1]
        subst h1
        simp
        cases a7 <;> cases b7 <;> by_cases h2 : a6 = b6 <;> simp [h2]
      · rw [if_neg h1, if_neg h1, if_neg h1]
        by_cases h2 : a0 = 0
        · rw [if_pos h2, if_pos h2, if_pos h2]
          cases a3 <;> cases b3 <;> simp
        · rw [if_neg h2, if_neg h2, if_neg h2]
          simp
    · rw [if_neg h]
      have h' : (a0 == b0) = false := by simp [h]
      by_cases h1 : a0 = 183 <;> by_cases h2 : b0 = 183 <;> by_cases h3 : a0 = 0 <;> by_cases h4 : b0 = 0 <;> cases a3 <;> cases b3 <;> simp_all
  have hs : ∃ t, lychgateref21_Same.f a0 a1 a2 a3 a4 a5 a6 a7 b0 b1 b2 b3 b4 b5 b6 b7 = some t := by
    unfold lychgateref21_Same.f
    repeat' split
    all_goals exact ⟨_, rfl⟩
  obtain ⟨t, ht⟩ := hs
  unfold lychgatelaw21_RaceSame.f
  rw [key, ht]
  simp [race_Same.f, race_of.f]

theorem T28_of_trod {H : Type} {enc : TypeId × Value → H} {w : World} {base : Nat} {spare : Nat → Bool} {held : Bool} {fuel : Nat} {cs : List Value} {x : DataW H × List MemPlace} (h : DataW.trod enc Try.prog w base spare held fuel 28 cs = some x) :
    ∃ (a : Int) (b : Bool), cs = [.int .i64 a, .bool b] := by
  obtain ⟨xs, n, rfl, rfl, hl, hx, hf⟩ := DataW.trod_struct Try.underlying28 h
  have h0 := hf 0 _ rfl
  have h1 := hf 1 _ rfl
  have hx2 : xs.length = 2 := hx
  rw [List.getElem?_eq_getElem (by omega)] at h0 h1
  obtain ⟨k, e0, _, wk⟩ := DataW.trod_int Try.underlying3 h0
  obtain ⟨b, e1, _⟩ := DataW.trod_bool Try.underlying4 h1
  have hc2 : cs.length = 2 := hl.trans (by kernel_rfl)
  match cs, hc2 with
  | [c0, c1], _ =>
    have ha : c0 = .int .i64 k := by simpa using (show [c0] = [Value.int .i64 k] from e0)
    have hb : c1 = .bool b := by simpa using (show [c1] = [Value.bool b] from e1)
    subst ha hb
    exact ⟨k, b, rfl⟩

/-- An argument of the type api.Outcome. -/
theorem arg30 {H : Type} {enc : TypeId × Value → H} {w : World} {base : Nat} {spare : Nat → Bool} {held : Bool} {v : Value} {x : DataW H} {ps : List MemPlace} (h : DataW.Trod enc Try.prog w base spare held 30 v x ps) :
    ∃ (a0 a1 : Int) (a2 : ByteArray) (a3 : Bool) (a4 : Int) (A : Option Addr) (l : List S26) (c : Nat) (a6 : Int) (a7 : Bool),
      v = .agg #[.int .i64 a0, .int .i64 a1, .string a2, .bool a3, .int .i8 a4, .slice A l.length c, .int .i64 a6, .bool a7] ∧ l.length ≤ c ∧ Kd.C k26 w A l.length l := by
  obtain ⟨fuel, hf0⟩ := h
  obtain ⟨xs, n, rfl, hxx, hl, hx, hf⟩ := DataW.trod_struct Try.underlying30 hf0
  have h0 := hf 0 _ rfl
  have h1 := hf 1 _ rfl
  have h2 := hf 2 _ rfl
  have h3 := hf 3 _ rfl
  have h4 := hf 4 _ rfl
  have h5 := hf 5 _ rfl
  have hx2 : xs.length = 6 := hx
  rw [List.getElem?_eq_getElem (by omega)] at h0 h1 h2 h3 h4 h5
  obtain ⟨a0, e0, _, _⟩ := DataW.trod_int Try.underlying22 h0
  obtain ⟨a1, e1, _, _⟩ := DataW.trod_int Try.underlying3 h1
  obtain ⟨a2, e2, _, _⟩ := DataW.trod_string Try.underlying9 h2
  obtain ⟨a3, e3, _⟩ := DataW.trod_bool Try.underlying4 h3
  obtain ⟨t, ht⟩ := T26_of_trod _ _ _ h4
  obtain ⟨A, c, e4, hlc, hC⟩ := k26_open ht
  obtain ⟨a6, a7, e5⟩ := T28_of_trod h5
  have hc2 : v.cells.toList.length = 8 := hl.trans (by kernel_rfl)
  generalize hcs : v.cells.toList = cs at *
  match cs, hc2 with
  | [c0, c1, c2, c3, c4, c5, c6, c7], _ =>
    have q0 : [c0] = [Value.int .i64 a0] := e0
    have q1 : [c1] = [Value.int .i64 a1] := e1
    have q2 : [c2] = [Value.string a2] := e2
    have q3 : [c3] = [Value.bool a3] := e3
    have q4 : [c4, c5] = [Value.int .i8 t.f0, .slice A t.f1.length c] := e4
    have q5 : [c6, c7] = [Value.int .i64 a6, .bool a7] := e5
    simp at q0 q1 q2 q3 q4 q5
    obtain ⟨q4, q4'⟩ := q4
    obtain ⟨q5, q5'⟩ := q5
    subst q0 q1 q2 q3 q4 q4' q5 q5'
    exact ⟨a0, a1, a2, a3, t.f0, A, t.f1, c, a6, a7, agg_of_cells hcs (by simp), hlc, hC⟩

theorem raceSame_walk (a0_0 a0_1 : Int) (a0_2 : ByteArray) (a0_3 : Bool) (a0_4 : Int) (A0 : Option Addr) (l0 : List S26) (c0 : Nat) (a0_6 : Int) (a0_7 : Bool) (a1_0 a1_1 : Int) (a1_2 : ByteArray) (a1_3 : Bool) (a1_4 : Int) (A1 : Option Addr) (l1 : List S26) (c1 : Nat) (a1_6 : Int) (a1_7 : Bool) (w : World)
    (hc0 : l0.length ≤ c0) (hr0 : Kd.C k26 w A0 l0.length l0) (hc1 : l1.length ≤ c1) (hr1 : Kd.C k26 w A1 l1.length l1) :
    Calls Try.prog 3 #[.agg #[.int .i64 a0_0, .int .i64 a0_1, .string a0_2, .bool a0_3, .int .i8 a0_4, .slice A0 l0.length c0, .int .i64 a0_6, .bool a0_7], .agg #[.int .i64 a1_0, .int .i64 a1_1, .string a1_2, .bool a1_3, .int .i8 a1_4, .slice A1 l1.length c1, .int .i64 a1_6, .bool a1_7]] w fun e w' => e = .returned (.bool true) ∧ Below w.heap.size w w' :=
  lychgatelaw21_RaceSame.calls _ _ _ _ _ _ _ _ _ _ _ _ _ _ _ _ _ _ _ _ _ _ hr0 hc0 hr1 hc1 (raceSame_pure _ _ _ _ _ _ _ _ _ _ _ _ _ _ _ _)
end Go.Proofs.Ytamhdpllmhafhaa.X
