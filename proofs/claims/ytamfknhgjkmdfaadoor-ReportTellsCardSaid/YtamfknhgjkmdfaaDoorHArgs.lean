/- The law's arguments, read: an error's description, an outcome. -/
import Derived.Test.YtamfknhgjkmdfaaDoorHEnv
import Derived.ChangeArms
import Derived.SizedLaws
import Derived.WideShapes
namespace Go.Proofs.YtamfknhgjkmdfaaDoor.X
open Go.RowKit Go.ChangeShapes Go.WideShapes
set_option linter.unusedVariables false
theorem wf_i64 {n : Int} (h : (Lit.int .i64 n).wf = true) : -9223372036854775808 ≤ n ∧ n ≤ 9223372036854775807 := by
  simp [Lit.wf] at h
  exact ⟨h.1, h.2⟩
section
variable {H : Type} {enc : TypeId × Value → H} {w : World} {base : Nat} {spare : Nat → Bool} {held : Bool}
set_option maxRecDepth 100000 in
theorem fault_parts (fuel : Nat) (a0 a1 a2 : Value) (x : DataW H × List MemPlace) (h : DataW.trod enc Tryd.prog w base spare held fuel 36 [a0, a1, a2] = some x) :
    ∃ (code at_ : Int) (word : ByteArray), a0 = .int .i64 code ∧ a1 = .int .i64 at_ ∧ a2 = .string word ∧ x.1 = .agg [.lit (.int .i64 code), .lit (.int .i64 at_), .lit (.string word.data.toList)] ∧ (-9223372036854775808 ≤ code ∧ code ≤ 9223372036854775807) := by
  obtain ⟨xs, n, hq, rfl, hl, hx, hf⟩ := DataW.trod_struct Tryd.underlying36 h
  match xs, hx, hf with
  | [x0, x1, x2], _, hf =>
    have h0 : DataW.trod enc Tryd.prog w base spare held n 22 [a0] = some x0 := hf 0 _ rfl
    have h1 : DataW.trod enc Tryd.prog w base spare held n 3 [a1] = some x1 := hf 1 _ rfl
    have h2 : DataW.trod enc Tryd.prog w base spare held n 9 [a2] = some x2 := hf 2 _ rfl
    obtain ⟨c, e0, rfl, hw⟩ := DataW.trod_int Tryd.underlying22 h0
    obtain ⟨p, e1, rfl, -⟩ := DataW.trod_int Tryd.underlying3 h1
    obtain ⟨s, e2, rfl, -⟩ := DataW.trod_string Tryd.underlying9 h2
    exact ⟨c, p, s, by simpa using e0, by simpa using e1, by simpa using e2, rfl, wf_i64 hw⟩
theorem agg_of {v : Value} {n : Nat} (h : v.cells.toList.length = n) (hn : n ≠ 1) : ∃ cs : Array Value, v = .agg cs ∧ v.cells.toList = cs.toList := by
  cases v <;> simp [Value.cells] at h ⊢ <;> omega
set_option maxRecDepth 100000 in
/-- An argument of the type Err. -/
theorem argErr {v : Value} {d : DataW H} {ps : List MemPlace} (h : DataW.Trod enc Tryd.prog w base spare held 45 v d ps) :
    ∃ (kind code at_ : Int) (word text : ByteArray), v = .agg #[.int .i64 kind, .int .i64 code, .int .i64 at_, .string word, .string text] ∧
      d = .agg [.lit (.int .i64 kind), .agg [.lit (.int .i64 code), .lit (.int .i64 at_), .lit (.string word.data.toList)], .lit (.string text.data.toList)] ∧ (-9223372036854775808 ≤ code ∧ code ≤ 9223372036854775807) := by
  obtain ⟨fuel, h⟩ := h
  obtain ⟨xs, n, hq, hxx, hl, hx, hf⟩ := DataW.trod_struct Tryd.underlying45 h
  have hl5 : v.cells.toList.length = 5 := hl.trans (by kernel_rfl)
  obtain ⟨cs, rfl, hcs⟩ := agg_of hl5 (by decide)
  rw [hcs] at hf hl5
  obtain ⟨l⟩ := cs
  simp only at hf hl5
  match l, hl5, xs, hx, hf, hxx with
  | [a0, a1, a2, a3, a4], _, [x0, x1, x2], _, hf, hxx =>
    have h0 : DataW.trod enc Tryd.prog w base spare held n 3 [a0] = some x0 := hf 0 _ rfl
    have h1 : DataW.trod enc Tryd.prog w base spare held n 36 [a1, a2, a3] = some x1 := hf 1 _ rfl
    have h2 : DataW.trod enc Tryd.prog w base spare held n 9 [a4] = some x2 := hf 2 _ rfl
    obtain ⟨k, e0, rfl, -⟩ := DataW.trod_int Tryd.underlying3 h0
    obtain ⟨c, p, s, rfl, rfl, rfl, e1, hr⟩ := fault_parts n a1 a2 a3 x1 h1
    obtain ⟨t, e2, rfl, -⟩ := DataW.trod_string Tryd.underlying9 h2
    have q0 : a0 = .int .i64 k := by simpa using e0
    have q4 : a4 = .string t := by simpa using e2
    subst q0 q4
    refine ⟨k, c, p, s, t, rfl, ?_, hr⟩
    have := congrArg Prod.fst hxx
    simp only [List.map_cons, List.map_nil] at this
    rw [this, e1]
set_option maxRecDepth 100000 in
/-- An argument of the type api.Outcome. -/
theorem argOut {v : Value} {d : DataW H} {ps : List MemPlace} (h : DataW.Trod enc Tryd.prog w base spare held 33 v d ps) :
    ∃ (E steps : Int) (value : ByteArray) (b : Bool) (tk : Int) (sl : Value) (label : Int) (neg : Bool), v = .agg #[.int .i64 E, .int .i64 steps, .string value, .bool b, .int .i8 tk, sl, .int .i64 label, .bool neg] ∧
      (∃ ty bl, d = .agg [.lit (.int .i64 E), .lit (.int .i64 steps), .lit (.string value.data.toList), .lit (.bool b), ty, bl]) ∧ sl.cells = #[sl] ∧ (-9223372036854775808 ≤ E ∧ E ≤ 9223372036854775807) ∧ (-9223372036854775808 ≤ steps ∧ steps ≤ 9223372036854775807) ∧ label ≤ 9223372036854775807 := by
  obtain ⟨fuel, h⟩ := h
  obtain ⟨xs, n, hq, hxx, hl, hx, hf⟩ := DataW.trod_struct Tryd.underlying33 h
  have hl8 : v.cells.toList.length = 8 := hl.trans (by kernel_rfl)
  obtain ⟨cs, rfl, hcs⟩ := agg_of hl8 (by decide)
  rw [hcs] at hf hl8
  obtain ⟨l⟩ := cs
  simp only at hf hl8
  match l, hl8, xs, hx, hf, hxx with
  | [a0, a1, a2, a3, a4, a5, a6, a7], _, [x0, x1, x2, x3, x4, x5], _, hf, hxx =>
    have h0 : DataW.trod enc Tryd.prog w base spare held n 22 [a0] = some x0 := hf 0 _ rfl
    have h1 : DataW.trod enc Tryd.prog w base spare held n 3 [a1] = some x1 := hf 1 _ rfl
    have h2 : DataW.trod enc Tryd.prog w base spare held n 9 [a2] = some x2 := hf 2 _ rfl
    have h3 : DataW.trod enc Tryd.prog w base spare held n 4 [a3] = some x3 := hf 3 _ rfl
    have h4 : DataW.trod enc Tryd.prog w base spare held n 29 [a4, a5] = some x4 := hf 4 _ rfl
    have h5 : DataW.trod enc Tryd.prog w base spare held n 31 [a6, a7] = some x5 := hf 5 _ rfl
    obtain ⟨E, e0, rfl, r0⟩ := DataW.trod_int Tryd.underlying22 h0
    obtain ⟨st, e1, rfl, r1⟩ := DataW.trod_int Tryd.underlying3 h1
    obtain ⟨va, e2, rfl, -⟩ := DataW.trod_string Tryd.underlying9 h2
    obtain ⟨b, e3, rfl⟩ := DataW.trod_bool Tryd.underlying4 h3
    obtain ⟨ys, n4, -, -, -, hy, hg⟩ := DataW.trod_struct Tryd.underlying29 h4
    obtain ⟨zs, n5, -, -, -, hz, hk⟩ := DataW.trod_struct Tryd.underlying31 h5
    match ys, hy, hg, zs, hz, hk with
    | [y0, y1], _, hg, [z0, z1], _, hk =>
      have g0 : DataW.trod enc Tryd.prog w base spare held n4 26 [a4] = some y0 := hg 0 _ rfl
      have g1 : DataW.trod enc Tryd.prog w base spare held n4 27 [a5] = some y1 := hg 1 _ rfl
      have k0 : DataW.trod enc Tryd.prog w base spare held n5 3 [a6] = some z0 := hk 0 _ rfl
      have k1 : DataW.trod enc Tryd.prog w base spare held n5 4 [a7] = some z1 := hk 1 _ rfl
      obtain ⟨tk, e4, -, -⟩ := DataW.trod_int Tryd.underlying26 g0
      obtain ⟨lb, e6, -, r6⟩ := DataW.trod_int Tryd.underlying3 k0
      obtain ⟨ng, e7, -⟩ := DataW.trod_bool Tryd.underlying4 k1
      have hsl : a5.cells = #[a5] := by
        rcases DataW.trod_slice Tryd.underlying27 g1 with ⟨e5, -⟩ | ⟨a, len, cap, _, _, _, -, e5, -⟩
        · have : a5 = .slice none 0 0 := by simpa using e5
          rw [this]; rfl
        · have : a5 = .slice (some a) len cap := by simpa using e5
          rw [this]; rfl
      have q0 : a0 = .int .i64 E := by simpa using e0
      have q1 : a1 = .int .i64 st := by simpa using e1
      have q2 : a2 = .string va := by simpa using e2
      have q3 : a3 = .bool b := by simpa using e3
      have q4 : a4 = .int .i8 tk := by simpa using e4
      have q6 : a6 = .int .i64 lb := by simpa using e6
      have q7 : a7 = .bool ng := by simpa using e7
      subst q0 q1 q2 q3 q4 q6 q7
      refine ⟨E, st, va, b, tk, a5, lb, ng, rfl, ⟨x4.1, x5.1, ?_⟩, hsl, wf_i64 r0, wf_i64 r1, (wf_i64 r6).2⟩
      have := congrArg Prod.fst hxx
      simpa using this
end
/-- The texts within such arguments are no longer than the reach. -/
theorem sized_err {H : Type} {ts : List TypeId} {ds : List (DataW H)} (h : (DataW.weightsEach Tryd.prog ts ds).all (· ≤ reachBytes) = true) {j : Nat} {a b c : Int} {wd tx : List UInt8} (ht : ts[j]? = some 45)
    (hd : ds[j]? = some (.agg [.lit (.int .i64 a), .agg [.lit (.int .i64 b), .lit (.int .i64 c), .lit (.string wd)], .lit (.string tx)])) : wd.length ≤ reachBytes ∧ tx.length ≤ reachBytes := by
  constructor
  · have := List.all_eq_true.1 h _ (DataW.weights_mem_each ht hd wd.length (by simp [DataW.weights, DataW.weightsEach, Tryd.underlying45, Tryd.underlying36]))
    simpa using this
  · have := List.all_eq_true.1 h _ (DataW.weights_mem_each ht hd tx.length (by simp [DataW.weights, DataW.weightsEach, Tryd.underlying45, Tryd.underlying36]))
    simpa using this
theorem sized_out {H : Type} {ts : List TypeId} {ds : List (DataW H)} (h : (DataW.weightsEach Tryd.prog ts ds).all (· ≤ reachBytes) = true) {j : Nat} {a b : Int} {va : List UInt8} {o : Bool} {ty bl : DataW H} (ht : ts[j]? = some 33)
    (hd : ds[j]? = some (.agg [.lit (.int .i64 a), .lit (.int .i64 b), .lit (.string va), .lit (.bool o), ty, bl])) : va.length ≤ reachBytes := by
  have := List.all_eq_true.1 h _ (DataW.weights_mem_each ht hd va.length (by simp [DataW.weights, DataW.weightsEach, Tryd.underlying33]))
  simpa using this
end Go.Proofs.YtamfknhgjkmdfaaDoor.X
