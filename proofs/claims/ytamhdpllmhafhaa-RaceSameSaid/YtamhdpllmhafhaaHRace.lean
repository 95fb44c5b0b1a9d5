/- The contract of race.of: what counts of an outcome. -/
import Derived.Test.YtamhdpllmhafhaaX0
import Derived.Laws.Pointers
import Derived.Outline
namespace Go.Proofs.Ytamhdpllmhafhaa.X
open Go.RowKit Go.Proofs.YtamhdpllmhafhaaW.PrintWords Go.Proofs.YtamhdpllmhafhaaW.PrintLast Go.Proofs.YtamhdpllmhafhaaW.PrintMore
set_option linter.unusedVariables false
set_option linter.unusedSimpArgs false

def race_of.f (a0_0 : Int) (a0_1 : Int) (a0_2 : ByteArray) (a0_3 : Bool) (a0_4 : Int) (l0_5 : List (S26)) (a0_6 : Int) (a0_7 : Bool) : Option (Int × Int × Bool × Bool × ByteArray) := if a0_0 = 183 then (some (a0_0, a0_6, a0_7, false, (⟨#[]⟩ : ByteArray))) else (if a0_0 = 0 then (if a0_3 = true then (some (a0_0, 0, false, a0_3, a0_2)) else (some (a0_0, 0, false, a0_3, (⟨#[]⟩ : ByteArray)))) else (some (a0_0, 0, false, false, (⟨#[]⟩ : ByteArray))))
set_option maxHeartbeats 1000000 in
set_option maxRecDepth 100000 in
theorem race_of.calls (a0_0 : Int) (a0_1 : Int) (a0_2 : ByteArray) (a0_3 : Bool) (a0_4 : Int) (A0_5 : Option Addr) (c0_5 : Nat) (l0_5 : List (S26)) (a0_6 : Int) (a0_7 : Bool) (r1 : Int) (r2 : Int) (r3 : Bool) (r4 : Bool) (r5 : ByteArray) (w : World) (hr0_5 : Kd.C k26 w A0_5 l0_5.length l0_5) (hc0_5 : l0_5.length ≤ c0_5) (h : race_of.f a0_0 a0_1 a0_2 a0_3 a0_4 l0_5 a0_6 a0_7 = some (r1, r2, r3, r4, r5)) :
    Calls Try.prog 56 #[.agg #[.int .i64 a0_0, .int .i64 a0_1, .string a0_2, .bool a0_3, .int .i8 a0_4, .slice A0_5 l0_5.length c0_5, .int .i64 a0_6, .bool a0_7]] w fun e w' => e = .returned (.agg #[.int .i64 r1, .int .i64 r2, .bool r3, .bool r4, .string r5]) ∧ Below w.heap.size w w' := by
  unfold race_of.f at h
  clear hr0_5 hc0_5
  by_cases c1 : a0_0 = 183
  · rw [if_pos c1] at h
    subst c1
    simp only [Option.some.injEq, Prod.mk.injEq] at h
    obtain ⟨rfl, rfl, rfl, rfl, rfl⟩ := h
    go_enter Try.func56, Try.ntmps56
    go_wp2
    exact bodyPost_ret (v := .agg #[.int .i64 183, .int .i64 a0_6, .bool a0_7, .bool false, .string ⟨#[]⟩]) (by simp [results, Try.results56, go_sem]) rfl ⟨rfl, (((Below.refl _ _).alloc (Nat.le_refl _) _).alloc (by simp) _).alloc (by simp; omega) _⟩
  · rw [if_neg c1] at h
    have d1 : (a0_0 == 183) = false := beq_eq_false_iff_ne.mpr c1
    by_cases c2 : a0_0 = 0
    · rw [if_pos c2] at h
      subst c2
      clear c1 d1
      cases a0_3
      · simp only [Option.some.injEq, Prod.mk.injEq, Bool.false_eq_true, if_false] at h
        obtain ⟨rfl, rfl, rfl, rfl, rfl⟩ := h
        go_enter Try.func56, Try.ntmps56
        go_wp2
        exact bodyPost_ret (v := .agg #[.int .i64 0, .int .i64 0, .bool false, .bool false, .string ⟨#[]⟩]) (by simp [results, Try.results56, go_sem]) rfl ⟨rfl, (((Below.refl _ _).alloc (Nat.le_refl _) _).alloc (by simp) _).alloc (by simp; omega) _⟩
      · simp only [Option.some.injEq, Prod.mk.injEq, if_true] at h
        obtain ⟨rfl, rfl, rfl, rfl, rfl⟩ := h
        go_enter Try.func56, Try.ntmps56
        go_wp2
        exact bodyPost_ret (v := .agg #[.int .i64 0, .int .i64 0, .bool false, .bool true, .string a0_2]) (by simp [results, Try.results56, go_sem]) rfl ⟨rfl, (((Below.refl _ _).alloc (Nat.le_refl _) _).alloc (by simp) _).alloc (by simp; omega) _⟩
    · rw [if_neg c2] at h
      have d2 : (a0_0 == 0) = false := beq_eq_false_iff_ne.mpr c2
      simp only [Option.some.injEq, Prod.mk.injEq] at h
      obtain ⟨rfl, rfl, rfl, rfl, rfl⟩ := h
      clear c1 c2
      go_enter Try.func56, Try.ntmps56
      go_wp2
      exact bodyPost_ret (v := .agg #[.int .i64 a0_0, .int .i64 0, .bool false, .bool false, .string ⟨#[]⟩]) (by simp [results, Try.results56, go_sem]) rfl ⟨rfl, (((Below.refl _ _).alloc (Nat.le_refl _) _).alloc (by simp) _).alloc (by simp; omega) _⟩

end Go.Proofs.Ytamhdpllmhafhaa.X
