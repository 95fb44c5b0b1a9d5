/- Texts of this claim, joined: HCo4, HCo5, HCo6, HOf, HCo7, HCo8. -/
import Derived.Test.YtjmpejbciniceaaKCoerceSame1
import Derived.Test.YtjmpejbciniceaaKCoerceSame5
import Derived.Test.YtjmpejbciniceaaKCoerceSame9
import Derived.Test.YtjmpejbciniceaaKCoerceSame10
namespace Go.Proofs.Ytjmpejbciniceaa.X
open Go.RowKit Go.Proofs.YtjmpejbciniceaaW.PrintWords Go.Proofs.YtjmpejbciniceaaW.PrintLast Go.Proofs.YtjmpejbciniceaaW.PrintMore
set_option linter.unusedVariables false
set_option linter.unusedSimpArgs false
theorem check_ends {x : S47} (h : cocheckI x = 0) : (endsC x).isSome = true := by
  unfold cocheckI at h
  split at h
  · simp at h
  · split at h
    · simp at h
    · cases hx : endsC x with
      | none => rw [hx] at h; simp at h
      | some v => rfl
set_option maxRecDepth 100000 in
set_option maxHeartbeats 3200000 in
theorem rSame_calls (HR : Aside0 (∀ (x : S47) (v : Value) (w : World), IsC w v x → Calls Try.prog 30 #[v] w (SaysB (decide (cocheckI x = 0)) w))) {a b : S47} {va vb : Value} {w : World} (ha : IsC w va a) (hb : IsC w vb b) :
    Calls Try.prog 15 #[va, vb] w (SaysB (decide (cocheckI a = 0) && decide (cocheckI b = 0) && likeC a b) w) := by
  have HA := Aside0.mk ha
  have HB := Aside0.mk hb
  obtain ⟨A2, c2, A4, c4, A7, c7, rfl, -⟩ := ha
  obtain ⟨B2, d2, B4, d4, B7, d7, rfl, -⟩ := hb
  have hB0 : Below w.heap.size w ((w.alloc (.cells #[.int .i8 a.f0, .int .i8 a.f1.f0, .slice A2 a.f1.f1.length c2, .int .i8 a.f2.f0, .slice A4 a.f2.f1.length c4, .int .i64 a.f3, .bool a.f4, .slice A7 a.f5.length c7] 47)).alloc (.cells #[.int .i8 b.f0, .int .i8 b.f1.f0, .slice B2 b.f1.f1.length d2, .int .i8 b.f2.f0, .slice B4 b.f2.f1.length d4, .int .i64 b.f3, .bool b.f4, .slice B7 b.f5.length d7] 47)) := ((Below.refl _ _).alloc (Nat.le_refl _) _).alloc (by simp) _
  have K1 := Aside0.mk (blk_alloc (heap_alloc_new w (.cells #[.int .i8 a.f0, .int .i8 a.f1.f0, .slice A2 a.f1.f1.length c2, .int .i8 a.f2.f0, .slice A4 a.f2.f1.length c4, .int .i64 a.f3, .bool a.f4, .slice A7 a.f5.length c7] 47)) (.cells #[.int .i8 b.f0, .int .i8 b.f1.f0, .slice B2 b.f1.f1.length d2, .int .i8 b.f2.f0, .slice B4 b.f2.f1.length d4, .int .i64 b.f3, .bool b.f4, .slice B7 b.f5.length d7] 47))
  have K2 : Aside0 (((w.alloc (.cells #[.int .i8 a.f0, .int .i8 a.f1.f0, .slice A2 a.f1.f1.length c2, .int .i8 a.f2.f0, .slice A4 a.f2.f1.length c4, .int .i64 a.f3, .bool a.f4, .slice A7 a.f5.length c7] 47)).alloc (.cells #[.int .i8 b.f0, .int .i8 b.f1.f0, .slice B2 b.f1.f1.length d2, .int .i8 b.f2.f0, .slice B4 b.f2.f1.length d4, .int .i64 b.f3, .bool b.f4, .slice B7 b.f5.length d7] 47)).heap[w.heap.size + 1]? = some (.cells #[.int .i8 b.f0, .int .i8 b.f1.f0, .slice B2 b.f1.f1.length d2, .int .i8 b.f2.f0, .slice B4 b.f2.f1.length d4, .int .i64 b.f3, .bool b.f4, .slice B7 b.f5.length d7] 47 (0, 0))) := .mk (by have := heap_alloc_new (w.alloc (.cells #[.int .i8 a.f0, .int .i8 a.f1.f0, .slice A2 a.f1.f1.length c2, .int .i8 a.f2.f0, .slice A4 a.f2.f1.length c4, .int .i64 a.f3, .bool a.f4, .slice A7 a.f5.length c7] 47)) (.cells #[.int .i8 b.f0, .int .i8 b.f1.f0, .slice B2 b.f1.f1.length d2, .int .i8 b.f2.f0, .slice B4 b.f2.f1.length d4, .int .i64 b.f3, .bool b.f4, .slice B7 b.f5.length d7] 47); simpa using this)
  have HW := Aside0.mk hB0
  replace HA := Aside0.mk (HA.out.below hB0)
  replace HB := Aside0.mk (HB.out.below hB0)
  have HRA := fun v w h => HR.out a v w h
  have HRB := fun v w h => HR.out b v w h
  by_cases h1 : cocheckI a = 0
  · by_cases h2 : cocheckI b = 0
    · have EA := Aside0.mk (check_ends h1)
      have EB := Aside0.mk (check_ends h2)
      simp only [h1, h2, decide_true, Bool.true_and] at HRA HRB ⊢
      clear h1 h2
      go_enter Try.func15, Try.ntmps15
      go_wp2_with fail
      generalize (w.alloc (.cells #[.int .i8 a.f0, .int .i8 a.f1.f0, .slice A2 a.f1.f1.length c2, .int .i8 a.f2.f0, .slice A4 a.f2.f1.length c4, .int .i64 a.f3, .bool a.f4, .slice A7 a.f5.length c7] 47)).alloc (.cells #[.int .i8 b.f0, .int .i8 b.f1.f0, .slice B2 b.f1.f1.length d2, .int .i8 b.f2.f0, .slice B4 b.f2.f1.length d4, .int .i64 b.f3, .bool b.f4, .slice B7 b.f5.length d7] 47) = wa at *
      refine (HRA _ _ HA.out).mono ?_
      rintro e w1 ⟨rfl, hB⟩
      replace K1 := Aside0.mk (blk_below K1.out hB)
      replace K2 := Aside0.mk (blk_below K2.out hB)
      replace HA := Aside0.mk (HA.out.below hB)
      replace HB := Aside0.mk (HB.out.below hB)
      replace HW := Aside0.mk (below_then HW.out HW.out.size hB)
      clear hB
      have c0 := (blk_cell K1.out 0).trans rfl
      have c1 := (blk_cell K1.out 1).trans rfl
      have c2 := (blk_cell K1.out 2).trans rfl
      have c3 := (blk_cell K1.out 3).trans rfl
      have c4 := (blk_cell K1.out 4).trans rfl
      have c5 := (blk_cell K1.out 5).trans rfl
      have c6 := (blk_cell K1.out 6).trans rfl
      have c7 := (blk_cell K1.out 7).trans rfl
      simp at c0 c1 c2 c3 c4 c5 c6 c7
      have d0 := (blk_cell K2.out 0).trans rfl
      have d1 := (blk_cell K2.out 1).trans rfl
      have d2 := (blk_cell K2.out 2).trans rfl
      have d3 := (blk_cell K2.out 3).trans rfl
      have d4 := (blk_cell K2.out 4).trans rfl
      have d5 := (blk_cell K2.out 5).trans rfl
      have d6 := (blk_cell K2.out 6).trans rfl
      have d7 := (blk_cell K2.out 7).trans rfl
      simp at d0 d1 d2 d3 d4 d5 d6 d7
      go_wp2_with fail
      clear c0 c1 c2 c3 c4 c5 c6 c7 d0 d1 d2 d3 d4 d5 d6 d7
      refine (HRB _ _ HB.out).mono ?_
      rintro e w2 ⟨rfl, hB⟩
      replace K1 := Aside0.mk (blk_below K1.out hB)
      replace K2 := Aside0.mk (blk_below K2.out hB)
      replace HA := Aside0.mk (HA.out.below hB)
      replace HB := Aside0.mk (HB.out.below hB)
      replace HW := Aside0.mk (below_then HW.out HW.out.size hB)
      clear hB
      have c0 := (blk_cell K1.out 0).trans rfl
      have c1 := (blk_cell K1.out 1).trans rfl
      have c2 := (blk_cell K1.out 2).trans rfl
      have c3 := (blk_cell K1.out 3).trans rfl
      have c4 := (blk_cell K1.out 4).trans rfl
      have c5 := (blk_cell K1.out 5).trans rfl
      have c6 := (blk_cell K1.out 6).trans rfl
      have c7 := (blk_cell K1.out 7).trans rfl
      simp at c0 c1 c2 c3 c4 c5 c6 c7
      have d0 := (blk_cell K2.out 0).trans rfl
      have d1 := (blk_cell K2.out 1).trans rfl
      have d2 := (blk_cell K2.out 2).trans rfl
      have d3 := (blk_cell K2.out 3).trans rfl
      have d4 := (blk_cell K2.out 4).trans rfl
      have d5 := (blk_cell K2.out 5).trans rfl
      have d6 := (blk_cell K2.out 6).trans rfl
      have d7 := (blk_cell K2.out 7).trans rfl
      simp at d0 d1 d2 d3 d4 d5 d6 d7
      go_wp2_with fail
      clear c0 c1 c2 c3 c4 c5 c6 c7 d0 d1 d2 d3 d4 d5 d6 d7
      refine (rsame_calls HA.out HB.out EA.out EB.out).mono ?_
      rintro e w3 ⟨rfl, hB⟩
      replace K1 := Aside0.mk (blk_below K1.out hB)
      replace K2 := Aside0.mk (blk_below K2.out hB)
      replace HA := Aside0.mk (HA.out.below hB)
      replace HB := Aside0.mk (HB.out.below hB)
      replace HW := Aside0.mk (below_then HW.out HW.out.size hB)
      clear hB
      go_wp2_with fail
      go_ret
      exact ⟨rfl, HW.out⟩
    · simp only [h1, h2, decide_true, decide_false, Bool.true_and, Bool.false_and] at HRA HRB ⊢
      clear h1 h2
      go_enter Try.func15, Try.ntmps15
      go_wp2_with fail
      generalize (w.alloc (.cells #[.int .i8 a.f0, .int .i8 a.f1.f0, .slice A2 a.f1.f1.length c2, .int .i8 a.f2.f0, .slice A4 a.f2.f1.length c4, .int .i64 a.f3, .bool a.f4, .slice A7 a.f5.length c7] 47)).alloc (.cells #[.int .i8 b.f0, .int .i8 b.f1.f0, .slice B2 b.f1.f1.length d2, .int .i8 b.f2.f0, .slice B4 b.f2.f1.length d4, .int .i64 b.f3, .bool b.f4, .slice B7 b.f5.length d7] 47) = wa at *
      refine (HRA _ _ HA.out).mono ?_
      rintro e w1 ⟨rfl, hB⟩
      replace K1 := Aside0.mk (blk_below K1.out hB)
      replace K2 := Aside0.mk (blk_below K2.out hB)
      replace HA := Aside0.mk (HA.out.below hB)
      replace HB := Aside0.mk (HB.out.below hB)
      replace HW := Aside0.mk (below_then HW.out HW.out.size hB)
      clear hB
      have c0 := (blk_cell K1.out 0).trans rfl
      have c1 := (blk_cell K1.out 1).trans rfl
      have c2 := (blk_cell K1.out 2).trans rfl
      have c3 := (blk_cell K1.out 3).trans rfl
      have c4 := (blk_cell K1.out 4).trans rfl
      have c5 := (blk_cell K1.out 5).trans rfl
      have c6 := (blk_cell K1.out 6).trans rfl
      have c7 := (blk_cell K1.out 7).trans rfl
      simp at c0 c1 c2 c3 c4 c5 c6 c7
      have d0 := (blk_cell K2.out 0).trans rfl
      have d1 := (blk_cell K2.out 1).trans rfl
      have d2 := (blk_cell K2.out 2).trans rfl
      have d3 := (blk_cell K2.out 3).trans rfl
      have d4 := (blk_cell K2.out 4).trans rfl
      have d5 := (blk_cell K2.out 5).trans rfl
      have d6 := (blk_cell K2.out 6).trans rfl
      have d7 := (blk_cell K2.out 7).trans rfl
      simp at d0 d1 d2 d3 d4 d5 d6 d7
      go_wp2_with fail
      clear c0 c1 c2 c3 c4 c5 c6 c7 d0 d1 d2 d3 d4 d5 d6 d7
      refine (HRB _ _ HB.out).mono ?_
      rintro e w2 ⟨rfl, hB⟩
      replace K1 := Aside0.mk (blk_below K1.out hB)
      replace K2 := Aside0.mk (blk_below K2.out hB)
      replace HA := Aside0.mk (HA.out.below hB)
      replace HB := Aside0.mk (HB.out.below hB)
      replace HW := Aside0.mk (below_then HW.out HW.out.size hB)
      clear hB
      go_wp2_with fail
      go_ret
      exact ⟨rfl, HW.out⟩
  · simp only [h1, decide_false, Bool.false_and] at HRA HRB ⊢
    clear h1
    go_enter Try.func15, Try.ntmps15
    go_wp2_with fail
    generalize (w.alloc (.cells #[.int .i8 a.f0, .int .i8 a.f1.f0, .slice A2 a.f1.f1.length c2, .int .i8 a.f2.f0, .slice A4 a.f2.f1.length c4, .int .i64 a.f3, .bool a.f4, .slice A7 a.f5.length c7] 47)).alloc (.cells #[.int .i8 b.f0, .int .i8 b.f1.f0, .slice B2 b.f1.f1.length d2, .int .i8 b.f2.f0, .slice B4 b.f2.f1.length d4, .int .i64 b.f3, .bool b.f4, .slice B7 b.f5.length d7] 47) = wa at *
    refine (HRA _ _ HA.out).mono ?_
    rintro e w1 ⟨rfl, hB⟩
    replace K1 := Aside0.mk (blk_below K1.out hB)
    replace K2 := Aside0.mk (blk_below K2.out hB)
    replace HA := Aside0.mk (HA.out.below hB)
    replace HB := Aside0.mk (HB.out.below hB)
    replace HW := Aside0.mk (below_then HW.out HW.out.size hB)
    clear hB
    go_wp2_with fail
    go_ret
    exact ⟨rfl, HW.out⟩
def CheckPost (x : S47) (w : World) (e : Ending) (w' : World) : Prop := ∃ va vb ta tb, e = .returned (.tuple #[va, vb, .int .i64 (cocheckI x)]) ∧ IsT w' va ta ∧ IsT w' vb tb ∧ (cocheckI x = 0 → endsC x = some (ta, tb)) ∧ Below w.heap.size w w'
set_option maxRecDepth 100000 in
set_option maxHeartbeats 3200000 in
theorem rright_calls (HC : Aside0 (∀ (x : S47) (v : Value) (w : World), IsC w v x → Calls Try.prog 54 #[v] w (CheckPost x w))) {x : S47} {v : Value} {w : World} (hx : IsC w v x) : Calls Try.prog 30 #[v] w (SaysB (decide (cocheckI x = 0)) w) := by
  have HX := Aside0.mk hx
  obtain ⟨A2, c2, A4, c4, A7, c7, rfl, -⟩ := hx
  have hB0 : Below w.heap.size w (w.alloc (.cells #[.int .i8 x.f0, .int .i8 x.f1.f0, .slice A2 x.f1.f1.length c2, .int .i8 x.f2.f0, .slice A4 x.f2.f1.length c4, .int .i64 x.f3, .bool x.f4, .slice A7 x.f5.length c7] 47)) := (Below.refl _ _).alloc (Nat.le_refl _) _
  have HW := Aside0.mk hB0
  replace HX := Aside0.mk (HX.out.below hB0)
  clear hB0
  go_enter Try.func30, Try.ntmps30
  go_wp2_with fail
  generalize w.alloc (.cells #[.int .i8 x.f0, .int .i8 x.f1.f0, .slice A2 x.f1.f1.length c2, .int .i8 x.f2.f0, .slice A4 x.f2.f1.length c4, .int .i64 x.f3, .bool x.f4, .slice A7 x.f5.length c7] 47) = wa at *
  refine (HC.out x _ _ HX.out).mono ?_
  rintro e w1 ⟨va, vb, ta, tb, rfl, hta, htb, -, hB⟩
  obtain ⟨P, p, rfl, -⟩ := hta
  obtain ⟨Q, q, rfl, -⟩ := htb
  replace HW := Aside0.mk (below_then HW.out HW.out.size hB)
  clear hB HX
  go_wp2_with fail
  go_ret
  exact ⟨rfl, (HW.out.alloc HW.out.size _).alloc (by simp; have := HW.out.size; omega) _⟩
end Go.Proofs.Ytjmpejbciniceaa.X
namespace Go.Proofs.Ytjmpejbciniceaa.X
open Go.RowKit Go.Proofs.YtjmpejbciniceaaW.PrintWords Go.Proofs.YtjmpejbciniceaaW.PrintLast Go.Proofs.YtjmpejbciniceaaW.PrintMore
set_option linter.unusedVariables false
set_option linter.unusedSimpArgs false
def EndsPost (x : S47) (w : World) (e : Ending) (w' : World) : Prop := ∃ va vb ta tb, e = .returned (.tuple #[va, vb, .bool (endsC x).isSome]) ∧ IsT w' va ta ∧ IsT w' vb tb ∧ ((endsC x).isSome = true → endsC x = some (ta, tb)) ∧ rightB ta = true ∧ rightB tb = true ∧ Below w.heap.size w w'
set_option maxRecDepth 100000 in
set_option maxHeartbeats 3200000 in
theorem rcheck_calls (HE : Aside0 (∀ (x : S47) (v : Value) (w : World), IsC w v x → Calls Try.prog 65 #[v] w (EndsPost x w))) {x : S47} {v : Value} {w : World} (hx : IsC w v x) : Calls Try.prog 54 #[v] w (CheckPost x w) := by
  have HX := Aside0.mk hx
  obtain ⟨A2, c2, A4, c4, A7, c7, rfl, -⟩ := hx
  have hB0 : Below w.heap.size w (((w.alloc (.cells #[.int .i8 x.f0, .int .i8 x.f1.f0, .slice A2 x.f1.f1.length c2, .int .i8 x.f2.f0, .slice A4 x.f2.f1.length c4, .int .i64 x.f3, .bool x.f4, .slice A7 x.f5.length c7] 47)).alloc (.cells #[.int .i8 0, .slice none 0 0] 35)).alloc (.cells #[.int .i8 0, .slice none 0 0] 35)) := (((Below.refl _ _).alloc (Nat.le_refl _) _).alloc (by simp) _).alloc (by simp; omega) _
  have K0 := Aside0.mk (blk_alloc (blk_alloc (heap_alloc_new w (.cells #[.int .i8 x.f0, .int .i8 x.f1.f0, .slice A2 x.f1.f1.length c2, .int .i8 x.f2.f0, .slice A4 x.f2.f1.length c4, .int .i64 x.f3, .bool x.f4, .slice A7 x.f5.length c7] 47)) (.cells #[.int .i8 0, .slice none 0 0] 35)) (.cells #[.int .i8 0, .slice none 0 0] 35))
  have K1 : Aside0 ((((w.alloc (.cells #[.int .i8 x.f0, .int .i8 x.f1.f0, .slice A2 x.f1.f1.length c2, .int .i8 x.f2.f0, .slice A4 x.f2.f1.length c4, .int .i64 x.f3, .bool x.f4, .slice A7 x.f5.length c7] 47)).alloc (.cells #[.int .i8 0, .slice none 0 0] 35)).alloc (.cells #[.int .i8 0, .slice none 0 0] 35)).heap[w.heap.size + 1]? = some (.cells #[.int .i8 0, .slice none 0 0] 35 (0, 0))) := .mk (by have := blk_alloc (heap_alloc_new (w.alloc (.cells #[.int .i8 x.f0, .int .i8 x.f1.f0, .slice A2 x.f1.f1.length c2, .int .i8 x.f2.f0, .slice A4 x.f2.f1.length c4, .int .i64 x.f3, .bool x.f4, .slice A7 x.f5.length c7] 47)) (.cells #[.int .i8 0, .slice none 0 0] 35)) (.cells #[.int .i8 0, .slice none 0 0] 35); simpa using this)
  have K2 : Aside0 ((((w.alloc (.cells #[.int .i8 x.f0, .int .i8 x.f1.f0, .slice A2 x.f1.f1.length c2, .int .i8 x.f2.f0, .slice A4 x.f2.f1.length c4, .int .i64 x.f3, .bool x.f4, .slice A7 x.f5.length c7] 47)).alloc (.cells #[.int .i8 0, .slice none 0 0] 35)).alloc (.cells #[.int .i8 0, .slice none 0 0] 35)).heap[w.heap.size + 2]? = some (.cells #[.int .i8 0, .slice none 0 0] 35 (0, 0))) := .mk (by have := heap_alloc_new ((w.alloc (.cells #[.int .i8 x.f0, .int .i8 x.f1.f0, .slice A2 x.f1.f1.length c2, .int .i8 x.f2.f0, .slice A4 x.f2.f1.length c4, .int .i64 x.f3, .bool x.f4, .slice A7 x.f5.length c7] 47)).alloc (.cells #[.int .i8 0, .slice none 0 0] 35)) (.cells #[.int .i8 0, .slice none 0 0] 35); simpa using this)
  have HW := Aside0.mk hB0
  replace HX := Aside0.mk (HX.out.below hB0)
  clear hB0
  by_cases h1 : 8192 < cnodes x
  · have hr : cocheckI x = 32 := by unfold cocheckI; rw [if_pos h1]
    go_enter Try.func54, Try.ntmps54
    go_wp2_with fail
    generalize ((w.alloc (.cells #[.int .i8 x.f0, .int .i8 x.f1.f0, .slice A2 x.f1.f1.length c2, .int .i8 x.f2.f0, .slice A4 x.f2.f1.length c4, .int .i64 x.f3, .bool x.f4, .slice A7 x.f5.length c7] 47)).alloc (.cells #[.int .i8 0, .slice none 0 0] 35)).alloc (.cells #[.int .i8 0, .slice none 0 0] 35) = wa at *
    refine (rcount_calls HX.out).mono ?_
    rintro e w1 ⟨⟨r, rfl, hr0, hr1⟩, hB⟩
    replace K0 := Aside0.mk (blk_below K0.out hB)
    replace K1 := Aside0.mk (blk_below K1.out hB)
    replace K2 := Aside0.mk (blk_below K2.out hB)
    replace HX := Aside0.mk (HX.out.below hB)
    replace HW := Aside0.mk (below_then HW.out HW.out.size hB)
    clear hB
    have hgt : decide (8192 < r) = true := decide_eq_true (hr1 h1)
    clear hr0 hr1 h1
    have c0 := (blk_cell K1.out 0).trans rfl
    have c1 := (blk_cell K1.out 1).trans rfl
    have z0 := blk_frozen K1.out 0
    have z1 := blk_frozen K1.out 1
    simp at c0 c1
    have d0 := (blk_cell K2.out 0).trans rfl
    have d1 := (blk_cell K2.out 1).trans rfl
    have y0 := blk_frozen K2.out 0
    have y1 := blk_frozen K2.out 1
    simp at d0 d1
    go_wp2_with fail
    exact bodyPost_ret (results_list (rs := [.cell 2 35, .cell 3 35, .tmp 4]) rfl (by simp) (.cell (w.heap.size + 1) 35 _ (0, 0) _ rfl (put_two_far (put_two K1.out _ _) (by omega) _ _) Try.underlying35 rfl (by kernel_rfl) (.cell (w.heap.size + 2) 35 _ (0, 0) _ rfl (put_two (put_two_far K2.out (by omega) _ _) _ _) Try.underlying35 rfl (by kernel_rfl) (.tmp .nil)))) rfl ⟨(.agg #[.int .i8 0, .slice none 0 0]), (.agg #[.int .i8 0, .slice none 0 0]), z35, z35, by first | (rw [hr]; rfl) | rw [hr], IsT.zero _, IsT.zero _, fun h => absurd (hr.symm.trans h) (by decide), (((HW.out.setCell (Nat.le_add_right _ 1) _).setCell (Nat.le_add_right _ 1) _).setCell (Nat.le_add_right _ 2) _).setCell (Nat.le_add_right _ 2) _⟩
  · by_cases h2 : 200 < cdepth x
    · have hr : cocheckI x = 31 := by unfold cocheckI; rw [if_neg h1, if_pos h2]
      go_enter Try.func54, Try.ntmps54
      go_wp2_with fail
      generalize ((w.alloc (.cells #[.int .i8 x.f0, .int .i8 x.f1.f0, .slice A2 x.f1.f1.length c2, .int .i8 x.f2.f0, .slice A4 x.f2.f1.length c4, .int .i64 x.f3, .bool x.f4, .slice A7 x.f5.length c7] 47)).alloc (.cells #[.int .i8 0, .slice none 0 0] 35)).alloc (.cells #[.int .i8 0, .slice none 0 0] 35) = wa at *
      refine (rcount_calls HX.out).mono ?_
      rintro e w1 ⟨⟨r, rfl, hr0, hr1⟩, hB⟩
      replace K0 := Aside0.mk (blk_below K0.out hB)
      replace K1 := Aside0.mk (blk_below K1.out hB)
      replace K2 := Aside0.mk (blk_below K2.out hB)
      replace HX := Aside0.mk (HX.out.below hB)
      replace HW := Aside0.mk (below_then HW.out HW.out.size hB)
      clear hB
      have hgt : decide (8192 < r) = false := decide_eq_false (by have := hr0 (by omega); omega)
      clear hr0 hr1
      have b0 := (blk_cell K0.out 0).trans rfl
      have b1 := (blk_cell K0.out 1).trans rfl
      have b2 := (blk_cell K0.out 2).trans rfl
      have b3 := (blk_cell K0.out 3).trans rfl
      have b4 := (blk_cell K0.out 4).trans rfl
      have b5 := (blk_cell K0.out 5).trans rfl
      have b6 := (blk_cell K0.out 6).trans rfl
      have b7 := (blk_cell K0.out 7).trans rfl
      simp at b0 b1 b2 b3 b4 b5 b6 b7
      go_wp2_with fail
      clear b0 b1 b2 b3 b4 b5 b6 b7
      refine (rdeep_calls HX.out (by omega)).mono ?_
      rintro e w2 ⟨rfl, hB⟩
      replace K0 := Aside0.mk (blk_below K0.out hB)
      replace K1 := Aside0.mk (blk_below K1.out hB)
      replace K2 := Aside0.mk (blk_below K2.out hB)
      replace HX := Aside0.mk (HX.out.below hB)
      replace HW := Aside0.mk (below_then HW.out HW.out.size hB)
      clear hB
      have hgt2 : decide ((200 : Int) < min (cdepth x : Int) 201) = true := decide_eq_true (by omega)
      have c0 := (blk_cell K1.out 0).trans rfl
      have c1 := (blk_cell K1.out 1).trans rfl
      have z0 := blk_frozen K1.out 0
      have z1 := blk_frozen K1.out 1
      simp at c0 c1
      have d0 := (blk_cell K2.out 0).trans rfl
      have d1 := (blk_cell K2.out 1).trans rfl
      have y0 := blk_frozen K2.out 0
      have y1 := blk_frozen K2.out 1
      simp at d0 d1
      go_wp2_with fail
      exact bodyPost_ret (results_list (rs := [.cell 2 35, .cell 3 35, .tmp 4]) rfl (by simp) (.cell (w.heap.size + 1) 35 _ (0, 0) _ rfl (put_two_far (put_two K1.out _ _) (by omega) _ _) Try.underlying35 rfl (by kernel_rfl) (.cell (w.heap.size + 2) 35 _ (0, 0) _ rfl (put_two (put_two_far K2.out (by omega) _ _) _ _) Try.underlying35 rfl (by kernel_rfl) (.tmp .nil)))) rfl ⟨(.agg #[.int .i8 0, .slice none 0 0]), (.agg #[.int .i8 0, .slice none 0 0]), z35, z35, by first | (rw [hr]; rfl) | rw [hr], IsT.zero _, IsT.zero _, fun h => absurd (hr.symm.trans h) (by decide), (((HW.out.setCell (Nat.le_add_right _ 1) _).setCell (Nat.le_add_right _ 1) _).setCell (Nat.le_add_right _ 2) _).setCell (Nat.le_add_right _ 2) _⟩
    · cases hs : (endsC x).isSome with
      | false =>
        have hr : cocheckI x = 150 := by unfold cocheckI; rw [if_neg h1, if_neg h2]; cases hx : endsC x with
          | none => rfl
          | some v => rw [hx] at hs; simp at hs
        go_enter Try.func54, Try.ntmps54
        go_wp2_with fail
        generalize ((w.alloc (.cells #[.int .i8 x.f0, .int .i8 x.f1.f0, .slice A2 x.f1.f1.length c2, .int .i8 x.f2.f0, .slice A4 x.f2.f1.length c4, .int .i64 x.f3, .bool x.f4, .slice A7 x.f5.length c7] 47)).alloc (.cells #[.int .i8 0, .slice none 0 0] 35)).alloc (.cells #[.int .i8 0, .slice none 0 0] 35) = wa at *
        refine (rcount_calls HX.out).mono ?_
        rintro e w1 ⟨⟨r, rfl, hr0, hr1⟩, hB⟩
        replace K0 := Aside0.mk (blk_below K0.out hB)
        replace K1 := Aside0.mk (blk_below K1.out hB)
        replace K2 := Aside0.mk (blk_below K2.out hB)
        replace HX := Aside0.mk (HX.out.below hB)
        replace HW := Aside0.mk (below_then HW.out HW.out.size hB)
        clear hB
        have hgt : decide (8192 < r) = false := decide_eq_false (by have := hr0 (by omega); omega)
        clear hr0 hr1
        have b0 := (blk_cell K0.out 0).trans rfl
        have b1 := (blk_cell K0.out 1).trans rfl
        have b2 := (blk_cell K0.out 2).trans rfl
        have b3 := (blk_cell K0.out 3).trans rfl
        have b4 := (blk_cell K0.out 4).trans rfl
        have b5 := (blk_cell K0.out 5).trans rfl
        have b6 := (blk_cell K0.out 6).trans rfl
        have b7 := (blk_cell K0.out 7).trans rfl
        simp at b0 b1 b2 b3 b4 b5 b6 b7
        go_wp2_with fail
        clear b0 b1 b2 b3 b4 b5 b6 b7
        refine (rdeep_calls HX.out (by omega)).mono ?_
        rintro e w2 ⟨rfl, hB⟩
        replace K0 := Aside0.mk (blk_below K0.out hB)
        replace K1 := Aside0.mk (blk_below K1.out hB)
        replace K2 := Aside0.mk (blk_below K2.out hB)
        replace HX := Aside0.mk (HX.out.below hB)
        replace HW := Aside0.mk (below_then HW.out HW.out.size hB)
        clear hB
        have hgt2 : decide ((200 : Int) < min (cdepth x : Int) 201) = false := decide_eq_false (by omega)
        have b0 := (blk_cell K0.out 0).trans rfl
        have b1 := (blk_cell K0.out 1).trans rfl
        have b2 := (blk_cell K0.out 2).trans rfl
        have b3 := (blk_cell K0.out 3).trans rfl
        have b4 := (blk_cell K0.out 4).trans rfl
        have b5 := (blk_cell K0.out 5).trans rfl
        have b6 := (blk_cell K0.out 6).trans rfl
        have b7 := (blk_cell K0.out 7).trans rfl
        simp at b0 b1 b2 b3 b4 b5 b6 b7
        go_wp2_with fail
        clear b0 b1 b2 b3 b4 b5 b6 b7
        refine (HE.out x _ _ HX.out).mono ?_
        rintro e w3 ⟨va, vb, ta, tb, rfl, hta, htb, him, hra, hrb, hB⟩
        rw [hs] at him ⊢
        replace K0 := Aside0.mk (blk_below K0.out hB)
        replace K1 := Aside0.mk (blk_below K1.out hB)
        replace K2 := Aside0.mk (blk_below K2.out hB)
        replace HX := Aside0.mk (HX.out.below hB)
        replace HW := Aside0.mk (below_then HW.out HW.out.size hB)
        clear hB
        have hn3 := blk_lt K2.out
        have HTA := Aside0.mk hta
        have HTB := Aside0.mk htb
        obtain ⟨P, p, rfl, -⟩ := hta
        obtain ⟨Q, q, rfl, -⟩ := htb
        have hB : Below w3.heap.size w3 ((w3.alloc (.cells #[.int .i8 ta.f0, .slice P ta.f1.length p] 35)).alloc (.cells #[.int .i8 tb.f0, .slice Q tb.f1.length q] 35)) := ((Below.refl _ _).alloc (Nat.le_refl _) _).alloc (by simp) _
        have KA := Aside0.mk (blk_alloc (heap_alloc_new w3 (.cells #[.int .i8 ta.f0, .slice P ta.f1.length p] 35)) (.cells #[.int .i8 tb.f0, .slice Q tb.f1.length q] 35))
        have KB : Aside0 (((w3.alloc (.cells #[.int .i8 ta.f0, .slice P ta.f1.length p] 35)).alloc (.cells #[.int .i8 tb.f0, .slice Q tb.f1.length q] 35)).heap[w3.heap.size + 1]? = some (.cells #[.int .i8 tb.f0, .slice Q tb.f1.length q] 35 (0, 0))) := .mk (by have := heap_alloc_new (w3.alloc (.cells #[.int .i8 ta.f0, .slice P ta.f1.length p] 35)) (.cells #[.int .i8 tb.f0, .slice Q tb.f1.length q] 35); simpa using this)
        replace K0 := Aside0.mk (blk_below K0.out hB)
        replace K1 := Aside0.mk (blk_below K1.out hB)
        replace K2 := Aside0.mk (blk_below K2.out hB)
        replace HTA := Aside0.mk (HTA.out.below hB)
        replace HTB := Aside0.mk (HTB.out.below hB)
        replace HW := Aside0.mk (below_then HW.out HW.out.size hB)
        clear hB
        have c0 := (blk_cell K1.out 0).trans rfl
        have c1 := (blk_cell K1.out 1).trans rfl
        have z0 := blk_frozen K1.out 0
        have z1 := blk_frozen K1.out 1
        simp at c0 c1
        have d0 := (blk_cell K2.out 0).trans rfl
        have d1 := (blk_cell K2.out 1).trans rfl
        have y0 := blk_frozen K2.out 0
        have y1 := blk_frozen K2.out 1
        simp at d0 d1
        go_wp2_with fail
        exact bodyPost_ret (results_list (rs := [.cell 2 35, .cell 3 35, .tmp 4]) rfl (by simp) (.cell (w.heap.size + 1) 35 _ (0, 0) _ rfl (put_two_far (put_two K1.out _ _) (by omega) _ _) Try.underlying35 rfl (by kernel_rfl) (.cell (w.heap.size + 2) 35 _ (0, 0) _ rfl (put_two (put_two_far K2.out (by omega) _ _) _ _) Try.underlying35 rfl (by kernel_rfl) (.tmp .nil)))) rfl ⟨(.agg #[.int .i8 0, .slice none 0 0]), (.agg #[.int .i8 0, .slice none 0 0]), z35, z35, by first | (rw [hr]; rfl) | rw [hr], IsT.zero _, IsT.zero _, fun h => absurd (hr.symm.trans h) (by decide), (((HW.out.setCell (Nat.le_add_right _ 1) _).setCell (Nat.le_add_right _ 1) _).setCell (Nat.le_add_right _ 2) _).setCell (Nat.le_add_right _ 2) _⟩
      | true =>
        go_enter Try.func54, Try.ntmps54
        go_wp2_with fail
        generalize ((w.alloc (.cells #[.int .i8 x.f0, .int .i8 x.f1.f0, .slice A2 x.f1.f1.length c2, .int .i8 x.f2.f0, .slice A4 x.f2.f1.length c4, .int .i64 x.f3, .bool x.f4, .slice A7 x.f5.length c7] 47)).alloc (.cells #[.int .i8 0, .slice none 0 0] 35)).alloc (.cells #[.int .i8 0, .slice none 0 0] 35) = wa at *
        refine (rcount_calls HX.out).mono ?_
        rintro e w1 ⟨⟨r, rfl, hr0, hr1⟩, hB⟩
        replace K0 := Aside0.mk (blk_below K0.out hB)
        replace K1 := Aside0.mk (blk_below K1.out hB)
        replace K2 := Aside0.mk (blk_below K2.out hB)
        replace HX := Aside0.mk (HX.out.below hB)
        replace HW := Aside0.mk (below_then HW.out HW.out.size hB)
        clear hB
        have hgt : decide (8192 < r) = false := decide_eq_false (by have := hr0 (by omega); omega)
        clear hr0 hr1
        have b0 := (blk_cell K0.out 0).trans rfl
        have b1 := (blk_cell K0.out 1).trans rfl
        have b2 := (blk_cell K0.out 2).trans rfl
        have b3 := (blk_cell K0.out 3).trans rfl
        have b4 := (blk_cell K0.out 4).trans rfl
        have b5 := (blk_cell K0.out 5).trans rfl
        have b6 := (blk_cell K0.out 6).trans rfl
        have b7 := (blk_cell K0.out 7).trans rfl
        simp at b0 b1 b2 b3 b4 b5 b6 b7
        go_wp2_with fail
        clear b0 b1 b2 b3 b4 b5 b6 b7
        refine (rdeep_calls HX.out (by omega)).mono ?_
        rintro e w2 ⟨rfl, hB⟩
        replace K0 := Aside0.mk (blk_below K0.out hB)
        replace K1 := Aside0.mk (blk_below K1.out hB)
        replace K2 := Aside0.mk (blk_below K2.out hB)
        replace HX := Aside0.mk (HX.out.below hB)
        replace HW := Aside0.mk (below_then HW.out HW.out.size hB)
        clear hB
        have hgt2 : decide ((200 : Int) < min (cdepth x : Int) 201) = false := decide_eq_false (by omega)
        have b0 := (blk_cell K0.out 0).trans rfl
        have b1 := (blk_cell K0.out 1).trans rfl
        have b2 := (blk_cell K0.out 2).trans rfl
        have b3 := (blk_cell K0.out 3).trans rfl
        have b4 := (blk_cell K0.out 4).trans rfl
        have b5 := (blk_cell K0.out 5).trans rfl
        have b6 := (blk_cell K0.out 6).trans rfl
        have b7 := (blk_cell K0.out 7).trans rfl
        simp at b0 b1 b2 b3 b4 b5 b6 b7
        go_wp2_with fail
        clear b0 b1 b2 b3 b4 b5 b6 b7
        refine (HE.out x _ _ HX.out).mono ?_
        rintro e w3 ⟨va, vb, ta, tb, rfl, hta, htb, him, hra, hrb, hB⟩
        rw [hs] at him ⊢
        replace K0 := Aside0.mk (blk_below K0.out hB)
        replace K1 := Aside0.mk (blk_below K1.out hB)
        replace K2 := Aside0.mk (blk_below K2.out hB)
        replace HX := Aside0.mk (HX.out.below hB)
        replace HW := Aside0.mk (below_then HW.out HW.out.size hB)
        clear hB
        have hn3 := blk_lt K2.out
        have HTA := Aside0.mk hta
        have HTB := Aside0.mk htb
        obtain ⟨P, p, rfl, -⟩ := hta
        obtain ⟨Q, q, rfl, -⟩ := htb
        have hB : Below w3.heap.size w3 ((w3.alloc (.cells #[.int .i8 ta.f0, .slice P ta.f1.length p] 35)).alloc (.cells #[.int .i8 tb.f0, .slice Q tb.f1.length q] 35)) := ((Below.refl _ _).alloc (Nat.le_refl _) _).alloc (by simp) _
        have KA := Aside0.mk (blk_alloc (heap_alloc_new w3 (.cells #[.int .i8 ta.f0, .slice P ta.f1.length p] 35)) (.cells #[.int .i8 tb.f0, .slice Q tb.f1.length q] 35))
        have KB : Aside0 (((w3.alloc (.cells #[.int .i8 ta.f0, .slice P ta.f1.length p] 35)).alloc (.cells #[.int .i8 tb.f0, .slice Q tb.f1.length q] 35)).heap[w3.heap.size + 1]? = some (.cells #[.int .i8 tb.f0, .slice Q tb.f1.length q] 35 (0, 0))) := .mk (by have := heap_alloc_new (w3.alloc (.cells #[.int .i8 ta.f0, .slice P ta.f1.length p] 35)) (.cells #[.int .i8 tb.f0, .slice Q tb.f1.length q] 35); simpa using this)
        replace K0 := Aside0.mk (blk_below K0.out hB)
        replace K1 := Aside0.mk (blk_below K1.out hB)
        replace K2 := Aside0.mk (blk_below K2.out hB)
        replace HTA := Aside0.mk (HTA.out.below hB)
        replace HTB := Aside0.mk (HTB.out.below hB)
        replace HW := Aside0.mk (below_then HW.out HW.out.size hB)
        clear hB
        go_wp2_with fail
        generalize (w3.alloc (.cells #[.int .i8 ta.f0, .slice P ta.f1.length p] 35)).alloc (.cells #[.int .i8 tb.f0, .slice Q tb.f1.length q] 35) = wb at *
        generalize w3.heap.size = n3 at *
        refine (refCheck_calls HTA.out).mono ?_
        rintro e w4 ⟨rfl, hB⟩
        replace K0 := Aside0.mk (blk_below K0.out hB)
        replace K1 := Aside0.mk (blk_below K1.out hB)
        replace K2 := Aside0.mk (blk_below K2.out hB)
        replace KA := Aside0.mk (blk_below KA.out hB)
        replace KB := Aside0.mk (blk_below KB.out hB)
        replace HTA := Aside0.mk (HTA.out.below hB)
        replace HTB := Aside0.mk (HTB.out.below hB)
        replace HW := Aside0.mk (below_then HW.out HW.out.size hB)
        clear hB
        have hl := blk_lt KA.out
        by_cases h4 : checkI ta = 0
        · have h4b : (checkI ta != 0) = false := bne_eq_false_iff_eq.mpr h4
          have a0 := (blk_cell KB.out 0).trans rfl
          have a1 := (blk_cell KB.out 1).trans rfl
          simp at a0 a1
          go_wp2_with fail
          clear a0 a1
          refine (refCheck_calls HTB.out).mono ?_
          rintro e w5 ⟨rfl, hB⟩
          replace K0 := Aside0.mk (blk_below K0.out hB)
          replace K1 := Aside0.mk (blk_below K1.out hB)
          replace K2 := Aside0.mk (blk_below K2.out hB)
          replace KA := Aside0.mk (blk_below KA.out hB)
          replace KB := Aside0.mk (blk_below KB.out hB)
          replace HTA := Aside0.mk (HTA.out.below hB)
          replace HTB := Aside0.mk (HTB.out.below hB)
          replace HW := Aside0.mk (below_then HW.out HW.out.size hB)
          clear hB
          by_cases h5 : checkI tb = 0
          · have hr : cocheckI x = 0 := by unfold cocheckI; rw [if_neg h1, if_neg h2, him trivial]; simp [h4, h5]
            have h5b : (checkI tb != 0) = false := bne_eq_false_iff_eq.mpr h5
            go_wp2_with fail
            have a0 := (blk_cell KA.out 0).trans rfl
            have a1 := (blk_cell KA.out 1).trans rfl
            simp at a0 a1
            have b0 := (blk_cell KB.out 0).trans rfl
            have b1 := (blk_cell KB.out 1).trans rfl
            simp at b0 b1
            refine wp_region_held_drew (S := fun w' => w'.cell? ⟨n3, 0, none⟩ = some (.int .i8 ta.f0) ∧ w'.cell? ⟨n3, 1, none⟩ = some (.slice P ta.f1.length p) ∧ w'.cell? ⟨n3 + 1, 0, none⟩ = some (.int .i8 tb.f0) ∧ w'.cell? ⟨n3 + 1, 1, none⟩ = some (.slice Q tb.f1.length q)) (by kernel_rfl) ⟨a0, a1, b0, b1⟩ (fun hHeld => ?_)
            have hD := (Below.refl w5.heap.size w5).drew
            have hB := hD
            replace K0 := Aside0.mk (blk_below K0.out hB)
            replace K1 := Aside0.mk (blk_below K1.out hB)
            replace K2 := Aside0.mk (blk_below K2.out hB)
            replace KA := Aside0.mk (blk_below KA.out hB)
            replace KB := Aside0.mk (blk_below KB.out hB)
            replace HTA := Aside0.mk (HTA.out.below hB)
            replace HTB := Aside0.mk (HTB.out.below hB)
            replace HW := Aside0.mk (below_then HW.out HW.out.size hB)
            clear hB
            clear hD a0 a1 b0 b1
            generalize w5.drew = w6 at *
            refine takeA 44 0 (v := ?_) ?_ hHeld ?_
            rotate_left
            · intro w hSw
              try dsimp only at hSw
              go_simp <;> with_reducible rfl
            try simp only [Act.put, List.setIfInBounds_toArray, List.set_cons_zero, List.set_cons_succ]
            refine takeA 45 1 (v := ?_) ?_ hHeld ?_
            rotate_left
            · intro w hSw
              try dsimp only at hSw
              go_simp <;> with_reducible rfl
            try simp only [Act.put, List.setIfInBounds_toArray, List.set_cons_zero, List.set_cons_succ]
            refine wpAnyH_ready (rs := [2]) (by kernel_rfl) (by simp) ?_
            refine AllReadyH.cons rfl (fun K hK => ?_) AllReadyH.nil
            have c0 := (blk_cell K1.out 0).trans rfl
            have c1 := (blk_cell K1.out 1).trans rfl
            have z0 := blk_frozen K1.out 0
            have z1 := blk_frozen K1.out 1
            simp at c0 c1
            go_simp
            clear c0 c1 z0 z1
            have far : ∀ (b o : Nat) (v : Value), b ≠ w.heap.size + 1 → w6.cell? ⟨b, o, none⟩ = some v → ((w6.setCell ⟨w.heap.size + 1, 0, none⟩ (.int .i8 ta.f0)).setCell ⟨w.heap.size + 1, 1, none⟩ (.slice P ta.f1.length p)).cell? ⟨b, o, none⟩ = some v := fun b o v hb hv => by
              rw [World.cell?_setCell_far _ _ _ _ (by show w.heap.size + 1 ≠ b; omega), World.cell?_setCell_far _ _ _ _ (by show w.heap.size + 1 ≠ b; omega)]
              exact hv
            refine hK.out _ _ ⟨far _ _ _ (by omega) hHeld.1, far _ _ _ (by omega) hHeld.2.1, far _ _ _ (by omega) hHeld.2.2.1, far _ _ _ (by omega) hHeld.2.2.2⟩ (fun hHeld => ?_)
            clear hK K far
            try simp only [Act.put, List.setIfInBounds_toArray, List.set_cons_zero, List.set_cons_succ]
            have hT : IsT ((w6.setCell ⟨w.heap.size + 1, 0, none⟩ (.int .i8 ta.f0)).setCell ⟨w.heap.size + 1, 1, none⟩ (.slice P ta.f1.length p)) (.agg #[.int .i8 ta.f0, .slice P ta.f1.length p]) ta ∧ IsT ((w6.setCell ⟨w.heap.size + 1, 0, none⟩ (.int .i8 ta.f0)).setCell ⟨w.heap.size + 1, 1, none⟩ (.slice P ta.f1.length p)) (.agg #[.int .i8 tb.f0, .slice Q tb.f1.length q]) tb := ⟨isT_far K1.out (kept2 _ _ _ _) (check_nodes h4).2.2 HTA.out, isT_far K1.out (kept2 _ _ _ _) (check_nodes h5).2.2 HTB.out⟩
            replace K1 := Aside0.mk (put_two K1.out (.int .i8 ta.f0) (.slice P ta.f1.length p))
            replace K2 := Aside0.mk (put_two_far (g := w.heap.size + 1) K2.out (by omega) (.int .i8 ta.f0) (.slice P ta.f1.length p))
            replace HW := Aside0.mk ((HW.out.setCell (p := ⟨w.heap.size + 1, 0, none⟩) (Nat.le_add_right _ 1) (.int .i8 ta.f0)).setCell (p := ⟨w.heap.size + 1, 1, none⟩) (Nat.le_add_right _ 1) (.slice P ta.f1.length p))
            replace HTA := Aside0.mk hT.1
            replace HTB := Aside0.mk hT.2
            clear hT
            generalize (w6.setCell ⟨w.heap.size + 1, 0, none⟩ (.int .i8 ta.f0)).setCell ⟨w.heap.size + 1, 1, none⟩ (.slice P ta.f1.length p) = w7 at *
            refine wpAnyH_ready (rs := [3]) (by kernel_rfl) (by simp) ?_
            refine AllReadyH.cons rfl (fun K hK => ?_) AllReadyH.nil
            have d0 := (blk_cell K2.out 0).trans rfl
            have d1 := (blk_cell K2.out 1).trans rfl
            have y0 := blk_frozen K2.out 0
            have y1 := blk_frozen K2.out 1
            simp at d0 d1
            go_simp
            clear d0 d1 y0 y1
            have far : ∀ (b o : Nat) (v : Value), b ≠ w.heap.size + 2 → w7.cell? ⟨b, o, none⟩ = some v → ((w7.setCell ⟨w.heap.size + 2, 0, none⟩ (.int .i8 tb.f0)).setCell ⟨w.heap.size + 2, 1, none⟩ (.slice Q tb.f1.length q)).cell? ⟨b, o, none⟩ = some v := fun b o v hb hv => by
              rw [World.cell?_setCell_far _ _ _ _ (by show w.heap.size + 2 ≠ b; omega), World.cell?_setCell_far _ _ _ _ (by show w.heap.size + 2 ≠ b; omega)]
              exact hv
            refine hK.out _ _ ⟨far _ _ _ (by omega) hHeld.1, far _ _ _ (by omega) hHeld.2.1, far _ _ _ (by omega) hHeld.2.2.1, far _ _ _ (by omega) hHeld.2.2.2⟩ (fun hHeld => ?_)
            clear hK K far
            try simp only [Act.put, List.setIfInBounds_toArray, List.set_cons_zero, List.set_cons_succ]
            have hT : IsT ((w7.setCell ⟨w.heap.size + 2, 0, none⟩ (.int .i8 tb.f0)).setCell ⟨w.heap.size + 2, 1, none⟩ (.slice Q tb.f1.length q)) (.agg #[.int .i8 ta.f0, .slice P ta.f1.length p]) ta ∧ IsT ((w7.setCell ⟨w.heap.size + 2, 0, none⟩ (.int .i8 tb.f0)).setCell ⟨w.heap.size + 2, 1, none⟩ (.slice Q tb.f1.length q)) (.agg #[.int .i8 tb.f0, .slice Q tb.f1.length q]) tb := ⟨isT_far K2.out (kept2 _ _ _ _) (check_nodes h4).2.2 HTA.out, isT_far K2.out (kept2 _ _ _ _) (check_nodes h5).2.2 HTB.out⟩
            replace K2 := Aside0.mk (put_two K2.out (.int .i8 tb.f0) (.slice Q tb.f1.length q))
            replace K1 := Aside0.mk (put_two_far (g := w.heap.size + 2) K1.out (by omega) (.int .i8 tb.f0) (.slice Q tb.f1.length q))
            replace HW := Aside0.mk ((HW.out.setCell (p := ⟨w.heap.size + 2, 0, none⟩) (Nat.le_add_right _ 2) (.int .i8 tb.f0)).setCell (p := ⟨w.heap.size + 2, 1, none⟩) (Nat.le_add_right _ 2) (.slice Q tb.f1.length q))
            replace HTA := Aside0.mk hT.1
            replace HTB := Aside0.mk hT.2
            clear hT
            generalize (w7.setCell ⟨w.heap.size + 2, 0, none⟩ (.int .i8 tb.f0)).setCell ⟨w.heap.size + 2, 1, none⟩ (.slice Q tb.f1.length q) = w8 at *
            refine takeA 4 4 (v := ?_) ?_ hHeld ?_
            rotate_left
            · intro w hSw
              try dsimp only at hSw
              go_simp <;> with_reducible rfl
            try simp only [Act.put, List.setIfInBounds_toArray, List.set_cons_zero, List.set_cons_succ]
            refine wpAnyH_done (by kernel_rfl) ?_ _
            go_wp2_with fail
            exact bodyPost_ret (results_list (rs := [.cell 2 35, .cell 3 35, .tmp 4]) rfl (by simp) (.cell (w.heap.size + 1) 35 _ (0, 0) _ rfl K1.out Try.underlying35 rfl (by kernel_rfl) (.cell (w.heap.size + 2) 35 _ (0, 0) _ rfl K2.out Try.underlying35 rfl (by kernel_rfl) (.tmp .nil)))) rfl ⟨.agg #[.int .i8 ta.f0, .slice P ta.f1.length p], .agg #[.int .i8 tb.f0, .slice Q tb.f1.length q], ta, tb, by first | (rw [hr]; rfl) | rw [hr], HTA.out, HTB.out, fun _ => him trivial, HW.out⟩
          · have hr : cocheckI x = checkI tb := by unfold cocheckI; rw [if_neg h1, if_neg h2, him trivial]; simp [h4]
            have h5b : (checkI tb != 0) = true := bne_iff_ne.mpr h5
            have c0 := (blk_cell K1.out 0).trans rfl
            have c1 := (blk_cell K1.out 1).trans rfl
            have z0 := blk_frozen K1.out 0
            have z1 := blk_frozen K1.out 1
            simp at c0 c1
            have d0 := (blk_cell K2.out 0).trans rfl
            have d1 := (blk_cell K2.out 1).trans rfl
            have y0 := blk_frozen K2.out 0
            have y1 := blk_frozen K2.out 1
            simp at d0 d1
            go_wp2_with fail
            exact bodyPost_ret (results_list (rs := [.cell 2 35, .cell 3 35, .tmp 4]) rfl (by simp) (.cell (w.heap.size + 1) 35 _ (0, 0) _ rfl (put_two_far (put_two K1.out _ _) (by omega) _ _) Try.underlying35 rfl (by kernel_rfl) (.cell (w.heap.size + 2) 35 _ (0, 0) _ rfl (put_two (put_two_far K2.out (by omega) _ _) _ _) Try.underlying35 rfl (by kernel_rfl) (.tmp .nil)))) rfl ⟨(.agg #[.int .i8 0, .slice none 0 0]), (.agg #[.int .i8 0, .slice none 0 0]), z35, z35, by first | (rw [hr]; rfl) | rw [hr], IsT.zero _, IsT.zero _, fun h => absurd (hr.symm.trans h) h5, (((HW.out.setCell (Nat.le_add_right _ 1) _).setCell (Nat.le_add_right _ 1) _).setCell (Nat.le_add_right _ 2) _).setCell (Nat.le_add_right _ 2) _⟩
        · have hr : cocheckI x = checkI ta := by unfold cocheckI; rw [if_neg h1, if_neg h2, him trivial]; simp [h4]
          have h4b : (checkI ta != 0) = true := bne_iff_ne.mpr h4
          have c0 := (blk_cell K1.out 0).trans rfl
          have c1 := (blk_cell K1.out 1).trans rfl
          have z0 := blk_frozen K1.out 0
          have z1 := blk_frozen K1.out 1
          simp at c0 c1
          have d0 := (blk_cell K2.out 0).trans rfl
          have d1 := (blk_cell K2.out 1).trans rfl
          have y0 := blk_frozen K2.out 0
          have y1 := blk_frozen K2.out 1
          simp at d0 d1
          go_wp2_with fail
          exact bodyPost_ret (results_list (rs := [.cell 2 35, .cell 3 35, .tmp 4]) rfl (by simp) (.cell (w.heap.size + 1) 35 _ (0, 0) _ rfl (put_two_far (put_two K1.out _ _) (by omega) _ _) Try.underlying35 rfl (by kernel_rfl) (.cell (w.heap.size + 2) 35 _ (0, 0) _ rfl (put_two (put_two_far K2.out (by omega) _ _) _ _) Try.underlying35 rfl (by kernel_rfl) (.tmp .nil)))) rfl ⟨(.agg #[.int .i8 0, .slice none 0 0]), (.agg #[.int .i8 0, .slice none 0 0]), z35, z35, by first | (rw [hr]; rfl) | rw [hr], IsT.zero _, IsT.zero _, fun h => absurd (hr.symm.trans h) h4, (((HW.out.setCell (Nat.le_add_right _ 1) _).setCell (Nat.le_add_right _ 1) _).setCell (Nat.le_add_right _ 2) _).setCell (Nat.le_add_right _ 2) _⟩
end Go.Proofs.Ytjmpejbciniceaa.X
namespace Go.Proofs.Ytjmpejbciniceaa.X
open Go.RowKit Go.Proofs.YtjmpejbciniceaaW.PrintWords Go.Proofs.YtjmpejbciniceaaW.PrintLast Go.Proofs.YtjmpejbciniceaaW.PrintMore
set_option linter.unusedVariables false
set_option linter.unusedSimpArgs false
theorem leaf_right {k : Int} {t u : S35} {la : Int} {a b : S35} (h : leafC k t u la = some (a, b)) : rightB a = true ∧ rightB b = true := by
  have hz : rightB z35 = true := by decide
  unfold leafC at h
  split at h
  · rename_i ht
    have hr := (check_nodes ht).2.2
    split at h
    · simp at h
      exact ⟨h.1 ▸ hr, h.2 ▸ hr⟩
    · split at h
      · split at h
        · simp at h
          exact ⟨h.1 ▸ hr, h.2 ▸ hz⟩
        · simp at h
      · split at h
        · split at h
          · simp at h
            exact ⟨h.1 ▸ hz, h.2 ▸ hr⟩
          · simp at h
        · split at h
          · rename_i hc
            simp only [Bool.and_eq_true, decide_eq_true_eq] at hc
            simp at h
            exact ⟨h.1 ▸ hr, h.2 ▸ (check_nodes hc.2).2.2⟩
          · simp at h
  · simp at h
theorem pair_right {k : Int} (hk : partsI k = 2) {a b : S35} (ha : rightB a = true) (hb : rightB b = true) : rightB ⟨k, [a, b]⟩ = true := by
  rw [rightB_eq]
  simp [hk, rightL, ha, hb]
theorem join_right {k : Int} {a b x y c d : S35} (h : joinC k a b x y = some (c, d)) (ha : rightB a = true) (hb : rightB b = true) (hx : rightB x = true) (hy : rightB y = true) : rightB c = true ∧ rightB d = true := by
  unfold joinC at h
  split at h
  · simp at h
    exact ⟨h.1 ▸ pair_right rfl hb hx, h.2 ▸ pair_right rfl ha hy⟩
  · split at h
    · simp at h
      exact ⟨h.1 ▸ pair_right rfl ha hx, h.2 ▸ pair_right rfl hb hy⟩
    · split at h
      · simp at h
        exact ⟨h.1 ▸ pair_right rfl ha hx, h.2 ▸ pair_right rfl hb hy⟩
      · split at h
        · split at h
          · simp at h
            exact ⟨h.1 ▸ ha, h.2 ▸ hy⟩
          · simp at h
        · simp at h
theorem ends_right (n : Nat) : ∀ (x : S47) (a b : S35), cnodes x < n → endsC x = some (a, b) → rightB a = true ∧ rightB b = true := by
  induction n with
  | zero => intro x a b h; omega
  | succ n ih =>
  intro x a b hn h
  have hk := ends_kids (x := x) (by rw [h]; rfl)
  rw [cnodes_eq] at hn
  obtain ⟨k, t, u, la, ne, l⟩ := x
  simp only at hk hn
  rw [endsC] at h
  rcases hk with ⟨h1, rfl⟩ | ⟨h1, p, q, rfl, hp, hq⟩
  · rw [if_pos h1] at h
    exact leaf_right h
  · rw [if_neg (by rw [h1]; decide)] at h
    simp only [cnodesL] at hn
    obtain ⟨⟨a1, b1⟩, e1⟩ := Option.isSome_iff_exists.1 hp
    obtain ⟨⟨x1, y1⟩, e2⟩ := Option.isSome_iff_exists.1 hq
    have r1 := ih p a1 b1 (by omega) e1
    have r2 := ih q x1 y1 (by omega) e2
    simp only [endsL, e1, e2] at h
    exact join_right h r1.1 r1.2 r2.1 r2.2
end Go.Proofs.Ytjmpejbciniceaa.X
namespace Go.Proofs.Ytjmpejbciniceaa.X
open Go.RowKit Go.Proofs.YtjmpejbciniceaaW.PrintWords Go.Proofs.YtjmpejbciniceaaW.PrintLast Go.Proofs.YtjmpejbciniceaaW.PrintMore
set_option linter.unusedVariables false
set_option linter.unusedSimpArgs false
theorem C_two {w : World} {g : Nat} {a b : S35} {Aa Ab : Option Addr} {ca cb : Nat} {cap : Nat} {t : TypeId}
    (hb : w.heap[g]? = some (.cells #[.int .i8 a.f0, .slice Aa a.f1.length ca, .int .i8 b.f0, .slice Ab b.f1.length cb] t (0, 0))) (ha1 : a.f1.length ≤ ca) (hb1 : b.f1.length ≤ cb)
    (hca : Kd.C k35 w Aa a.f1.length a.f1) (hcb : Kd.C k35 w Ab b.f1.length b.f1) : Kd.C k35 w (some ⟨g, 0, none⟩) 2 [a, b] := by
  have hc := blk_cell hb
  refine ⟨rfl, by omega, fun _ => ⟨_, rfl, fun j p hj => ?_⟩⟩
  match j, hj with
  | 0, hj =>
    obtain rfl : a = p := by simpa using hj
    refine ⟨_, rfl, k35_mk w a ha1 hca, fun i u hu => ?_⟩
    match i, hu with
    | 0, hu => simpa [Addr.add] using (hc 0).trans hu
    | 1, hu => simpa [Addr.add] using (hc 1).trans hu
  | 1, hj =>
    obtain rfl : b = p := by simpa using hj
    refine ⟨_, rfl, k35_mk w b hb1 hcb, fun i u hu => ?_⟩
    match i, hu with
    | 0, hu => simpa [Addr.add, k35, Kd.fix] using (hc 2).trans hu
    | 1, hu => simpa [Addr.add, k35, Kd.fix] using (hc 3).trans hu
end Go.Proofs.Ytjmpejbciniceaa.X
namespace Go.Proofs.Ytjmpejbciniceaa.X
open Go.RowKit Go.Proofs.YtjmpejbciniceaaW.PrintWords Go.Proofs.YtjmpejbciniceaaW.PrintLast Go.Proofs.YtjmpejbciniceaaW.PrintMore
set_option linter.unusedVariables false
set_option linter.unusedSimpArgs false
set_option maxHeartbeats 800000 in
theorem pair_calls {k : Int} {a b : S35} {va vb : Value} {w : World} (ha : IsT w va a) (hb : IsT w vb b) :
    Calls Try.prog 78 #[.int .i8 k, va, vb] w fun e w' => ∃ v, e = .returned v ∧ IsT w' v ⟨k, [a, b]⟩ ∧ Below w.heap.size w w' := by
  obtain ⟨Aa, ca, rfl, ha1, ha2⟩ := ha
  obtain ⟨Ab, cb, rfl, hb1, hb2⟩ := hb
  have HA := Aside0.mk ha2
  have HB := Aside0.mk hb2
  clear ha2 hb2
  have hB4 : Below w.heap.size w ((((w.alloc (.cells #[.int .i8 a.f0, .slice Aa a.f1.length ca] 35)).alloc (.cells #[.int .i8 b.f0, .slice Ab b.f1.length cb] 35)).alloc (.cells #[.int .i8 k, .slice (some ⟨w.heap.size + 1 + 1 + 1, 0, none⟩) 2 2] 35)).alloc (.cells #[.int .i8 a.f0, .slice Aa a.f1.length ca, .int .i8 b.f0, .slice Ab b.f1.length cb] 35)) :=
    ((((Below.refl _ _).alloc (Nat.le_refl _) _).alloc (by simp) _).alloc (by simp; omega) _).alloc (by simp; omega) _
  have hb4 := heap_alloc_new (((w.alloc (.cells #[.int .i8 a.f0, .slice Aa a.f1.length ca] 35)).alloc (.cells #[.int .i8 b.f0, .slice Ab b.f1.length cb] 35)).alloc (.cells #[.int .i8 k, .slice (some ⟨w.heap.size + 1 + 1 + 1, 0, none⟩) 2 2] 35)) (.cells #[.int .i8 a.f0, .slice Aa a.f1.length ca, .int .i8 b.f0, .slice Ab b.f1.length cb] 35)
  have hT := C_two (cap := 0) hb4 ha1 hb1 (Kd.C_below HA.out hB4) (Kd.C_below HB.out hB4)
  have HT := Aside0.mk hT
  have HB4 := Aside0.mk hB4
  clear hT hB4 hb4 HA HB
  go_enter Try.func78, Try.ntmps78
  go_wp2
  refine bodyPost_ret (v := .agg #[.int .i8 k, .slice (some ⟨w.heap.size + 1 + 1 + 1, 0, none⟩) 2 2]) (by simp [results, Try.results78, go_sem]) rfl ⟨_, rfl, ⟨_, _, rfl, by simp, ?_⟩, HB4.out⟩
  simpa using HT.out
end Go.Proofs.Ytjmpejbciniceaa.X
namespace Go.Proofs.Ytjmpejbciniceaa.X
open Go.RowKit Go.Proofs.YtjmpejbciniceaaW.PrintWords Go.Proofs.YtjmpejbciniceaaW.PrintLast Go.Proofs.YtjmpejbciniceaaW.PrintMore
set_option linter.unusedVariables false
set_option linter.unusedSimpArgs false
def partsC (k : Int) (p q : S47) : Option (S35 × S35) := match endsC p, endsC q with
  | some (a, b), some (x, y) => joinC k a b x y
  | _, _ => none
theorem ends_parts {x p q : S47} (hk : leafB x.f0 = false) (hx : x.f5 = [p, q]) : endsC x = partsC x.f0 p q := by
  obtain ⟨k, t, u, la, ne, l⟩ := x
  simp only at hx hk ⊢
  subst hx
  rw [endsC, if_neg (by rw [hk]; decide), partsC]
  simp only [endsL]
  cases endsC p with
  | none => rfl
  | some v =>
    cases endsC q with
    | none => rfl
    | some v2 => rfl
end Go.Proofs.Ytjmpejbciniceaa.X
