/- Texts of this claim, joined: WkCoerceSame. -/
import Derived.Test.YtjmpejbciniceaaKCoerceSame18
namespace Go.Proofs.Ytjmpejbciniceaa.X
open Go.RowKit Go.Proofs.YtjmpejbciniceaaW.PrintWords Go.Proofs.YtjmpejbciniceaaW.PrintLast Go.Proofs.YtjmpejbciniceaaW.PrintMore
set_option linter.unusedVariables false
set_option linter.unusedSimpArgs false
theorem IsC.zero (w : World) : IsC w (.agg #[.int .i8 0, .int .i8 0, .slice none 0 0, .int .i8 0, .slice none 0 0, .int .i64 0, .bool false, .slice none 0 0]) z47 := by
  have c35 : Kd.C k35 w none 0 [] := ⟨rfl, by simp, fun h => absurd h (by simp)⟩
  have c47 : Kd.C k47 w none 0 [] := ⟨rfl, by simp, fun h => absurd h (by simp)⟩
  exact ⟨none, 0, none, 0, none, 0, rfl, Nat.le_refl _, c35, Nat.le_refl _, c35, Nat.le_refl _, c47⟩
theorem zero_same : (decide (cocheckI z47 = 0) && decide (cocheckI z47 = 0) && likeC z47 z47) = true := by
  have h0 : checkI z35 = 0 := by decide +kernel
  have h1 : cocheckI z47 = 0 := by decide +kernel
  have h2 : likeC z47 z47 = true := by decide +kernel
  rw [h1, h2]
  rfl
set_option maxRecDepth 100000 in
set_option maxHeartbeats 3200000 in
theorem coerce_law {a b : S47} {va vb : Value} {w : World} (ha : IsC w va a) (hb : IsC w vb b)  : Calls Try.prog 6 #[va, vb] w (SaysB true w) := by
  have HA := Aside0.mk ha
  have HB := Aside0.mk hb
  obtain ⟨A2, c2, A4, c4, A7, c7, rfl, -, -, -, -, -, -⟩ := ha
  obtain ⟨A2', c2', A4', c4', A7', c7', rfl, -, -, -, -, -, -⟩ := hb
  have hB : Below w.heap.size w ((w.alloc (.cells #[.int .i8 a.f0, .int .i8 a.f1.f0, .slice A2 a.f1.f1.length c2, .int .i8 a.f2.f0, .slice A4 a.f2.f1.length c4, .int .i64 a.f3, .bool a.f4, .slice A7 a.f5.length c7] 47)).alloc (.cells #[.int .i8 b.f0, .int .i8 b.f1.f0, .slice A2' b.f1.f1.length c2', .int .i8 b.f2.f0, .slice A4' b.f2.f1.length c4', .int .i64 b.f3, .bool b.f4, .slice A7' b.f5.length c7'] 47)) := ((Below.refl _ _).alloc (Nat.le_refl _) _).alloc (by simp) _
  have K0 := Aside0.mk (blk_alloc (heap_alloc_new w (.cells #[.int .i8 a.f0, .int .i8 a.f1.f0, .slice A2 a.f1.f1.length c2, .int .i8 a.f2.f0, .slice A4 a.f2.f1.length c4, .int .i64 a.f3, .bool a.f4, .slice A7 a.f5.length c7] 47)) (.cells #[.int .i8 b.f0, .int .i8 b.f1.f0, .slice A2' b.f1.f1.length c2', .int .i8 b.f2.f0, .slice A4' b.f2.f1.length c4', .int .i64 b.f3, .bool b.f4, .slice A7' b.f5.length c7'] 47))
  have K1 : Aside0 (((w.alloc (.cells #[.int .i8 a.f0, .int .i8 a.f1.f0, .slice A2 a.f1.f1.length c2, .int .i8 a.f2.f0, .slice A4 a.f2.f1.length c4, .int .i64 a.f3, .bool a.f4, .slice A7 a.f5.length c7] 47)).alloc (.cells #[.int .i8 b.f0, .int .i8 b.f1.f0, .slice A2' b.f1.f1.length c2', .int .i8 b.f2.f0, .slice A4' b.f2.f1.length c4', .int .i64 b.f3, .bool b.f4, .slice A7' b.f5.length c7'] 47)).heap[w.heap.size + 1]? = some (.cells #[.int .i8 b.f0, .int .i8 b.f1.f0, .slice A2' b.f1.f1.length c2', .int .i8 b.f2.f0, .slice A4' b.f2.f1.length c4', .int .i64 b.f3, .bool b.f4, .slice A7' b.f5.length c7'] 47 (0, 0))) := .mk (by have := heap_alloc_new (w.alloc (.cells #[.int .i8 a.f0, .int .i8 a.f1.f0, .slice A2 a.f1.f1.length c2, .int .i8 a.f2.f0, .slice A4 a.f2.f1.length c4, .int .i64 a.f3, .bool a.f4, .slice A7 a.f5.length c7] 47)) (.cells #[.int .i8 b.f0, .int .i8 b.f1.f0, .slice A2' b.f1.f1.length c2', .int .i8 b.f2.f0, .slice A4' b.f2.f1.length c4', .int .i64 b.f3, .bool b.f4, .slice A7' b.f5.length c7'] 47); simpa using this)
  replace HA := Aside0.mk (HA.out.below hB)
  replace HB := Aside0.mk (HB.out.below hB)
  have HW := Aside0.mk hB
  clear hB
  obtain ⟨s, hs⟩ : ∃ s, (decide (cocheckI a = 0) && decide (cocheckI b = 0) && likeC a b) = s := ⟨_, rfl⟩
  have hss : (s == s) = true := beq_self_eq_true s
  go_enter Try.func6, Try.ntmps6
  go_wp2_with fail
  generalize (w.alloc (.cells #[.int .i8 a.f0, .int .i8 a.f1.f0, .slice A2 a.f1.f1.length c2, .int .i8 a.f2.f0, .slice A4 a.f2.f1.length c4, .int .i64 a.f3, .bool a.f4, .slice A7 a.f5.length c7] 47)).alloc (.cells #[.int .i8 b.f0, .int .i8 b.f1.f0, .slice A2' b.f1.f1.length c2', .int .i8 b.f2.f0, .slice A4' b.f2.f1.length c4', .int .i64 b.f3, .bool b.f4, .slice A7' b.f5.length c7'] 47) = w0 at *
  refine wp_region_held_drew (S := fun w' => w'.cell? ⟨w.heap.size, 0, none⟩ = some (.int .i8 a.f0) ∧ w'.cell? ⟨w.heap.size, 1, none⟩ = some (.int .i8 a.f1.f0) ∧ w'.cell? ⟨w.heap.size, 2, none⟩ = some (.slice A2 a.f1.f1.length c2) ∧ w'.cell? ⟨w.heap.size, 3, none⟩ = some (.int .i8 a.f2.f0) ∧ w'.cell? ⟨w.heap.size, 4, none⟩ = some (.slice A4 a.f2.f1.length c4) ∧ w'.cell? ⟨w.heap.size, 5, none⟩ = some (.int .i64 a.f3) ∧ w'.cell? ⟨w.heap.size, 6, none⟩ = some (.bool a.f4) ∧ w'.cell? ⟨w.heap.size, 7, none⟩ = some (.slice A7 a.f5.length c7) ∧ w'.cell? ⟨w.heap.size + 1, 0, none⟩ = some (.int .i8 b.f0) ∧ w'.cell? ⟨w.heap.size + 1, 1, none⟩ = some (.int .i8 b.f1.f0) ∧ w'.cell? ⟨w.heap.size + 1, 2, none⟩ = some (.slice A2' b.f1.f1.length c2') ∧ w'.cell? ⟨w.heap.size + 1, 3, none⟩ = some (.int .i8 b.f2.f0) ∧ w'.cell? ⟨w.heap.size + 1, 4, none⟩ = some (.slice A4' b.f2.f1.length c4') ∧ w'.cell? ⟨w.heap.size + 1, 5, none⟩ = some (.int .i64 b.f3) ∧ w'.cell? ⟨w.heap.size + 1, 6, none⟩ = some (.bool b.f4) ∧ w'.cell? ⟨w.heap.size + 1, 7, none⟩ = some (.slice A7' b.f5.length c7')) (by kernel_rfl) ⟨bcl K0.out, bcl K0.out, bcl K0.out, bcl K0.out, bcl K0.out, bcl K0.out, bcl K0.out, bcl K0.out, bcl K1.out, bcl K1.out, bcl K1.out, bcl K1.out, bcl K1.out, bcl K1.out, bcl K1.out, bcl K1.out⟩ (fun hHeld => ?_)
  have hB := (Below.refl w0.heap.size w0).drew
  replace HA := Aside0.mk (HA.out.below hB)
  replace HB := Aside0.mk (HB.out.below hB)
  replace HW := Aside0.mk (below_then HW.out HW.out.size hB)
  clear hB
  generalize w0.drew = w1 at *
  refine tK 5 0 hHeld ?_
  refine tK 6 1 hHeld ?_
  refine tK 8 3 hHeld ?_
  refine tK 9 4 hHeld ?_
  refine cK 7 2 (coSame_calls HA.out HB.out) ?_
  rintro e w2 ⟨rfl, hB⟩
  rw [hs]
  replace HA := Aside0.mk (HA.out.below hB)
  replace HB := Aside0.mk (HB.out.below hB)
  replace HW := Aside0.mk (below_then HW.out HW.out.size hB)
  refine ⟨_, rfl, ⟨pwc hB hHeld.1, pwc hB hHeld.2.1, pwc hB hHeld.2.2.1, pwc hB hHeld.2.2.2.1, pwc hB hHeld.2.2.2.2.1, pwc hB hHeld.2.2.2.2.2.1, pwc hB hHeld.2.2.2.2.2.2.1, pwc hB hHeld.2.2.2.2.2.2.2.1, pwc hB hHeld.2.2.2.2.2.2.2.2.1, pwc hB hHeld.2.2.2.2.2.2.2.2.2.1, pwc hB hHeld.2.2.2.2.2.2.2.2.2.2.1, pwc hB hHeld.2.2.2.2.2.2.2.2.2.2.2.1, pwc hB hHeld.2.2.2.2.2.2.2.2.2.2.2.2.1, pwc hB hHeld.2.2.2.2.2.2.2.2.2.2.2.2.2.1, pwc hB hHeld.2.2.2.2.2.2.2.2.2.2.2.2.2.2.1, pwc hB hHeld.2.2.2.2.2.2.2.2.2.2.2.2.2.2.2⟩, fun hHeld => nA ?_⟩
  clear hB
  refine cK 10 5 (rSame15_calls HA.out HB.out) ?_
  rintro e w3 ⟨rfl, hB⟩
  rw [hs]
  replace HA := Aside0.mk (HA.out.below hB)
  replace HB := Aside0.mk (HB.out.below hB)
  replace HW := Aside0.mk (below_then HW.out HW.out.size hB)
  refine ⟨_, rfl, ⟨pwc hB hHeld.1, pwc hB hHeld.2.1, pwc hB hHeld.2.2.1, pwc hB hHeld.2.2.2.1, pwc hB hHeld.2.2.2.2.1, pwc hB hHeld.2.2.2.2.2.1, pwc hB hHeld.2.2.2.2.2.2.1, pwc hB hHeld.2.2.2.2.2.2.2.1, pwc hB hHeld.2.2.2.2.2.2.2.2.1, pwc hB hHeld.2.2.2.2.2.2.2.2.2.1, pwc hB hHeld.2.2.2.2.2.2.2.2.2.2.1, pwc hB hHeld.2.2.2.2.2.2.2.2.2.2.2.1, pwc hB hHeld.2.2.2.2.2.2.2.2.2.2.2.2.1, pwc hB hHeld.2.2.2.2.2.2.2.2.2.2.2.2.2.1, pwc hB hHeld.2.2.2.2.2.2.2.2.2.2.2.2.2.2.1, pwc hB hHeld.2.2.2.2.2.2.2.2.2.2.2.2.2.2.2⟩, fun hHeld => nA ?_⟩
  clear hB
  refine tK 11 6 hHeld ?_
  try rw [hss]
  refine tK 12 7 hHeld ?_
  refine tK 13 8 hHeld ?_
  refine tK 14 9 hHeld ?_
  refine cK 15 10 (coSame_calls (IsC.zero _) (IsC.zero _)) ?_
  rintro e w4 ⟨rfl, hB⟩
  rw [zero_same]
  replace HA := Aside0.mk (HA.out.below hB)
  replace HB := Aside0.mk (HB.out.below hB)
  replace HW := Aside0.mk (below_then HW.out HW.out.size hB)
  refine ⟨_, rfl, ⟨pwc hB hHeld.1, pwc hB hHeld.2.1, pwc hB hHeld.2.2.1, pwc hB hHeld.2.2.2.1, pwc hB hHeld.2.2.2.2.1, pwc hB hHeld.2.2.2.2.2.1, pwc hB hHeld.2.2.2.2.2.2.1, pwc hB hHeld.2.2.2.2.2.2.2.1, pwc hB hHeld.2.2.2.2.2.2.2.2.1, pwc hB hHeld.2.2.2.2.2.2.2.2.2.1, pwc hB hHeld.2.2.2.2.2.2.2.2.2.2.1, pwc hB hHeld.2.2.2.2.2.2.2.2.2.2.2.1, pwc hB hHeld.2.2.2.2.2.2.2.2.2.2.2.2.1, pwc hB hHeld.2.2.2.2.2.2.2.2.2.2.2.2.2.1, pwc hB hHeld.2.2.2.2.2.2.2.2.2.2.2.2.2.2.1, pwc hB hHeld.2.2.2.2.2.2.2.2.2.2.2.2.2.2.2⟩, fun hHeld => nA ?_⟩
  clear hB
  refine tK 16 11 hHeld ?_
  refine tK 4 12 hHeld ?_
  refine wpAnyH_done (by kernel_rfl) ?_ _
  go_wp2_with fail
  go_ret
  exact ⟨rfl, HW.out⟩
theorem coerce_walk (va : Value) (a : S47) (vb : Value) (b : S47) (w : World) (ha : IsC w va a) (hb : IsC w vb b) : Calls Try.prog 6 #[va, vb] w fun e w' => e = .returned (.bool true) ∧ Below w.heap.size w w' := coerce_law ha hb
end Go.Proofs.Ytjmpejbciniceaa.X
