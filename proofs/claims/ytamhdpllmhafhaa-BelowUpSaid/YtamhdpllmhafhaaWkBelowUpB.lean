/- The walk of the law BelowUp: made of parts. -/
import Derived.Test.YtamhdpllmhafhaaWkBelowUpA
import Derived.Test.YtamhdpllmhafhaaHTake
import Derived.Test.YtamhdpllmhafhaaHCallH
namespace Go.Proofs.Ytamhdpllmhafhaa.X
open Go.RowKit Go.Proofs.YtamhdpllmhafhaaW.PrintWords Go.Proofs.YtamhdpllmhafhaaW.PrintLast Go.Proofs.YtamhdpllmhafhaaW.PrintMore
set_option linter.unusedVariables false
set_option linter.unusedSimpArgs false

theorem cK {W w' : World} {g : Nat} {k : Int} {A : Option Addr} {c : Nat} (h : W.heap[g]? = some (.cells #[.int .i8 k, .slice A 2 c] 26 (0, 0))) (hB : Below W.heap.size W w') : w'.cell? ⟨g, 0, none⟩ = some (.int .i8 k) ∧ w'.cell? ⟨g, 1, none⟩ = some (.slice A 2 c) :=
  ⟨pw_cell_below hB ((blk_cell h 0).trans rfl), pw_cell_below hB ((blk_cell h 1).trans rfl)⟩
set_option maxRecDepth 100000 in
set_option maxHeartbeats 6400000 in
theorem up_main (a b c d : S26) (w : World) (A0 : Option Addr) (c0 : Nat) (A1 : Option Addr) (c1 : Nat) (A2 : Option Addr) (c2 : Nat) (A3 : Option Addr) (c3 : Nat) (T0 : Aside0 (IsT w (.agg #[.int .i8 a.f0, .slice A0 a.f1.length c0]) a)) (T1 : Aside0 (IsT w (.agg #[.int .i8 b.f0, .slice A1 b.f1.length c1]) b)) (T2 : Aside0 (IsT w (.agg #[.int .i8 c.f0, .slice A2 c.f1.length c2]) c)) (T3 : Aside0 (IsT w (.agg #[.int .i8 d.f0, .slice A3 d.f1.length c3]) d)) (S0 : Aside0 (smallB a = true)) (S1 : Aside0 (smallB b = true)) (S2 : Aside0 (smallB c = true)) (S3 : Aside0 (smallB d = true)) (CF : Aside0 (checkI ⟨3, [a, b]⟩ = 0)) (CG : Aside0 (checkI ⟨3, [c, d]⟩ = 0)) (p0 p1 p2 r0 r1 r2 q0 q1 q2 : Bool) (Y0 : Aside0 (relB 0 b d = q0)) (Y1 : Aside0 (relB 1 b d = q1)) (Y2 : Aside0 (relB 2 b d = q2)) (V90 : Aside0 (relB 0 ⟨4, [a, b]⟩ ⟨4, [c, d]⟩ = (p0 && q0))) (V91 : Aside0 (relB 1 ⟨4, [a, b]⟩ ⟨4, [c, d]⟩ = (p1 && q1))) (V92 : Aside0 (relB 2 ⟨4, [a, b]⟩ ⟨4, [c, d]⟩ = (p2 && q2))) (V100 : Aside0 (relB 0 ⟨3, [a, b]⟩ ⟨3, [c, d]⟩ = (r0 && q0))) (V101 : Aside0 (relB 1 ⟨3, [a, b]⟩ ⟨3, [c, d]⟩ = (r1 && q1))) (V102 : Aside0 (relB 2 ⟨3, [a, b]⟩ ⟨3, [c, d]⟩ = (r2 && q2))) (L90 : Aside0 (relB 0 a c = p0)) (L91 : Aside0 (relB 1 a c = p1)) (L92 : Aside0 (relB 2 a c = p2)) (L100 : Aside0 (relB 0 c a = r0)) (L101 : Aside0 (relB 2 c a = r1)) (L102 : Aside0 (relB 1 c a = r2)) :
    Calls Try.prog 8 #[.agg #[.int .i8 a.f0, .slice A0 a.f1.length c0], .agg #[.int .i8 b.f0, .slice A1 b.f1.length c1], .agg #[.int .i8 c.f0, .slice A2 c.f1.length c2], .agg #[.int .i8 d.f0, .slice A3 d.f1.length c3]] w fun e w' => e = .returned (.bool true) ∧ Below w.heap.size w w' := by
  go_enter Try.func8, Try.ntmps8
  go_wp2_with fail
  refine (Small_calls (T0.out.below (below4 ..))).mono ?_
  rw [S0.out]
  rintro e w1 ⟨rfl, hB⟩
  obtain ⟨b1, b2, b3, b4, hB1⟩ := four_blocks hB
  have K1 := Aside0.mk b1
  have K2 := Aside0.mk b2
  have K3 := Aside0.mk b3
  have K4 := Aside0.mk b4
  have HB := Aside0.mk hB1
  replace T0 := Aside0.mk (IsT.below T0.out hB1)
  replace T1 := Aside0.mk (IsT.below T1.out hB1)
  replace T2 := Aside0.mk (IsT.below T2.out hB1)
  replace T3 := Aside0.mk (IsT.below T3.out hB1)
  clear hB hB1 b1 b2 b3 b4
  obtain ⟨e0, e1⟩ := c26_of K2.out (Below.refl _ _)
  have q := blk_lt K2.out
  go_wp2_with fail
  refine (Small_calls T1.out).mono ?_
  rw [S1.out]
  rintro e w2 ⟨rfl, hB⟩
  replace K1 := Aside0.mk (blk_below K1.out hB)
  replace K2 := Aside0.mk (blk_below K2.out hB)
  replace K3 := Aside0.mk (blk_below K3.out hB)
  replace K4 := Aside0.mk (blk_below K4.out hB)
  replace T0 := Aside0.mk (IsT.below T0.out hB)
  replace T1 := Aside0.mk (IsT.below T1.out hB)
  replace T2 := Aside0.mk (IsT.below T2.out hB)
  replace T3 := Aside0.mk (IsT.below T3.out hB)
  replace HB := Aside0.mk (below_then HB.out HB.out.size hB)
  clear hB e0 e1 q
  obtain ⟨e0, e1⟩ := c26_of K3.out (Below.refl _ _)
  have q := blk_lt K3.out
  go_wp2_with fail
  refine (Small_calls T2.out).mono ?_
  rw [S2.out]
  rintro e w3 ⟨rfl, hB⟩
  replace K1 := Aside0.mk (blk_below K1.out hB)
  replace K2 := Aside0.mk (blk_below K2.out hB)
  replace K3 := Aside0.mk (blk_below K3.out hB)
  replace K4 := Aside0.mk (blk_below K4.out hB)
  replace T0 := Aside0.mk (IsT.below T0.out hB)
  replace T1 := Aside0.mk (IsT.below T1.out hB)
  replace T2 := Aside0.mk (IsT.below T2.out hB)
  replace T3 := Aside0.mk (IsT.below T3.out hB)
  replace HB := Aside0.mk (below_then HB.out HB.out.size hB)
  clear hB e0 e1 q
  obtain ⟨e0, e1⟩ := c26_of K4.out (Below.refl _ _)
  have q := blk_lt K4.out
  go_wp2_with fail
  refine (Small_calls T3.out).mono ?_
  rw [S3.out]
  rintro e w4 ⟨rfl, hB⟩
  replace K1 := Aside0.mk (blk_below K1.out hB)
  replace K2 := Aside0.mk (blk_below K2.out hB)
  replace K3 := Aside0.mk (blk_below K3.out hB)
  replace K4 := Aside0.mk (blk_below K4.out hB)
  replace T0 := Aside0.mk (IsT.below T0.out hB)
  replace T1 := Aside0.mk (IsT.below T1.out hB)
  replace T2 := Aside0.mk (IsT.below T2.out hB)
  replace T3 := Aside0.mk (IsT.below T3.out hB)
  replace HB := Aside0.mk (below_then HB.out HB.out.size hB)
  clear hB e0 e1 q
  obtain ⟨e0, e1⟩ := c26_of K1.out (Below.refl _ _)
  have q := blk_lt K1.out
  obtain ⟨e2, e3⟩ := c26_of K2.out (Below.refl _ _)
  have q2 := blk_lt K2.out
  go_wp2_with fail
  refine (Of_calls T0.out T1.out).mono ?_
  rintro e w5 ⟨v0, rfl, ht, hB⟩
  obtain ⟨B0, d0, rfl, hl, hc⟩ := ht
  have T4 := Aside0.mk (IsT.mk (k := 4) hl hc)
  replace K1 := Aside0.mk (blk_below K1.out hB)
  replace K2 := Aside0.mk (blk_below K2.out hB)
  replace K3 := Aside0.mk (blk_below K3.out hB)
  replace K4 := Aside0.mk (blk_below K4.out hB)
  replace T0 := Aside0.mk (IsT.below T0.out hB)
  replace T1 := Aside0.mk (IsT.below T1.out hB)
  replace T2 := Aside0.mk (IsT.below T2.out hB)
  replace T3 := Aside0.mk (IsT.below T3.out hB)
  replace HB := Aside0.mk (below_then HB.out HB.out.size hB)
  clear hB hl hc e0 e1 e2 e3 q q2
  obtain ⟨e0, e1⟩ := c26_of K3.out (Below.refl _ _)
  have q := blk_lt K3.out
  obtain ⟨e2, e3⟩ := c26_of K4.out (Below.refl _ _)
  have q2 := blk_lt K4.out
  go_wp2_with fail
  have hW := below1 w5 #[.int .i8 4, .slice B0 2 d0] 26
  have K5 := Aside0.mk (heap_alloc_new w5 (.cells #[.int .i8 4, .slice B0 2 d0] 26))
  replace K1 := Aside0.mk (blk_below K1.out hW)
  replace K2 := Aside0.mk (blk_below K2.out hW)
  replace K3 := Aside0.mk (blk_below K3.out hW)
  replace K4 := Aside0.mk (blk_below K4.out hW)
  replace T0 := Aside0.mk (IsT.below T0.out hW)
  replace T1 := Aside0.mk (IsT.below T1.out hW)
  replace T2 := Aside0.mk (IsT.below T2.out hW)
  replace T3 := Aside0.mk (IsT.below T3.out hW)
  replace T4 := Aside0.mk (IsT.below T4.out hW)
  replace HB := Aside0.mk (below_then HB.out HB.out.size hW)
  clear hW
  refine (Of_calls T2.out T3.out).mono ?_
  rintro e w6 ⟨v1, rfl, ht, hB⟩
  obtain ⟨B1, d1, rfl, hl, hc⟩ := ht
  have T5 := Aside0.mk (IsT.mk (k := 4) hl hc)
  replace K1 := Aside0.mk (blk_below K1.out hB)
  replace K2 := Aside0.mk (blk_below K2.out hB)
  replace K3 := Aside0.mk (blk_below K3.out hB)
  replace K4 := Aside0.mk (blk_below K4.out hB)
  replace K5 := Aside0.mk (blk_below K5.out hB)
  replace T0 := Aside0.mk (IsT.below T0.out hB)
  replace T1 := Aside0.mk (IsT.below T1.out hB)
  replace T2 := Aside0.mk (IsT.below T2.out hB)
  replace T3 := Aside0.mk (IsT.below T3.out hB)
  replace T4 := Aside0.mk (IsT.below T4.out hB)
  replace HB := Aside0.mk (below_then HB.out HB.out.size hB)
  clear hB hl hc e0 e1 e2 e3 q q2
  generalize w5.heap.size = n5 at *
  obtain ⟨e0, e1⟩ := c26_of K1.out (Below.refl _ _)
  have q := blk_lt K1.out
  obtain ⟨e2, e3⟩ := c26_of K2.out (Below.refl _ _)
  have q2 := blk_lt K2.out
  go_wp2_with fail
  have hW := below1 w6 #[.int .i8 4, .slice B1 2 d1] 26
  have K6 := Aside0.mk (heap_alloc_new w6 (.cells #[.int .i8 4, .slice B1 2 d1] 26))
  replace K1 := Aside0.mk (blk_below K1.out hW)
  replace K2 := Aside0.mk (blk_below K2.out hW)
  replace K3 := Aside0.mk (blk_below K3.out hW)
  replace K4 := Aside0.mk (blk_below K4.out hW)
  replace K5 := Aside0.mk (blk_below K5.out hW)
  replace T0 := Aside0.mk (IsT.below T0.out hW)
  replace T1 := Aside0.mk (IsT.below T1.out hW)
  replace T2 := Aside0.mk (IsT.below T2.out hW)
  replace T3 := Aside0.mk (IsT.below T3.out hW)
  replace T4 := Aside0.mk (IsT.below T4.out hW)
  replace T5 := Aside0.mk (IsT.below T5.out hW)
  replace HB := Aside0.mk (below_then HB.out HB.out.size hW)
  clear hW
  refine (Of_calls T0.out T1.out).mono ?_
  rintro e w7 ⟨v2, rfl, ht, hB⟩
  obtain ⟨B2, d2, rfl, hl, hc⟩ := ht
  have T6 := Aside0.mk (IsT.mk (k := 3) hl hc)
  replace K1 := Aside0.mk (blk_below K1.out hB)
  replace K2 := Aside0.mk (blk_below K2.out hB)
  replace K3 := Aside0.mk (blk_below K3.out hB)
  replace K4 := Aside0.mk (blk_below K4.out hB)
  replace K5 := Aside0.mk (blk_below K5.out hB)
  replace K6 := Aside0.mk (blk_below K6.out hB)
  replace T0 := Aside0.mk (IsT.below T0.out hB)
  replace T1 := Aside0.mk (IsT.below T1.out hB)
  replace T2 := Aside0.mk (IsT.below T2.out hB)
  replace T3 := Aside0.mk (IsT.below T3.out hB)
  replace T4 := Aside0.mk (IsT.below T4.out hB)
  replace T5 := Aside0.mk (IsT.below T5.out hB)
  replace HB := Aside0.mk (below_then HB.out HB.out.size hB)
  clear hB hl hc e0 e1 e2 e3 q q2
  generalize w6.heap.size = n6 at *
  obtain ⟨e0, e1⟩ := c26_of K3.out (Below.refl _ _)
  have q := blk_lt K3.out
  obtain ⟨e2, e3⟩ := c26_of K4.out (Below.refl _ _)
  have q2 := blk_lt K4.out
  go_wp2_with fail
  have hW := below1 w7 #[.int .i8 3, .slice B2 2 d2] 26
  have K7 := Aside0.mk (heap_alloc_new w7 (.cells #[.int .i8 3, .slice B2 2 d2] 26))
  replace K1 := Aside0.mk (blk_below K1.out hW)
  replace K2 := Aside0.mk (blk_below K2.out hW)
  replace K3 := Aside0.mk (blk_below K3.out hW)
  replace K4 := Aside0.mk (blk_below K4.out hW)
  replace K5 := Aside0.mk (blk_below K5.out hW)
  replace K6 := Aside0.mk (blk_below K6.out hW)
  replace T0 := Aside0.mk (IsT.below T0.out hW)
  replace T1 := Aside0.mk (IsT.below T1.out hW)
  replace T2 := Aside0.mk (IsT.below T2.out hW)
  replace T3 := Aside0.mk (IsT.below T3.out hW)
  replace T4 := Aside0.mk (IsT.below T4.out hW)
  replace T5 := Aside0.mk (IsT.below T5.out hW)
  replace T6 := Aside0.mk (IsT.below T6.out hW)
  replace HB := Aside0.mk (below_then HB.out HB.out.size hW)
  clear hW
  refine (Of_calls T2.out T3.out).mono ?_
  rintro e w8 ⟨v3, rfl, ht, hB⟩
  obtain ⟨B3, d3, rfl, hl, hc⟩ := ht
  have T7 := Aside0.mk (IsT.mk (k := 3) hl hc)
  replace K1 := Aside0.mk (blk_below K1.out hB)
  replace K2 := Aside0.mk (blk_below K2.out hB)
  replace K3 := Aside0.mk (blk_below K3.out hB)
  replace K4 := Aside0.mk (blk_below K4.out hB)
  replace K5 := Aside0.mk (blk_below K5.out hB)
  replace K6 := Aside0.mk (blk_below K6.out hB)
  replace K7 := Aside0.mk (blk_below K7.out hB)
  replace T0 := Aside0.mk (IsT.below T0.out hB)
  replace T1 := Aside0.mk (IsT.below T1.out hB)
  replace T2 := Aside0.mk (IsT.below T2.out hB)
  replace T3 := Aside0.mk (IsT.below T3.out hB)
  replace T4 := Aside0.mk (IsT.below T4.out hB)
  replace T5 := Aside0.mk (IsT.below T5.out hB)
  replace T6 := Aside0.mk (IsT.below T6.out hB)
  replace HB := Aside0.mk (below_then HB.out HB.out.size hB)
  clear hB hl hc e0 e1 e2 e3 q q2
  generalize w7.heap.size = n7 at *
  have e70 : w8.cell? ⟨n7, 0, none⟩ = some (.int .i8 3) := (blk_cell K7.out 0).trans rfl
  have e71 : w8.cell? ⟨n7, 1, none⟩ = some (.slice B2 2 d2) := (blk_cell K7.out 1).trans rfl
  have q7 := blk_lt K7.out
  go_wp2_with fail
  have hW := below1 w8 #[.int .i8 3, .slice B3 2 d3] 26
  have K8 := Aside0.mk (heap_alloc_new w8 (.cells #[.int .i8 3, .slice B3 2 d3] 26))
  replace K1 := Aside0.mk (blk_below K1.out hW)
  replace K2 := Aside0.mk (blk_below K2.out hW)
  replace K3 := Aside0.mk (blk_below K3.out hW)
  replace K4 := Aside0.mk (blk_below K4.out hW)
  replace K5 := Aside0.mk (blk_below K5.out hW)
  replace K6 := Aside0.mk (blk_below K6.out hW)
  replace K7 := Aside0.mk (blk_below K7.out hW)
  replace T0 := Aside0.mk (IsT.below T0.out hW)
  replace T1 := Aside0.mk (IsT.below T1.out hW)
  replace T2 := Aside0.mk (IsT.below T2.out hW)
  replace T3 := Aside0.mk (IsT.below T3.out hW)
  replace T4 := Aside0.mk (IsT.below T4.out hW)
  replace T5 := Aside0.mk (IsT.below T5.out hW)
  replace T6 := Aside0.mk (IsT.below T6.out hW)
  replace T7 := Aside0.mk (IsT.below T7.out hW)
  replace HB := Aside0.mk (below_then HB.out HB.out.size hW)
  clear hW e70 e71 q7
  refine (Check_calls T6.out).mono ?_
  rw [CF.out]
  rintro e w9 ⟨rfl, hB⟩
  replace K1 := Aside0.mk (blk_below K1.out hB)
  replace K2 := Aside0.mk (blk_below K2.out hB)
  replace K3 := Aside0.mk (blk_below K3.out hB)
  replace K4 := Aside0.mk (blk_below K4.out hB)
  replace K5 := Aside0.mk (blk_below K5.out hB)
  replace K6 := Aside0.mk (blk_below K6.out hB)
  replace K7 := Aside0.mk (blk_below K7.out hB)
  replace K8 := Aside0.mk (blk_below K8.out hB)
  replace T0 := Aside0.mk (IsT.below T0.out hB)
  replace T1 := Aside0.mk (IsT.below T1.out hB)
  replace T2 := Aside0.mk (IsT.below T2.out hB)
  replace T3 := Aside0.mk (IsT.below T3.out hB)
  replace T4 := Aside0.mk (IsT.below T4.out hB)
  replace T5 := Aside0.mk (IsT.below T5.out hB)
  replace T6 := Aside0.mk (IsT.below T6.out hB)
  replace T7 := Aside0.mk (IsT.below T7.out hB)
  replace HB := Aside0.mk (below_then HB.out HB.out.size hB)
  clear hB
  generalize w8.heap.size = n8 at *
  have e80 : w9.cell? ⟨n8, 0, none⟩ = some (.int .i8 3) := (blk_cell K8.out 0).trans rfl
  have e81 : w9.cell? ⟨n8, 1, none⟩ = some (.slice B3 2 d3) := (blk_cell K8.out 1).trans rfl
  go_wp2_with fail
  refine (Check_calls T7.out).mono ?_
  rw [CG.out]
  rintro e w10 ⟨rfl, hB⟩
  replace K1 := Aside0.mk (blk_below K1.out hB)
  replace K2 := Aside0.mk (blk_below K2.out hB)
  replace K3 := Aside0.mk (blk_below K3.out hB)
  replace K4 := Aside0.mk (blk_below K4.out hB)
  replace K5 := Aside0.mk (blk_below K5.out hB)
  replace K6 := Aside0.mk (blk_below K6.out hB)
  replace K7 := Aside0.mk (blk_below K7.out hB)
  replace K8 := Aside0.mk (blk_below K8.out hB)
  replace T0 := Aside0.mk (IsT.below T0.out hB)
  replace T1 := Aside0.mk (IsT.below T1.out hB)
  replace T2 := Aside0.mk (IsT.below T2.out hB)
  replace T3 := Aside0.mk (IsT.below T3.out hB)
  replace T4 := Aside0.mk (IsT.below T4.out hB)
  replace T5 := Aside0.mk (IsT.below T5.out hB)
  replace T6 := Aside0.mk (IsT.below T6.out hB)
  replace T7 := Aside0.mk (IsT.below T7.out hB)
  replace HB := Aside0.mk (below_then HB.out HB.out.size hB)
  clear hB
  clear e80 e81
  go_wp2_with fail
  have OK := Aside0.mk (fun w' (h : Below w10.heap.size w10 w') => (⟨c26_of K1.out h, c26_of K2.out h, c26_of K3.out h, c26_of K4.out h, cK K5.out h, cK K6.out h, cK K7.out h, cK K8.out h⟩ : (w'.cell? ⟨w.heap.size, 0, none⟩ = some (.int .i8 a.f0) ∧ w'.cell? ⟨w.heap.size, 1, none⟩ = some (.slice A0 a.f1.length c0)) ∧ (w'.cell? ⟨(w.heap.size + 1), 0, none⟩ = some (.int .i8 b.f0) ∧ w'.cell? ⟨(w.heap.size + 1), 1, none⟩ = some (.slice A1 b.f1.length c1)) ∧ (w'.cell? ⟨(w.heap.size + 1 + 1), 0, none⟩ = some (.int .i8 c.f0) ∧ w'.cell? ⟨(w.heap.size + 1 + 1), 1, none⟩ = some (.slice A2 c.f1.length c2)) ∧ (w'.cell? ⟨(w.heap.size + 1 + 1 + 1), 0, none⟩ = some (.int .i8 d.f0) ∧ w'.cell? ⟨(w.heap.size + 1 + 1 + 1), 1, none⟩ = some (.slice A3 d.f1.length c3)) ∧ (w'.cell? ⟨n5, 0, none⟩ = some (.int .i8 4) ∧ w'.cell? ⟨n5, 1, none⟩ = some (.slice B0 2 d0)) ∧ (w'.cell? ⟨n6, 0, none⟩ = some (.int .i8 4) ∧ w'.cell? ⟨n6, 1, none⟩ = some (.slice B1 2 d1)) ∧ (w'.cell? ⟨n7, 0, none⟩ = some (.int .i8 3) ∧ w'.cell? ⟨n7, 1, none⟩ = some (.slice B2 2 d2)) ∧ (w'.cell? ⟨n8, 0, none⟩ = some (.int .i8 3) ∧ w'.cell? ⟨n8, 1, none⟩ = some (.slice B3 2 d3))))
  have HBW := Aside0.mk (Below.refl w10.heap.size w10)
  refine wp_region_held_drew (S := (fun w' => (w'.cell? ⟨w.heap.size, 0, none⟩ = some (.int .i8 a.f0) ∧ w'.cell? ⟨w.heap.size, 1, none⟩ = some (.slice A0 a.f1.length c0)) ∧ (w'.cell? ⟨(w.heap.size + 1), 0, none⟩ = some (.int .i8 b.f0) ∧ w'.cell? ⟨(w.heap.size + 1), 1, none⟩ = some (.slice A1 b.f1.length c1)) ∧ (w'.cell? ⟨(w.heap.size + 1 + 1), 0, none⟩ = some (.int .i8 c.f0) ∧ w'.cell? ⟨(w.heap.size + 1 + 1), 1, none⟩ = some (.slice A2 c.f1.length c2)) ∧ (w'.cell? ⟨(w.heap.size + 1 + 1 + 1), 0, none⟩ = some (.int .i8 d.f0) ∧ w'.cell? ⟨(w.heap.size + 1 + 1 + 1), 1, none⟩ = some (.slice A3 d.f1.length c3)) ∧ (w'.cell? ⟨n5, 0, none⟩ = some (.int .i8 4) ∧ w'.cell? ⟨n5, 1, none⟩ = some (.slice B0 2 d0)) ∧ (w'.cell? ⟨n6, 0, none⟩ = some (.int .i8 4) ∧ w'.cell? ⟨n6, 1, none⟩ = some (.slice B1 2 d1)) ∧ (w'.cell? ⟨n7, 0, none⟩ = some (.int .i8 3) ∧ w'.cell? ⟨n7, 1, none⟩ = some (.slice B2 2 d2)) ∧ (w'.cell? ⟨n8, 0, none⟩ = some (.int .i8 3) ∧ w'.cell? ⟨n8, 1, none⟩ = some (.slice B3 2 d3)))) (by kernel_rfl) (OK.out _ HBW.out.drew) (fun hHeld => ?_)
  refine takeH (d := some 66) (v := ?_) 0 rfl rfl (by kernel_rfl) (by kernel_rfl) (by kernel_rfl) (fun _ _ _ h => h) (by rfl) ?_ hHeld ?_
  rotate_left
  · intro w hSw
    try dsimp only at hSw
    go_simp <;> with_reducible rfl
  try simp only [Act.put, List.setIfInBounds_toArray, List.set_cons_zero, List.set_cons_succ]
  refine takeH (d := some 67) (v := ?_) 1 rfl rfl (by kernel_rfl) (by kernel_rfl) (by kernel_rfl) (fun _ _ _ h => h) (by rfl) ?_ hHeld ?_
  rotate_left
  · intro w hSw
    try dsimp only at hSw
    go_simp <;> with_reducible rfl
  try simp only [Act.put, List.setIfInBounds_toArray, List.set_cons_zero, List.set_cons_succ]
  refine takeH (d := some 69) (v := ?_) 3 rfl rfl (by kernel_rfl) (by kernel_rfl) (by kernel_rfl) (fun _ _ _ h => h) (by rfl) ?_ hHeld ?_
  rotate_left
  · intro w hSw
    try dsimp only at hSw
    go_simp <;> with_reducible rfl
  try simp only [Act.put, List.setIfInBounds_toArray, List.set_cons_zero, List.set_cons_succ]
  refine takeH (d := some 70) (v := ?_) 4 rfl rfl (by kernel_rfl) (by kernel_rfl) (by kernel_rfl) (fun _ _ _ h => h) (by rfl) ?_ hHeld ?_
  rotate_left
  · intro w hSw
    try dsimp only at hSw
    go_simp <;> with_reducible rfl
  try simp only [Act.put, List.setIfInBounds_toArray, List.set_cons_zero, List.set_cons_succ]
  refine callH (d := some 68) 2 rfl rfl (by kernel_rfl) (by rfl) (by kernel_rfl) (Below_calls ((T4).out.below HBW.out.drew) ((T5).out.below HBW.out.drew)) ?_
  rw [(V90).out]
  rintro e x1 ⟨rfl, hB⟩
  have H1 := Aside0.mk (below_then HBW.out.drew (HBW.out.drew).size hB)
  clear hB
  refine ⟨_, rfl, OK.out _ H1.out, fun hHeld => ?_⟩
  try simp only [Act.put, List.setIfInBounds_toArray, List.set_cons_zero, List.set_cons_succ]
  refine callH (d := some 71) 5 rfl rfl (by kernel_rfl) (by rfl) (by kernel_rfl) (Below_calls ((T0).out.below H1.out) ((T2).out.below H1.out)) ?_
  rw [(L90).out]
  rintro e x2 ⟨rfl, hB⟩
  have H2 := Aside0.mk (below_then H1.out (H1.out).size hB)
  clear hB
  refine ⟨_, rfl, OK.out _ H2.out, fun hHeld => ?_⟩
  try simp only [Act.put, List.setIfInBounds_toArray, List.set_cons_zero, List.set_cons_succ]
  refine takeH (d := some 72) (v := ?_) 6 rfl rfl (by kernel_rfl) (by kernel_rfl) (by kernel_rfl) (fun _ _ _ h => h) (by rfl) ?_ hHeld ?_
  rotate_left
  · intro w hSw
    try dsimp only at hSw
    go_simp <;> with_reducible rfl
  try simp only [Act.put, List.setIfInBounds_toArray, List.set_cons_zero, List.set_cons_succ]
  refine takeCH (d := some 73) (v := ?_) p0 7 rfl rfl (by kernel_rfl) (by kernel_rfl) (by kernel_rfl) (fun _ _ _ h => h) (by cases p0 <;> rfl) ?_ hHeld ?_
  rotate_left
  · intro hp w hSw
    try dsimp only at hSw
    go_simp <;> with_reducible rfl
  try simp only [Act.put, List.setIfInBounds_toArray, List.set_cons_zero, List.set_cons_succ]
  refine takeCH (d := some 74) (v := ?_) p0 8 rfl rfl (by kernel_rfl) (by kernel_rfl) (by kernel_rfl) (fun _ _ _ h => h) (by cases p0 <;> rfl) ?_ hHeld ?_
  rotate_left
  · intro hp w hSw
    try dsimp only at hSw
    go_simp <;> with_reducible rfl
  try simp only [Act.put, List.setIfInBounds_toArray, List.set_cons_zero, List.set_cons_succ]
  refine callCH (d := some 75) (v := .bool q0) (T := fun w' => Below w10.heap.size w10 w') p0 9 rfl rfl (by kernel_rfl) (by cases p0 <;> rfl) (fun hp => by subst hp; kernel_rfl) (H2.out) ((Below_calls ((T1).out.below H2.out) ((T3).out.below H2.out)).mono fun e w' h => ⟨h.1.trans (by rw [(Y0).out]), below_then (H2.out) (H2.out).size h.2⟩) ?_
  intro x3 hB
  have H3 := Aside0.mk hB
  clear hB
  refine ⟨OK.out _ H3.out, fun hHeld => ?_⟩
  try simp only [Act.put, List.setIfInBounds_toArray, List.set_cons_zero, List.set_cons_succ]
  refine takeH (d := some 76) (v := .bool (p0 && q0)) 10 rfl rfl (by kernel_rfl) (by kernel_rfl) (by kernel_rfl) (fun _ _ _ h => h) (by rfl) (fun w hSw => by cases p0 <;> rfl) hHeld ?_
  try simp only [Act.put, List.setIfInBounds_toArray, List.set_cons_zero, List.set_cons_succ]
  refine takeH (d := some 77) (v := ?_) 11 rfl rfl (by kernel_rfl) (by kernel_rfl) (by kernel_rfl) (fun _ _ _ h => h) (by rfl) ?_ hHeld ?_
  rotate_left
  · intro w hSw
    try dsimp only at hSw
    go_simp <;> with_reducible rfl
  try simp only [Act.put, List.setIfInBounds_toArray, List.set_cons_zero, List.set_cons_succ]
  refine takeH (d := some 78) (v := ?_) 12 rfl rfl (by kernel_rfl) (by kernel_rfl) (by kernel_rfl) (fun _ _ _ h => h) (by rfl) ?_ hHeld ?_
  rotate_left
  · intro w hSw
    try dsimp only at hSw
    go_simp <;> with_reducible rfl
  try simp only [Act.put, List.setIfInBounds_toArray, List.set_cons_zero, List.set_cons_succ]
  refine takeH (d := some 79) (v := ?_) 13 rfl rfl (by kernel_rfl) (by kernel_rfl) (by kernel_rfl) (fun _ _ _ h => h) (by rfl) ?_ hHeld ?_
  rotate_left
  · intro w hSw
    try dsimp only at hSw
    go_simp <;> with_reducible rfl
  try simp only [Act.put, List.setIfInBounds_toArray, List.set_cons_zero, List.set_cons_succ]
  refine takeH (d := some 80) (v := ?_) 14 rfl rfl (by kernel_rfl) (by kernel_rfl) (by kernel_rfl) (fun _ _ _ h => h) (by rfl) ?_ hHeld ?_
  rotate_left
  · intro w hSw
    try dsimp only at hSw
    go_simp <;> with_reducible rfl
  try simp only [Act.put, List.setIfInBounds_toArray, List.set_cons_zero, List.set_cons_succ]
  refine takeH (d := some 82) (v := ?_) 16 rfl rfl (by kernel_rfl) (by kernel_rfl) (by kernel_rfl) (fun _ _ _ h => h) (by rfl) ?_ hHeld ?_
  rotate_left
  · intro w hSw
    try dsimp only at hSw
    go_simp <;> with_reducible rfl
  try simp only [Act.put, List.setIfInBounds_toArray, List.set_cons_zero, List.set_cons_succ]
  refine takeH (d := some 83) (v := ?_) 17 rfl rfl (by kernel_rfl) (by kernel_rfl) (by kernel_rfl) (fun _ _ _ h => h) (by rfl) ?_ hHeld ?_
  rotate_left
  · intro w hSw
    try dsimp only at hSw
    go_simp <;> with_reducible rfl
  try simp only [Act.put, List.setIfInBounds_toArray, List.set_cons_zero, List.set_cons_succ]
  refine callH (d := some 81) 15 rfl rfl (by kernel_rfl) (by rfl) (by kernel_rfl) (Pos_calls ((T4).out.below H3.out) ((T5).out.below H3.out)) ?_
  rw [(V91).out]
  rintro e x4 ⟨rfl, hB⟩
  have H4 := Aside0.mk (below_then H3.out (H3.out).size hB)
  clear hB
  refine ⟨_, rfl, OK.out _ H4.out, fun hHeld => ?_⟩
  try simp only [Act.put, List.setIfInBounds_toArray, List.set_cons_zero, List.set_cons_succ]
  refine callH (d := some 84) 18 rfl rfl (by kernel_rfl) (by rfl) (by kernel_rfl) (Pos_calls ((T0).out.below H4.out) ((T2).out.below H4.out)) ?_
  rw [(L91).out]
  rintro e x5 ⟨rfl, hB⟩
  have H5 := Aside0.mk (below_then H4.out (H4.out).size hB)
  clear hB
  refine ⟨_, rfl, OK.out _ H5.out, fun hHeld => ?_⟩
  try simp only [Act.put, List.setIfInBounds_toArray, List.set_cons_zero, List.set_cons_succ]
  refine takeH (d := some 85) (v := ?_) 19 rfl rfl (by kernel_rfl) (by kernel_rfl) (by kernel_rfl) (fun _ _ _ h => h) (by rfl) ?_ hHeld ?_
  rotate_left
  · intro w hSw
    try dsimp only at hSw
    go_simp <;> with_reducible rfl
  try simp only [Act.put, List.setIfInBounds_toArray, List.set_cons_zero, List.set_cons_succ]
  refine takeCH (d := some 86) (v := ?_) p1 20 rfl rfl (by kernel_rfl) (by kernel_rfl) (by kernel_rfl) (fun _ _ _ h => h) (by cases p1 <;> rfl) ?_ hHeld ?_
  rotate_left
  · intro hp w hSw
    try dsimp only at hSw
    go_simp <;> with_reducible rfl
  try simp only [Act.put, List.setIfInBounds_toArray, List.set_cons_zero, List.set_cons_succ]
  refine takeCH (d := some 87) (v := ?_) p1 21 rfl rfl (by kernel_rfl) (by kernel_rfl) (by kernel_rfl) (fun _ _ _ h => h) (by cases p1 <;> rfl) ?_ hHeld ?_
  rotate_left
  · intro hp w hSw
    try dsimp only at hSw
    go_simp <;> with_reducible rfl
  try simp only [Act.put, List.setIfInBounds_toArray, List.set_cons_zero, List.set_cons_succ]
  refine callCH (d := some 88) (v := .bool q1) (T := fun w' => Below w10.heap.size w10 w') p1 22 rfl rfl (by kernel_rfl) (by cases p1 <;> rfl) (fun hp => by subst hp; kernel_rfl) (H5.out) ((Pos_calls ((T1).out.below H5.out) ((T3).out.below H5.out)).mono fun e w' h => ⟨h.1.trans (by rw [(Y1).out]), below_then (H5.out) (H5.out).size h.2⟩) ?_
  intro x6 hB
  have H6 := Aside0.mk hB
  clear hB
  refine ⟨OK.out _ H6.out, fun hHeld => ?_⟩
  try simp only [Act.put, List.setIfInBounds_toArray, List.set_cons_zero, List.set_cons_succ]
  refine takeH (d := some 89) (v := .bool (p1 && q1)) 23 rfl rfl (by kernel_rfl) (by kernel_rfl) (by kernel_rfl) (fun _ _ _ h => h) (by rfl) (fun w hSw => by cases p1 <;> rfl) hHeld ?_
  try simp only [Act.put, List.setIfInBounds_toArray, List.set_cons_zero, List.set_cons_succ]
  refine takeH (d := some 90) (v := ?_) 24 rfl rfl (by kernel_rfl) (by kernel_rfl) (by kernel_rfl) (fun _ _ _ h => h) (by rfl) ?_ hHeld ?_
  rotate_left
  · intro w hSw
    try dsimp only at hSw
    go_simp <;> with_reducible rfl
  try simp only [Act.put, List.setIfInBounds_toArray, List.set_cons_zero, List.set_cons_succ]
  refine takeH (d := some 91) (v := ?_) 25 rfl rfl (by kernel_rfl) (by kernel_rfl) (by kernel_rfl) (fun _ _ _ h => h) (by rfl) ?_ hHeld ?_
  rotate_left
  · intro w hSw
    try dsimp only at hSw
    go_simp <;> with_reducible rfl
  try simp only [Act.put, List.setIfInBounds_toArray, List.set_cons_zero, List.set_cons_succ]
  refine takeH (d := some 92) (v := ?_) 26 rfl rfl (by kernel_rfl) (by kernel_rfl) (by kernel_rfl) (fun _ _ _ h => h) (by rfl) ?_ hHeld ?_
  rotate_left
  · intro w hSw
    try dsimp only at hSw
    go_simp <;> with_reducible rfl
  try simp only [Act.put, List.setIfInBounds_toArray, List.set_cons_zero, List.set_cons_succ]
  refine takeH (d := some 93) (v := ?_) 27 rfl rfl (by kernel_rfl) (by kernel_rfl) (by kernel_rfl) (fun _ _ _ h => h) (by rfl) ?_ hHeld ?_
  rotate_left
  · intro w hSw
    try dsimp only at hSw
    go_simp <;> with_reducible rfl
  try simp only [Act.put, List.setIfInBounds_toArray, List.set_cons_zero, List.set_cons_succ]
  refine takeH (d := some 94) (v := ?_) 28 rfl rfl (by kernel_rfl) (by kernel_rfl) (by kernel_rfl) (fun _ _ _ h => h) (by rfl) ?_ hHeld ?_
  rotate_left
  · intro w hSw
    try dsimp only at hSw
    go_simp <;> with_reducible rfl
  try simp only [Act.put, List.setIfInBounds_toArray, List.set_cons_zero, List.set_cons_succ]
  refine takeH (d := some 96) (v := ?_) 30 rfl rfl (by kernel_rfl) (by kernel_rfl) (by kernel_rfl) (fun _ _ _ h => h) (by rfl) ?_ hHeld ?_
  rotate_left
  · intro w hSw
    try dsimp only at hSw
    go_simp <;> with_reducible rfl
  try simp only [Act.put, List.setIfInBounds_toArray, List.set_cons_zero, List.set_cons_succ]
  refine takeH (d := some 97) (v := ?_) 31 rfl rfl (by kernel_rfl) (by kernel_rfl) (by kernel_rfl) (fun _ _ _ h => h) (by rfl) ?_ hHeld ?_
  rotate_left
  · intro w hSw
    try dsimp only at hSw
    go_simp <;> with_reducible rfl
  try simp only [Act.put, List.setIfInBounds_toArray, List.set_cons_zero, List.set_cons_succ]
  refine callH (d := some 95) 29 rfl rfl (by kernel_rfl) (by rfl) (by kernel_rfl) (Neg_calls ((T4).out.below H6.out) ((T5).out.below H6.out)) ?_
  rw [(V92).out]
  rintro e x7 ⟨rfl, hB⟩
  have H7 := Aside0.mk (below_then H6.out (H6.out).size hB)
  clear hB
  refine ⟨_, rfl, OK.out _ H7.out, fun hHeld => ?_⟩
  try simp only [Act.put, List.setIfInBounds_toArray, List.set_cons_zero, List.set_cons_succ]
  refine callH (d := some 98) 32 rfl rfl (by kernel_rfl) (by rfl) (by kernel_rfl) (Neg_calls ((T0).out.below H7.out) ((T2).out.below H7.out)) ?_
  rw [(L92).out]
  rintro e x8 ⟨rfl, hB⟩
  have H8 := Aside0.mk (below_then H7.out (H7.out).size hB)
  clear hB
  refine ⟨_, rfl, OK.out _ H8.out, fun hHeld => ?_⟩
  try simp only [Act.put, List.setIfInBounds_toArray, List.set_cons_zero, List.set_cons_succ]
  refine takeH (d := some 99) (v := ?_) 33 rfl rfl (by kernel_rfl) (by kernel_rfl) (by kernel_rfl) (fun _ _ _ h => h) (by rfl) ?_ hHeld ?_
  rotate_left
  · intro w hSw
    try dsimp only at hSw
    go_simp <;> with_reducible rfl
  try simp only [Act.put, List.setIfInBounds_toArray, List.set_cons_zero, List.set_cons_succ]
  refine takeCH (d := some 100) (v := ?_) p2 34 rfl rfl (by kernel_rfl) (by kernel_rfl) (by kernel_rfl) (fun _ _ _ h => h) (by cases p2 <;> rfl) ?_ hHeld ?_
  rotate_left
  · intro hp w hSw
    try dsimp only at hSw
    go_simp <;> with_reducible rfl
  try simp only [Act.put, List.setIfInBounds_toArray, List.set_cons_zero, List.set_cons_succ]
  refine takeCH (d := some 101) (v := ?_) p2 35 rfl rfl (by kernel_rfl) (by kernel_rfl) (by kernel_rfl) (fun _ _ _ h => h) (by cases p2 <;> rfl) ?_ hHeld ?_
  rotate_left
  · intro hp w hSw
    try dsimp only at hSw
    go_simp <;> with_reducible rfl
  try simp only [Act.put, List.setIfInBounds_toArray, List.set_cons_zero, List.set_cons_succ]
  refine callCH (d := some 102) (v := .bool q2) (T := fun w' => Below w10.heap.size w10 w') p2 36 rfl rfl (by kernel_rfl) (by cases p2 <;> rfl) (fun hp => by subst hp; kernel_rfl) (H8.out) ((Neg_calls ((T1).out.below H8.out) ((T3).out.below H8.out)).mono fun e w' h => ⟨h.1.trans (by rw [(Y2).out]), below_then (H8.out) (H8.out).size h.2⟩) ?_
  intro x9 hB
  have H9 := Aside0.mk hB
  clear hB
  refine ⟨OK.out _ H9.out, fun hHeld => ?_⟩
  try simp only [Act.put, List.setIfInBounds_toArray, List.set_cons_zero, List.set_cons_succ]
  refine takeH (d := some 103) (v := .bool (p2 && q2)) 37 rfl rfl (by kernel_rfl) (by kernel_rfl) (by kernel_rfl) (fun _ _ _ h => h) (by rfl) (fun w hSw => by cases p2 <;> rfl) hHeld ?_
  try simp only [Act.put, List.setIfInBounds_toArray, List.set_cons_zero, List.set_cons_succ]
  refine takeH (d := some 104) (v := ?_) 38 rfl rfl (by kernel_rfl) (by kernel_rfl) (by kernel_rfl) (fun _ _ _ h => h) (by rfl) ?_ hHeld ?_
  rotate_left
  · intro w hSw
    try dsimp only at hSw
    go_simp <;> with_reducible rfl
  try simp only [Act.put, List.setIfInBounds_toArray, List.set_cons_zero, List.set_cons_succ]
  refine takeH (d := some 105) (v := ?_) 39 rfl rfl (by kernel_rfl) (by kernel_rfl) (by kernel_rfl) (fun _ _ _ h => h) (by rfl) ?_ hHeld ?_
  rotate_left
  · intro w hSw
    try dsimp only at hSw
    go_simp <;> with_reducible rfl
  try simp only [Act.put, List.setIfInBounds_toArray, List.set_cons_zero, List.set_cons_succ]
  refine takeH (d := some 13) (v := ?_) 40 rfl rfl (by kernel_rfl) (by kernel_rfl) (by kernel_rfl) (fun _ _ _ h => h) (by rfl) ?_ hHeld ?_
  rotate_left
  · intro w hSw
    try dsimp only at hSw
    go_simp <;> with_reducible rfl
  try simp only [Act.put, List.setIfInBounds_toArray, List.set_cons_zero, List.set_cons_succ]
  refine wpAnyH_done (by kernel_rfl) ?_ _
  go_wp2_with fail
  replace K1 := Aside0.mk (blk_below K1.out H9.out)
  replace K2 := Aside0.mk (blk_below K2.out H9.out)
  replace K3 := Aside0.mk (blk_below K3.out H9.out)
  replace K4 := Aside0.mk (blk_below K4.out H9.out)
  replace K5 := Aside0.mk (blk_below K5.out H9.out)
  replace K6 := Aside0.mk (blk_below K6.out H9.out)
  replace K7 := Aside0.mk (blk_below K7.out H9.out)
  replace K8 := Aside0.mk (blk_below K8.out H9.out)
  replace T0 := Aside0.mk (IsT.below T0.out H9.out)
  replace T1 := Aside0.mk (IsT.below T1.out H9.out)
  replace T2 := Aside0.mk (IsT.below T2.out H9.out)
  replace T3 := Aside0.mk (IsT.below T3.out H9.out)
  replace T4 := Aside0.mk (IsT.below T4.out H9.out)
  replace T5 := Aside0.mk (IsT.below T5.out H9.out)
  replace T6 := Aside0.mk (IsT.below T6.out H9.out)
  replace T7 := Aside0.mk (IsT.below T7.out H9.out)
  replace HB := Aside0.mk (below_then HB.out HB.out.size H9.out)
  clear OK HBW H1 H2 H3 H4 H5 H6 H7 H8 H9
  have OK := Aside0.mk (fun w' (h : Below x9.heap.size x9 w') => (⟨c26_of K1.out h, c26_of K2.out h, c26_of K3.out h, c26_of K4.out h, cK K5.out h, cK K6.out h, cK K7.out h, cK K8.out h⟩ : (w'.cell? ⟨w.heap.size, 0, none⟩ = some (.int .i8 a.f0) ∧ w'.cell? ⟨w.heap.size, 1, none⟩ = some (.slice A0 a.f1.length c0)) ∧ (w'.cell? ⟨(w.heap.size + 1), 0, none⟩ = some (.int .i8 b.f0) ∧ w'.cell? ⟨(w.heap.size + 1), 1, none⟩ = some (.slice A1 b.f1.length c1)) ∧ (w'.cell? ⟨(w.heap.size + 1 + 1), 0, none⟩ = some (.int .i8 c.f0) ∧ w'.cell? ⟨(w.heap.size + 1 + 1), 1, none⟩ = some (.slice A2 c.f1.length c2)) ∧ (w'.cell? ⟨(w.heap.size + 1 + 1 + 1), 0, none⟩ = some (.int .i8 d.f0) ∧ w'.cell? ⟨(w.heap.size + 1 + 1 + 1), 1, none⟩ = some (.slice A3 d.f1.length c3)) ∧ (w'.cell? ⟨n5, 0, none⟩ = some (.int .i8 4) ∧ w'.cell? ⟨n5, 1, none⟩ = some (.slice B0 2 d0)) ∧ (w'.cell? ⟨n6, 0, none⟩ = some (.int .i8 4) ∧ w'.cell? ⟨n6, 1, none⟩ = some (.slice B1 2 d1)) ∧ (w'.cell? ⟨n7, 0, none⟩ = some (.int .i8 3) ∧ w'.cell? ⟨n7, 1, none⟩ = some (.slice B2 2 d2)) ∧ (w'.cell? ⟨n8, 0, none⟩ = some (.int .i8 3) ∧ w'.cell? ⟨n8, 1, none⟩ = some (.slice B3 2 d3))))
  have HBW := Aside0.mk (Below.refl x9.heap.size x9)
  refine wp_region_held_drew (S := (fun w' => (w'.cell? ⟨w.heap.size, 0, none⟩ = some (.int .i8 a.f0) ∧ w'.cell? ⟨w.heap.size, 1, none⟩ = some (.slice A0 a.f1.length c0)) ∧ (w'.cell? ⟨(w.heap.size + 1), 0, none⟩ = some (.int .i8 b.f0) ∧ w'.cell? ⟨(w.heap.size + 1), 1, none⟩ = some (.slice A1 b.f1.length c1)) ∧ (w'.cell? ⟨(w.heap.size + 1 + 1), 0, none⟩ = some (.int .i8 c.f0) ∧ w'.cell? ⟨(w.heap.size + 1 + 1), 1, none⟩ = some (.slice A2 c.f1.length c2)) ∧ (w'.cell? ⟨(w.heap.size + 1 + 1 + 1), 0, none⟩ = some (.int .i8 d.f0) ∧ w'.cell? ⟨(w.heap.size + 1 + 1 + 1), 1, none⟩ = some (.slice A3 d.f1.length c3)) ∧ (w'.cell? ⟨n5, 0, none⟩ = some (.int .i8 4) ∧ w'.cell? ⟨n5, 1, none⟩ = some (.slice B0 2 d0)) ∧ (w'.cell? ⟨n6, 0, none⟩ = some (.int .i8 4) ∧ w'.cell? ⟨n6, 1, none⟩ = some (.slice B1 2 d1)) ∧ (w'.cell? ⟨n7, 0, none⟩ = some (.int .i8 3) ∧ w'.cell? ⟨n7, 1, none⟩ = some (.slice B2 2 d2)) ∧ (w'.cell? ⟨n8, 0, none⟩ = some (.int .i8 3) ∧ w'.cell? ⟨n8, 1, none⟩ = some (.slice B3 2 d3)))) (by kernel_rfl) (OK.out _ HBW.out.drew) (fun hHeld => ?_)
  refine takeH (d := some 106) (v := ?_) 0 rfl rfl (by kernel_rfl) (by kernel_rfl) (by kernel_rfl) (fun _ _ _ h => h) (by rfl) ?_ hHeld ?_
  rotate_left
  · intro w hSw
    try dsimp only at hSw
    go_simp <;> with_reducible rfl
  try simp only [Act.put, List.setIfInBounds_toArray, List.set_cons_zero, List.set_cons_succ]
  refine takeH (d := some 107) (v := ?_) 1 rfl rfl (by kernel_rfl) (by kernel_rfl) (by kernel_rfl) (fun _ _ _ h => h) (by rfl) ?_ hHeld ?_
  rotate_left
  · intro w hSw
    try dsimp only at hSw
    go_simp <;> with_reducible rfl
  try simp only [Act.put, List.setIfInBounds_toArray, List.set_cons_zero, List.set_cons_succ]
  refine takeH (d := some 108) (v := ?_) 2 rfl rfl (by kernel_rfl) (by kernel_rfl) (by kernel_rfl) (fun _ _ _ h => h) (by rfl) ?_ hHeld ?_
  rotate_left
  · intro w hSw
    try dsimp only at hSw
    go_simp <;> with_reducible rfl
  try simp only [Act.put, List.setIfInBounds_toArray, List.set_cons_zero, List.set_cons_succ]
  refine takeH (d := some 109) (v := ?_) 3 rfl rfl (by kernel_rfl) (by kernel_rfl) (by kernel_rfl) (fun _ _ _ h => h) (by rfl) ?_ hHeld ?_
  rotate_left
  · intro w hSw
    try dsimp only at hSw
    go_simp <;> with_reducible rfl
  try simp only [Act.put, List.setIfInBounds_toArray, List.set_cons_zero, List.set_cons_succ]
  refine takeH (d := some 111) (v := ?_) 5 rfl rfl (by kernel_rfl) (by kernel_rfl) (by kernel_rfl) (fun _ _ _ h => h) (by rfl) ?_ hHeld ?_
  rotate_left
  · intro w hSw
    try dsimp only at hSw
    go_simp <;> with_reducible rfl
  try simp only [Act.put, List.setIfInBounds_toArray, List.set_cons_zero, List.set_cons_succ]
  refine takeH (d := some 112) (v := ?_) 6 rfl rfl (by kernel_rfl) (by kernel_rfl) (by kernel_rfl) (fun _ _ _ h => h) (by rfl) ?_ hHeld ?_
  rotate_left
  · intro w hSw
    try dsimp only at hSw
    go_simp <;> with_reducible rfl
  try simp only [Act.put, List.setIfInBounds_toArray, List.set_cons_zero, List.set_cons_succ]
  refine callH (d := some 110) 4 rfl rfl (by kernel_rfl) (by rfl) (by kernel_rfl) (Below_calls ((T6).out.below HBW.out.drew) ((T7).out.below HBW.out.drew)) ?_
  rw [(V100).out]
  rintro e y1 ⟨rfl, hB⟩
  have H1 := Aside0.mk (below_then HBW.out.drew (HBW.out.drew).size hB)
  clear hB
  refine ⟨_, rfl, OK.out _ H1.out, fun hHeld => ?_⟩
  try simp only [Act.put, List.setIfInBounds_toArray, List.set_cons_zero, List.set_cons_succ]
  refine callH (d := some 113) 7 rfl rfl (by kernel_rfl) (by rfl) (by kernel_rfl) (Below_calls ((T2).out.below H1.out) ((T0).out.below H1.out)) ?_
  rw [(L100).out]
  rintro e y2 ⟨rfl, hB⟩
  have H2 := Aside0.mk (below_then H1.out (H1.out).size hB)
  clear hB
  refine ⟨_, rfl, OK.out _ H2.out, fun hHeld => ?_⟩
  try simp only [Act.put, List.setIfInBounds_toArray, List.set_cons_zero, List.set_cons_succ]
  refine takeH (d := some 114) (v := ?_) 8 rfl rfl (by kernel_rfl) (by kernel_rfl) (by kernel_rfl) (fun _ _ _ h => h) (by rfl) ?_ hHeld ?_
  rotate_left
  · intro w hSw
    try dsimp only at hSw
    go_simp <;> with_reducible rfl
  try simp only [Act.put, List.setIfInBounds_toArray, List.set_cons_zero, List.set_cons_succ]
  refine takeCH (d := some 115) (v := ?_) r0 9 rfl rfl (by kernel_rfl) (by kernel_rfl) (by kernel_rfl) (fun _ _ _ h => h) (by cases r0 <;> rfl) ?_ hHeld ?_
  rotate_left
  · intro hp w hSw
    try dsimp only at hSw
    go_simp <;> with_reducible rfl
  try simp only [Act.put, List.setIfInBounds_toArray, List.set_cons_zero, List.set_cons_succ]
  refine takeCH (d := some 116) (v := ?_) r0 10 rfl rfl (by kernel_rfl) (by kernel_rfl) (by kernel_rfl) (fun _ _ _ h => h) (by cases r0 <;> rfl) ?_ hHeld ?_
  rotate_left
  · intro hp w hSw
    try dsimp only at hSw
    go_simp <;> with_reducible rfl
  try simp only [Act.put, List.setIfInBounds_toArray, List.set_cons_zero, List.set_cons_succ]
  refine callCH (d := some 117) (v := .bool q0) (T := fun w' => Below x9.heap.size x9 w') r0 11 rfl rfl (by kernel_rfl) (by cases r0 <;> rfl) (fun hp => by subst hp; kernel_rfl) (H2.out) ((Below_calls ((T1).out.below H2.out) ((T3).out.below H2.out)).mono fun e w' h => ⟨h.1.trans (by rw [(Y0).out]), below_then (H2.out) (H2.out).size h.2⟩) ?_
  intro y3 hB
  have H3 := Aside0.mk hB
  clear hB
  refine ⟨OK.out _ H3.out, fun hHeld => ?_⟩
  try simp only [Act.put, List.setIfInBounds_toArray, List.set_cons_zero, List.set_cons_succ]
  refine takeH (d := some 118) (v := .bool (r0 && q0)) 12 rfl rfl (by kernel_rfl) (by kernel_rfl) (by kernel_rfl) (fun _ _ _ h => h) (by rfl) (fun w hSw => by cases r0 <;> rfl) hHeld ?_
  try simp only [Act.put, List.setIfInBounds_toArray, List.set_cons_zero, List.set_cons_succ]
  refine takeH (d := some 119) (v := ?_) 13 rfl rfl (by kernel_rfl) (by kernel_rfl) (by kernel_rfl) (fun _ _ _ h => h) (by rfl) ?_ hHeld ?_
  rotate_left
  · intro w hSw
    try dsimp only at hSw
    go_simp <;> with_reducible rfl
  try simp only [Act.put, List.setIfInBounds_toArray, List.set_cons_zero, List.set_cons_succ]
  refine takeH (d := some 120) (v := ?_) 14 rfl rfl (by kernel_rfl) (by kernel_rfl) (by kernel_rfl) (fun _ _ _ h => h) (by rfl) ?_ hHeld ?_
  rotate_left
  · intro w hSw
    try dsimp only at hSw
    go_simp <;> with_reducible rfl
  try simp only [Act.put, List.setIfInBounds_toArray, List.set_cons_zero, List.set_cons_succ]
  refine takeH (d := some 121) (v := ?_) 15 rfl rfl (by kernel_rfl) (by kernel_rfl) (by kernel_rfl) (fun _ _ _ h => h) (by rfl) ?_ hHeld ?_
  rotate_left
  · intro w hSw
    try dsimp only at hSw
    go_simp <;> with_reducible rfl
  try simp only [Act.put, List.setIfInBounds_toArray, List.set_cons_zero, List.set_cons_succ]
  refine takeH (d := some 122) (v := ?_) 16 rfl rfl (by kernel_rfl) (by kernel_rfl) (by kernel_rfl) (fun _ _ _ h => h) (by rfl) ?_ hHeld ?_
  rotate_left
  · intro w hSw
    try dsimp only at hSw
    go_simp <;> with_reducible rfl
  try simp only [Act.put, List.setIfInBounds_toArray, List.set_cons_zero, List.set_cons_succ]
  refine takeH (d := some 123) (v := ?_) 17 rfl rfl (by kernel_rfl) (by kernel_rfl) (by kernel_rfl) (fun _ _ _ h => h) (by rfl) ?_ hHeld ?_
  rotate_left
  · intro w hSw
    try dsimp only at hSw
    go_simp <;> with_reducible rfl
  try simp only [Act.put, List.setIfInBounds_toArray, List.set_cons_zero, List.set_cons_succ]
  refine takeH (d := some 125) (v := ?_) 19 rfl rfl (by kernel_rfl) (by kernel_rfl) (by kernel_rfl) (fun _ _ _ h => h) (by rfl) ?_ hHeld ?_
  rotate_left
  · intro w hSw
    try dsimp only at hSw
    go_simp <;> with_reducible rfl
  try simp only [Act.put, List.setIfInBounds_toArray, List.set_cons_zero, List.set_cons_succ]
  refine takeH (d := some 126) (v := ?_) 20 rfl rfl (by kernel_rfl) (by kernel_rfl) (by kernel_rfl) (fun _ _ _ h => h) (by rfl) ?_ hHeld ?_
  rotate_left
  · intro w hSw
    try dsimp only at hSw
    go_simp <;> with_reducible rfl
  try simp only [Act.put, List.setIfInBounds_toArray, List.set_cons_zero, List.set_cons_succ]
  refine callH (d := some 124) 18 rfl rfl (by kernel_rfl) (by rfl) (by kernel_rfl) (Pos_calls ((T6).out.below H3.out) ((T7).out.below H3.out)) ?_
  rw [(V101).out]
  rintro e y4 ⟨rfl, hB⟩
  have H4 := Aside0.mk (below_then H3.out (H3.out).size hB)
  clear hB
  refine ⟨_, rfl, OK.out _ H4.out, fun hHeld => ?_⟩
  try simp only [Act.put, List.setIfInBounds_toArray, List.set_cons_zero, List.set_cons_succ]
  refine callH (d := some 127) 21 rfl rfl (by kernel_rfl) (by rfl) (by kernel_rfl) (Neg_calls ((T2).out.below H4.out) ((T0).out.below H4.out)) ?_
  rw [(L101).out]
  rintro e y5 ⟨rfl, hB⟩
  have H5 := Aside0.mk (below_then H4.out (H4.out).size hB)
  clear hB
  refine ⟨_, rfl, OK.out _ H5.out, fun hHeld => ?_⟩
  try simp only [Act.put, List.setIfInBounds_toArray, List.set_cons_zero, List.set_cons_succ]
  refine takeH (d := some 128) (v := ?_) 22 rfl rfl (by kernel_rfl) (by kernel_rfl) (by kernel_rfl) (fun _ _ _ h => h) (by rfl) ?_ hHeld ?_
  rotate_left
  · intro w hSw
    try dsimp only at hSw
    go_simp <;> with_reducible rfl
  try simp only [Act.put, List.setIfInBounds_toArray, List.set_cons_zero, List.set_cons_succ]
  refine takeCH (d := some 129) (v := ?_) r1 23 rfl rfl (by kernel_rfl) (by kernel_rfl) (by kernel_rfl) (fun _ _ _ h => h) (by cases r1 <;> rfl) ?_ hHeld ?_
  rotate_left
  · intro hp w hSw
    try dsimp only at hSw
    go_simp <;> with_reducible rfl
  try simp only [Act.put, List.setIfInBounds_toArray, List.set_cons_zero, List.set_cons_succ]
  refine takeCH (d := some 130) (v := ?_) r1 24 rfl rfl (by kernel_rfl) (by kernel_rfl) (by kernel_rfl) (fun _ _ _ h => h) (by cases r1 <;> rfl) ?_ hHeld ?_
  rotate_left
  · intro hp w hSw
    try dsimp only at hSw
    go_simp <;> with_reducible rfl
  try simp only [Act.put, List.setIfInBounds_toArray, List.set_cons_zero, List.set_cons_succ]
  refine callCH (d := some 131) (v := .bool q1) (T := fun w' => Below x9.heap.size x9 w') r1 25 rfl rfl (by kernel_rfl) (by cases r1 <;> rfl) (fun hp => by subst hp; kernel_rfl) (H5.out) ((Pos_calls ((T1).out.below H5.out) ((T3).out.below H5.out)).mono fun e w' h => ⟨h.1.trans (by rw [(Y1).out]), below_then (H5.out) (H5.out).size h.2⟩) ?_
  intro y6 hB
  have H6 := Aside0.mk hB
  clear hB
  refine ⟨OK.out _ H6.out, fun hHeld => ?_⟩
  try simp only [Act.put, List.setIfInBounds_toArray, List.set_cons_zero, List.set_cons_succ]
  refine takeH (d := some 132) (v := .bool (r1 && q1)) 26 rfl rfl (by kernel_rfl) (by kernel_rfl) (by kernel_rfl) (fun _ _ _ h => h) (by rfl) (fun w hSw => by cases r1 <;> rfl) hHeld ?_
  try simp only [Act.put, List.setIfInBounds_toArray, List.set_cons_zero, List.set_cons_succ]
  refine takeH (d := some 133) (v := ?_) 27 rfl rfl (by kernel_rfl) (by kernel_rfl) (by kernel_rfl) (fun _ _ _ h => h) (by rfl) ?_ hHeld ?_
  rotate_left
  · intro w hSw
    try dsimp only at hSw
    go_simp <;> with_reducible rfl
  try simp only [Act.put, List.setIfInBounds_toArray, List.set_cons_zero, List.set_cons_succ]
  refine takeH (d := some 134) (v := ?_) 28 rfl rfl (by kernel_rfl) (by kernel_rfl) (by kernel_rfl) (fun _ _ _ h => h) (by rfl) ?_ hHeld ?_
  rotate_left
  · intro w hSw
    try dsimp only at hSw
    go_simp <;> with_reducible rfl
  try simp only [Act.put, List.setIfInBounds_toArray, List.set_cons_zero, List.set_cons_succ]
  refine takeH (d := some 135) (v := ?_) 29 rfl rfl (by kernel_rfl) (by kernel_rfl) (by kernel_rfl) (fun _ _ _ h => h) (by rfl) ?_ hHeld ?_
  rotate_left
  · intro w hSw
    try dsimp only at hSw
    go_simp <;> with_reducible rfl
  try simp only [Act.put, List.setIfInBounds_toArray, List.set_cons_zero, List.set_cons_succ]
  refine takeH (d := some 136) (v := ?_) 30 rfl rfl (by kernel_rfl) (by kernel_rfl) (by kernel_rfl) (fun _ _ _ h => h) (by rfl) ?_ hHeld ?_
  rotate_left
  · intro w hSw
    try dsimp only at hSw
    go_simp <;> with_reducible rfl
  try simp only [Act.put, List.setIfInBounds_toArray, List.set_cons_zero, List.set_cons_succ]
  refine takeH (d := some 137) (v := ?_) 31 rfl rfl (by kernel_rfl) (by kernel_rfl) (by kernel_rfl) (fun _ _ _ h => h) (by rfl) ?_ hHeld ?_
  rotate_left
  · intro w hSw
    try dsimp only at hSw
    go_simp <;> with_reducible rfl
  try simp only [Act.put, List.setIfInBounds_toArray, List.set_cons_zero, List.set_cons_succ]
  refine takeH (d := some 139) (v := ?_) 33 rfl rfl (by kernel_rfl) (by kernel_rfl) (by kernel_rfl) (fun _ _ _ h => h) (by rfl) ?_ hHeld ?_
  rotate_left
  · intro w hSw
    try dsimp only at hSw
    go_simp <;> with_reducible rfl
  try simp only [Act.put, List.setIfInBounds_toArray, List.set_cons_zero, List.set_cons_succ]
  refine takeH (d := some 140) (v := ?_) 34 rfl rfl (by kernel_rfl) (by kernel_rfl) (by kernel_rfl) (fun _ _ _ h => h) (by rfl) ?_ hHeld ?_
  rotate_left
  · intro w hSw
    try dsimp only at hSw
    go_simp <;> with_reducible rfl
  try simp only [Act.put, List.setIfInBounds_toArray, List.set_cons_zero, List.set_cons_succ]
  refine callH (d := some 138) 32 rfl rfl (by kernel_rfl) (by rfl) (by kernel_rfl) (Neg_calls ((T6).out.below H6.out) ((T7).out.below H6.out)) ?_
  rw [(V102).out]
  rintro e y7 ⟨rfl, hB⟩
  have H7 := Aside0.mk (below_then H6.out (H6.out).size hB)
  clear hB
  refine ⟨_, rfl, OK.out _ H7.out, fun hHeld => ?_⟩
  try simp only [Act.put, List.setIfInBounds_toArray, List.set_cons_zero, List.set_cons_succ]
  refine callH (d := some 141) 35 rfl rfl (by kernel_rfl) (by rfl) (by kernel_rfl) (Pos_calls ((T2).out.below H7.out) ((T0).out.below H7.out)) ?_
  rw [(L102).out]
  rintro e y8 ⟨rfl, hB⟩
  have H8 := Aside0.mk (below_then H7.out (H7.out).size hB)
  clear hB
  refine ⟨_, rfl, OK.out _ H8.out, fun hHeld => ?_⟩
  try simp only [Act.put, List.setIfInBounds_toArray, List.set_cons_zero, List.set_cons_succ]
  refine takeH (d := some 142) (v := ?_) 36 rfl rfl (by kernel_rfl) (by kernel_rfl) (by kernel_rfl) (fun _ _ _ h => h) (by rfl) ?_ hHeld ?_
  rotate_left
  · intro w hSw
    try dsimp only at hSw
    go_simp <;> with_reducible rfl
  try simp only [Act.put, List.setIfInBounds_toArray, List.set_cons_zero, List.set_cons_succ]
  refine takeCH (d := some 143) (v := ?_) r2 37 rfl rfl (by kernel_rfl) (by kernel_rfl) (by kernel_rfl) (fun _ _ _ h => h) (by cases r2 <;> rfl) ?_ hHeld ?_
  rotate_left
  · intro hp w hSw
    try dsimp only at hSw
    go_simp <;> with_reducible rfl
  try simp only [Act.put, List.setIfInBounds_toArray, List.set_cons_zero, List.set_cons_succ]
  refine takeCH (d := some 144) (v := ?_) r2 38 rfl rfl (by kernel_rfl) (by kernel_rfl) (by kernel_rfl) (fun _ _ _ h => h) (by cases r2 <;> rfl) ?_ hHeld ?_
  rotate_left
  · intro hp w hSw
    try dsimp only at hSw
    go_simp <;> with_reducible rfl
  try simp only [Act.put, List.setIfInBounds_toArray, List.set_cons_zero, List.set_cons_succ]
  refine callCH (d := some 145) (v := .bool q2) (T := fun w' => Below x9.heap.size x9 w') r2 39 rfl rfl (by kernel_rfl) (by cases r2 <;> rfl) (fun hp => by subst hp; kernel_rfl) (H8.out) ((Neg_calls ((T1).out.below H8.out) ((T3).out.below H8.out)).mono fun e w' h => ⟨h.1.trans (by rw [(Y2).out]), below_then (H8.out) (H8.out).size h.2⟩) ?_
  intro y9 hB
  have H9 := Aside0.mk hB
  clear hB
  refine ⟨OK.out _ H9.out, fun hHeld => ?_⟩
  try simp only [Act.put, List.setIfInBounds_toArray, List.set_cons_zero, List.set_cons_succ]
  refine takeH (d := some 146) (v := .bool (r2 && q2)) 40 rfl rfl (by kernel_rfl) (by kernel_rfl) (by kernel_rfl) (fun _ _ _ h => h) (by rfl) (fun w hSw => by cases r2 <;> rfl) hHeld ?_
  try simp only [Act.put, List.setIfInBounds_toArray, List.set_cons_zero, List.set_cons_succ]
  refine takeH (d := some 147) (v := ?_) 41 rfl rfl (by kernel_rfl) (by kernel_rfl) (by kernel_rfl) (fun _ _ _ h => h) (by rfl) ?_ hHeld ?_
  rotate_left
  · intro w hSw
    try dsimp only at hSw
    go_simp <;> with_reducible rfl
  try simp only [Act.put, List.setIfInBounds_toArray, List.set_cons_zero, List.set_cons_succ]
  refine takeH (d := some 148) (v := ?_) 42 rfl rfl (by kernel_rfl) (by kernel_rfl) (by kernel_rfl) (fun _ _ _ h => h) (by rfl) ?_ hHeld ?_
  rotate_left
  · intro w hSw
    try dsimp only at hSw
    go_simp <;> with_reducible rfl
  try simp only [Act.put, List.setIfInBounds_toArray, List.set_cons_zero, List.set_cons_succ]
  refine takeH (d := some 149) (v := ?_) 43 rfl rfl (by kernel_rfl) (by kernel_rfl) (by kernel_rfl) (fun _ _ _ h => h) (by rfl) ?_ hHeld ?_
  rotate_left
  · intro w hSw
    try dsimp only at hSw
    go_simp <;> with_reducible rfl
  try simp only [Act.put, List.setIfInBounds_toArray, List.set_cons_zero, List.set_cons_succ]
  refine callH (d := some 150) 44 rfl rfl (by kernel_rfl) (by rfl) (by kernel_rfl) (wakes8_calls _) ?_
  rintro e y10 ⟨rfl, hB⟩
  have H10 := Aside0.mk (below_then H9.out (H9.out).size hB)
  clear hB
  refine ⟨_, rfl, OK.out _ H10.out, fun hHeld => ?_⟩
  try simp only [Act.put, List.setIfInBounds_toArray, List.set_cons_zero, List.set_cons_succ]
  refine takeH (d := some 151) (v := ?_) 45 rfl rfl (by kernel_rfl) (by kernel_rfl) (by kernel_rfl) (fun _ _ _ h => h) (by rfl) ?_ hHeld ?_
  rotate_left
  · intro w hSw
    try dsimp only at hSw
    go_simp <;> with_reducible rfl
  try simp only [Act.put, List.setIfInBounds_toArray, List.set_cons_zero, List.set_cons_succ]
  refine takeH (d := some 8) (v := ?_) 46 rfl rfl (by kernel_rfl) (by kernel_rfl) (by kernel_rfl) (fun _ _ _ h => h) (by rfl) ?_ hHeld ?_
  rotate_left
  · intro w hSw
    try dsimp only at hSw
    go_simp <;> with_reducible rfl
  try simp only [Act.put, List.setIfInBounds_toArray, List.set_cons_zero, List.set_cons_succ]
  refine wpAnyH_done (by kernel_rfl) ?_ _
  go_wp2_with fail
  go_ret
  exact ⟨rfl, below_then HB.out HB.out.size H10.out⟩
end Go.Proofs.Ytamhdpllmhafhaa.X
