/- The walk of the law BelowUp: where a type is not small, and where one is none. -/
import Derived.Test.YtamhdpllmhafhaaHWakes8
import Derived.Test.YtamhdpllmhafhaaHSmall
import Derived.Test.YtamhdpllmhafhaaPureBelow2
namespace Go.Proofs.Ytamhdpllmhafhaa.X
open Go.RowKit Go.Proofs.YtamhdpllmhafhaaW.PrintWords Go.Proofs.YtamhdpllmhafhaaW.PrintLast Go.Proofs.YtamhdpllmhafhaaW.PrintMore
set_option linter.unusedVariables false
set_option linter.unusedSimpArgs false

theorem below4 (w : World) (a b c d : Array Value) (ta tb tc td : TypeId) : Below w.heap.size w ((((w.alloc (.cells a ta)).alloc (.cells b tb)).alloc (.cells c tc)).alloc (.cells d td)) := ((((Below.refl _ _).alloc (Nat.le_refl _) _).alloc (by simp) _).alloc (by simp; omega) _).alloc (by simp; omega) _
theorem four_blocks {w : World} {a b c d : Array Value} {ta tb tc td : TypeId} {w1 : World} (hB : Below ((((w.alloc (.cells a ta)).alloc (.cells b tb)).alloc (.cells c tc)).alloc (.cells d td)).heap.size ((((w.alloc (.cells a ta)).alloc (.cells b tb)).alloc (.cells c tc)).alloc (.cells d td)) w1) :
    w1.heap[w.heap.size]? = some (.cells a ta (0, 0)) ∧ w1.heap[w.heap.size + 1]? = some (.cells b tb (0, 0)) ∧ w1.heap[w.heap.size + 1 + 1]? = some (.cells c tc (0, 0)) ∧ w1.heap[w.heap.size + 1 + 1 + 1]? = some (.cells d td (0, 0)) ∧ Below w.heap.size w w1 := by
  have h1 := heap_alloc_new w (.cells a ta)
  have h2 := heap_alloc_new (w.alloc (.cells a ta)) (.cells b tb)
  have h3 := heap_alloc_new ((w.alloc (.cells a ta)).alloc (.cells b tb)) (.cells c tc)
  have h4 := heap_alloc_new (((w.alloc (.cells a ta)).alloc (.cells b tb)).alloc (.cells c tc)) (.cells d td)
  have hb := below4 w a b c d ta tb tc td
  refine ⟨blk_below (blk_alloc (blk_alloc (blk_alloc h1 _) _) _) hB, blk_below (blk_alloc (blk_alloc (by simpa using h2) _) _) hB, blk_below (blk_alloc (by simpa using h3) _) hB, blk_below (by simpa using h4) hB, below_then hb hb.size hB⟩
set_option maxRecDepth 100000 in
set_option maxHeartbeats 3200000 in
theorem up_small0 (a b c d : S26) (w : World) (A0 : Option Addr) (c0 : Nat) (A1 : Option Addr) (c1 : Nat) (A2 : Option Addr) (c2 : Nat) (A3 : Option Addr) (c3 : Nat) (T0 : Aside0 (IsT w (.agg #[.int .i8 a.f0, .slice A0 a.f1.length c0]) a)) (T1 : Aside0 (IsT w (.agg #[.int .i8 b.f0, .slice A1 b.f1.length c1]) b)) (T2 : Aside0 (IsT w (.agg #[.int .i8 c.f0, .slice A2 c.f1.length c2]) c)) (T3 : Aside0 (IsT w (.agg #[.int .i8 d.f0, .slice A3 d.f1.length c3]) d)) (S0 : Aside0 (smallB a = false)):
    Calls Try.prog 8 #[.agg #[.int .i8 a.f0, .slice A0 a.f1.length c0], .agg #[.int .i8 b.f0, .slice A1 b.f1.length c1], .agg #[.int .i8 c.f0, .slice A2 c.f1.length c2], .agg #[.int .i8 d.f0, .slice A3 d.f1.length c3]] w fun e w' => e = .returned (.bool true) ∧ Below w.heap.size w w' := by
  go_enter Try.func8, Try.ntmps8
  go_wp2_with fail
  refine (Small_calls (T0.out.below (below4 ..))).mono ?_
  rw [S0.out]
  rintro e w1 ⟨rfl, hB⟩
  obtain ⟨b1, b2, b3, b4, hB1⟩ := four_blocks hB
  have K1 := Aside0.mk b1
  have K2 := Aside0.mk b2
  have K3 := Aside0.mk b3
  have K4 := Aside0.mk b4
  have HB := Aside0.mk hB1
  replace T0 := Aside0.mk (IsT.below T0.out hB1)
  replace T1 := Aside0.mk (IsT.below T1.out hB1)
  replace T2 := Aside0.mk (IsT.below T2.out hB1)
  replace T3 := Aside0.mk (IsT.below T3.out hB1)
  clear hB hB1 b1 b2 b3 b4
  go_wp2_with fail
  refine (wakes8_calls _).mono ?_
  rintro e wE ⟨rfl, hB⟩
  replace HB := Aside0.mk (below_then HB.out HB.out.size hB)
  clear hB
  go_wp2_with fail
  go_ret
  exact ⟨rfl, HB.out⟩
set_option maxRecDepth 100000 in
set_option maxHeartbeats 3200000 in
theorem up_small1 (a b c d : S26) (w : World) (A0 : Option Addr) (c0 : Nat) (A1 : Option Addr) (c1 : Nat) (A2 : Option Addr) (c2 : Nat) (A3 : Option Addr) (c3 : Nat) (T0 : Aside0 (IsT w (.agg #[.int .i8 a.f0, .slice A0 a.f1.length c0]) a)) (T1 : Aside0 (IsT w (.agg #[.int .i8 b.f0, .slice A1 b.f1.length c1]) b)) (T2 : Aside0 (IsT w (.agg #[.int .i8 c.f0, .slice A2 c.f1.length c2]) c)) (T3 : Aside0 (IsT w (.agg #[.int .i8 d.f0, .slice A3 d.f1.length c3]) d)) (S0 : Aside0 (smallB a = true)) (S1 : Aside0 (smallB b = false)):
    Calls Try.prog 8 #[.agg #[.int .i8 a.f0, .slice A0 a.f1.length c0], .agg #[.int .i8 b.f0, .slice A1 b.f1.length c1], .agg #[.int .i8 c.f0, .slice A2 c.f1.length c2], .agg #[.int .i8 d.f0, .slice A3 d.f1.length c3]] w fun e w' => e = .returned (.bool true) ∧ Below w.heap.size w w' := by
  go_enter Try.func8, Try.ntmps8
  go_wp2_with fail
  refine (Small_calls (T0.out.below (below4 ..))).mono ?_
  rw [S0.out]
  rintro e w1 ⟨rfl, hB⟩
  obtain ⟨b1, b2, b3, b4, hB1⟩ := four_blocks hB
  have K1 := Aside0.mk b1
  have K2 := Aside0.mk b2
  have K3 := Aside0.mk b3
  have K4 := Aside0.mk b4
  have HB := Aside0.mk hB1
  replace T0 := Aside0.mk (IsT.below T0.out hB1)
  replace T1 := Aside0.mk (IsT.below T1.out hB1)
  replace T2 := Aside0.mk (IsT.below T2.out hB1)
  replace T3 := Aside0.mk (IsT.below T3.out hB1)
  clear hB hB1 b1 b2 b3 b4
  obtain ⟨e0, e1⟩ := c26_of K2.out (Below.refl _ _)
  have q := blk_lt K2.out
  go_wp2_with fail
  refine (Small_calls T1.out).mono ?_
  rw [S1.out]
  rintro e w2 ⟨rfl, hB⟩
  replace K1 := Aside0.mk (blk_below K1.out hB)
  replace K2 := Aside0.mk (blk_below K2.out hB)
  replace K3 := Aside0.mk (blk_below K3.out hB)
  replace K4 := Aside0.mk (blk_below K4.out hB)
  replace T0 := Aside0.mk (IsT.below T0.out hB)
  replace T1 := Aside0.mk (IsT.below T1.out hB)
  replace T2 := Aside0.mk (IsT.below T2.out hB)
  replace T3 := Aside0.mk (IsT.below T3.out hB)
  replace HB := Aside0.mk (below_then HB.out HB.out.size hB)
  clear hB e0 e1 q
  go_wp2_with fail
  refine (wakes8_calls _).mono ?_
  rintro e wE ⟨rfl, hB⟩
  replace HB := Aside0.mk (below_then HB.out HB.out.size hB)
  clear hB
  go_wp2_with fail
  go_ret
  exact ⟨rfl, HB.out⟩
set_option maxRecDepth 100000 in
set_option maxHeartbeats 3200000 in
theorem up_small2 (a b c d : S26) (w : World) (A0 : Option Addr) (c0 : Nat) (A1 : Option Addr) (c1 : Nat) (A2 : Option Addr) (c2 : Nat) (A3 : Option Addr) (c3 : Nat) (T0 : Aside0 (IsT w (.agg #[.int .i8 a.f0, .slice A0 a.f1.length c0]) a)) (T1 : Aside0 (IsT w (.agg #[.int .i8 b.f0, .slice A1 b.f1.length c1]) b)) (T2 : Aside0 (IsT w (.agg #[.int .i8 c.f0, .slice A2 c.f1.length c2]) c)) (T3 : Aside0 (IsT w (.agg #[.int .i8 d.f0, .slice A3 d.f1.length c3]) d)) (S0 : Aside0 (smallB a = true)) (S1 : Aside0 (smallB b = true)) (S2 : Aside0 (smallB c = false)):
    Calls Try.prog 8 #[.agg #[.int .i8 a.f0, .slice A0 a.f1.length c0], .agg #[.int .i8 b.f0, .slice A1 b.f1.length c1], .agg #[.int .i8 c.f0, .slice A2 c.f1.length c2], .agg #[.int .i8 d.f0, .slice A3 d.f1.length c3]] w fun e w' => e = .returned (.bool true) ∧ Below w.heap.size w w' := by
  go_enter Try.func8, Try.ntmps8
  go_wp2_with fail
  refine (Small_calls (T0.out.below (below4 ..))).mono ?_
  rw [S0.out]
  rintro e w1 ⟨rfl, hB⟩
  obtain ⟨b1, b2, b3, b4, hB1⟩ := four_blocks hB
  have K1 := Aside0.mk b1
  have K2 := Aside0.mk b2
  have K3 := Aside0.mk b3
  have K4 := Aside0.mk b4
  have HB := Aside0.mk hB1
  replace T0 := Aside0.mk (IsT.below T0.out hB1)
  replace T1 := Aside0.mk (IsT.below T1.out hB1)
  replace T2 := Aside0.mk (IsT.below T2.out hB1)
  replace T3 := Aside0.mk (IsT.below T3.out hB1)
  clear hB hB1 b1 b2 b3 b4
  obtain ⟨e0, e1⟩ := c26_of K2.out (Below.refl _ _)
  have q := blk_lt K2.out
  go_wp2_with fail
  refine (Small_calls T1.out).mono ?_
  rw [S1.out]
  rintro e w2 ⟨rfl, hB⟩
  replace K1 := Aside0.mk (blk_below K1.out hB)
  replace K2 := Aside0.mk (blk_below K2.out hB)
  replace K3 := Aside0.mk (blk_below K3.out hB)
  replace K4 := Aside0.mk (blk_below K4.out hB)
  replace T0 := Aside0.mk (IsT.below T0.out hB)
  replace T1 := Aside0.mk (IsT.below T1.out hB)
  replace T2 := Aside0.mk (IsT.below T2.out hB)
  replace T3 := Aside0.mk (IsT.below T3.out hB)
  replace HB := Aside0.mk (below_then HB.out HB.out.size hB)
  clear hB e0 e1 q
  obtain ⟨e0, e1⟩ := c26_of K3.out (Below.refl _ _)
  have q := blk_lt K3.out
  go_wp2_with fail
  refine (Small_calls T2.out).mono ?_
  rw [S2.out]
  rintro e w3 ⟨rfl, hB⟩
  replace K1 := Aside0.mk (blk_below K1.out hB)
  replace K2 := Aside0.mk (blk_below K2.out hB)
  replace K3 := Aside0.mk (blk_below K3.out hB)
  replace K4 := Aside0.mk (blk_below K4.out hB)
  replace T0 := Aside0.mk (IsT.below T0.out hB)
  replace T1 := Aside0.mk (IsT.below T1.out hB)
  replace T2 := Aside0.mk (IsT.below T2.out hB)
  replace T3 := Aside0.mk (IsT.below T3.out hB)
  replace HB := Aside0.mk (below_then HB.out HB.out.size hB)
  clear hB e0 e1 q
  go_wp2_with fail
  refine (wakes8_calls _).mono ?_
  rintro e wE ⟨rfl, hB⟩
  replace HB := Aside0.mk (below_then HB.out HB.out.size hB)
  clear hB
  go_wp2_with fail
  go_ret
  exact ⟨rfl, HB.out⟩
set_option maxRecDepth 100000 in
set_option maxHeartbeats 3200000 in
theorem up_small3 (a b c d : S26) (w : World) (A0 : Option Addr) (c0 : Nat) (A1 : Option Addr) (c1 : Nat) (A2 : Option Addr) (c2 : Nat) (A3 : Option Addr) (c3 : Nat) (T0 : Aside0 (IsT w (.agg #[.int .i8 a.f0, .slice A0 a.f1.length c0]) a)) (T1 : Aside0 (IsT w (.agg #[.int .i8 b.f0, .slice A1 b.f1.length c1]) b)) (T2 : Aside0 (IsT w (.agg #[.int .i8 c.f0, .slice A2 c.f1.length c2]) c)) (T3 : Aside0 (IsT w (.agg #[.int .i8 d.f0, .slice A3 d.f1.length c3]) d)) (S0 : Aside0 (smallB a = true)) (S1 : Aside0 (smallB b = true)) (S2 : Aside0 (smallB c = true)) (S3 : Aside0 (smallB d = false)):
    Calls Try.prog 8 #[.agg #[.int .i8 a.f0, .slice A0 a.f1.length c0], .agg #[.int .i8 b.f0, .slice A1 b.f1.length c1], .agg #[.int .i8 c.f0, .slice A2 c.f1.length c2], .agg #[.int .i8 d.f0, .slice A3 d.f1.length c3]] w fun e w' => e = .returned (.bool true) ∧ Below w.heap.size w w' := by
  go_enter Try.func8, Try.ntmps8
  go_wp2_with fail
  refine (Small_calls (T0.out.below (below4 ..))).mono ?_
  rw [S0.out]
  rintro e w1 ⟨rfl, hB⟩
  obtain ⟨b1, b2, b3, b4, hB1⟩ := four_blocks hB
  have K1 := Aside0.mk b1
  have K2 := Aside0.mk b2
  have K3 := Aside0.mk b3
  have K4 := Aside0.mk b4
  have HB := Aside0.mk hB1
  replace T0 := Aside0.mk (IsT.below T0.out hB1)
  replace T1 := Aside0.mk (IsT.below T1.out hB1)
  replace T2 := Aside0.mk (IsT.below T2.out hB1)
  replace T3 := Aside0.mk (IsT.below T3.out hB1)
  clear hB hB1 b1 b2 b3 b4
  obtain ⟨e0, e1⟩ := c26_of K2.out (Below.refl _ _)
  have q := blk_lt K2.out
  go_wp2_with fail
  refine (Small_calls T1.out).mono ?_
  rw [S1.out]
  rintro e w2 ⟨rfl, hB⟩
  replace K1 := Aside0.mk (blk_below K1.out hB)
  replace K2 := Aside0.mk (blk_below K2.out hB)
  replace K3 := Aside0.mk (blk_below K3.out hB)
  replace K4 := Aside0.mk (blk_below K4.out hB)
  replace T0 := Aside0.mk (IsT.below T0.out hB)
  replace T1 := Aside0.mk (IsT.below T1.out hB)
  replace T2 := Aside0.mk (IsT.below T2.out hB)
  replace T3 := Aside0.mk (IsT.below T3.out hB)
  replace HB := Aside0.mk (below_then HB.out HB.out.size hB)
  clear hB e0 e1 q
  obtain ⟨e0, e1⟩ := c26_of K3.out (Below.refl _ _)
  have q := blk_lt K3.out
  go_wp2_with fail
  refine (Small_calls T2.out).mono ?_
  rw [S2.out]
  rintro e w3 ⟨rfl, hB⟩
  replace K1 := Aside0.mk (blk_below K1.out hB)
  replace K2 := Aside0.mk (blk_below K2.out hB)
  replace K3 := Aside0.mk (blk_below K3.out hB)
  replace K4 := Aside0.mk (blk_below K4.out hB)
  replace T0 := Aside0.mk (IsT.below T0.out hB)
  replace T1 := Aside0.mk (IsT.below T1.out hB)
  replace T2 := Aside0.mk (IsT.below T2.out hB)
  replace T3 := Aside0.mk (IsT.below T3.out hB)
  replace HB := Aside0.mk (below_then HB.out HB.out.size hB)
  clear hB e0 e1 q
  obtain ⟨e0, e1⟩ := c26_of K4.out (Below.refl _ _)
  have q := blk_lt K4.out
  go_wp2_with fail
  refine (Small_calls T3.out).mono ?_
  rw [S3.out]
  rintro e w4 ⟨rfl, hB⟩
  replace K1 := Aside0.mk (blk_below K1.out hB)
  replace K2 := Aside0.mk (blk_below K2.out hB)
  replace K3 := Aside0.mk (blk_below K3.out hB)
  replace K4 := Aside0.mk (blk_below K4.out hB)
  replace T0 := Aside0.mk (IsT.below T0.out hB)
  replace T1 := Aside0.mk (IsT.below T1.out hB)
  replace T2 := Aside0.mk (IsT.below T2.out hB)
  replace T3 := Aside0.mk (IsT.below T3.out hB)
  replace HB := Aside0.mk (below_then HB.out HB.out.size hB)
  clear hB e0 e1 q
  go_wp2_with fail
  refine (wakes8_calls _).mono ?_
  rintro e wE ⟨rfl, hB⟩
  replace HB := Aside0.mk (below_then HB.out HB.out.size hB)
  clear hB
  go_wp2_with fail
  go_ret
  exact ⟨rfl, HB.out⟩
set_option maxRecDepth 100000 in
set_option maxHeartbeats 6400000 in
theorem up_wrong0 (a b c d : S26) (w : World) (A0 : Option Addr) (c0 : Nat) (A1 : Option Addr) (c1 : Nat) (A2 : Option Addr) (c2 : Nat) (A3 : Option Addr) (c3 : Nat) (T0 : Aside0 (IsT w (.agg #[.int .i8 a.f0, .slice A0 a.f1.length c0]) a)) (T1 : Aside0 (IsT w (.agg #[.int .i8 b.f0, .slice A1 b.f1.length c1]) b)) (T2 : Aside0 (IsT w (.agg #[.int .i8 c.f0, .slice A2 c.f1.length c2]) c)) (T3 : Aside0 (IsT w (.agg #[.int .i8 d.f0, .slice A3 d.f1.length c3]) d)) (S0 : Aside0 (smallB a = true)) (S1 : Aside0 (smallB b = true)) (S2 : Aside0 (smallB c = true)) (S3 : Aside0 (smallB d = true)) (D1 : Aside0 ((checkI ⟨3, [a, b]⟩ != 0) = true)) (P0 : Aside0 (relB 1 ⟨3, [a, b]⟩ ⟨3, [c, d]⟩ = false)) (N0 : Aside0 (relB 2 ⟨3, [a, b]⟩ ⟨3, [c, d]⟩ = false)) :
    Calls Try.prog 8 #[.agg #[.int .i8 a.f0, .slice A0 a.f1.length c0], .agg #[.int .i8 b.f0, .slice A1 b.f1.length c1], .agg #[.int .i8 c.f0, .slice A2 c.f1.length c2], .agg #[.int .i8 d.f0, .slice A3 d.f1.length c3]] w fun e w' => e = .returned (.bool true) ∧ Below w.heap.size w w' := by
  go_enter Try.func8, Try.ntmps8
  go_wp2_with fail
  refine (Small_calls (T0.out.below (below4 ..))).mono ?_
  rw [S0.out]
  rintro e w1 ⟨rfl, hB⟩
  obtain ⟨b1, b2, b3, b4, hB1⟩ := four_blocks hB
  have K1 := Aside0.mk b1
  have K2 := Aside0.mk b2
  have K3 := Aside0.mk b3
  have K4 := Aside0.mk b4
  have HB := Aside0.mk hB1
  replace T0 := Aside0.mk (IsT.below T0.out hB1)
  replace T1 := Aside0.mk (IsT.below T1.out hB1)
  replace T2 := Aside0.mk (IsT.below T2.out hB1)
  replace T3 := Aside0.mk (IsT.below T3.out hB1)
  clear hB hB1 b1 b2 b3 b4
  obtain ⟨e0, e1⟩ := c26_of K2.out (Below.refl _ _)
  have q := blk_lt K2.out
  go_wp2_with fail
  refine (Small_calls T1.out).mono ?_
  rw [S1.out]
  rintro e w2 ⟨rfl, hB⟩
  replace K1 := Aside0.mk (blk_below K1.out hB)
  replace K2 := Aside0.mk (blk_below K2.out hB)
  replace K3 := Aside0.mk (blk_below K3.out hB)
  replace K4 := Aside0.mk (blk_below K4.out hB)
  replace T0 := Aside0.mk (IsT.below T0.out hB)
  replace T1 := Aside0.mk (IsT.below T1.out hB)
  replace T2 := Aside0.mk (IsT.below T2.out hB)
  replace T3 := Aside0.mk (IsT.below T3.out hB)
  replace HB := Aside0.mk (below_then HB.out HB.out.size hB)
  clear hB e0 e1 q
  obtain ⟨e0, e1⟩ := c26_of K3.out (Below.refl _ _)
  have q := blk_lt K3.out
  go_wp2_with fail
  refine (Small_calls T2.out).mono ?_
  rw [S2.out]
  rintro e w3 ⟨rfl, hB⟩
  replace K1 := Aside0.mk (blk_below K1.out hB)
  replace K2 := Aside0.mk (blk_below K2.out hB)
  replace K3 := Aside0.mk (blk_below K3.out hB)
  replace K4 := Aside0.mk (blk_below K4.out hB)
  replace T0 := Aside0.mk (IsT.below T0.out hB)
  replace T1 := Aside0.mk (IsT.below T1.out hB)
  replace T2 := Aside0.mk (IsT.below T2.out hB)
  replace T3 := Aside0.mk (IsT.below T3.out hB)
  replace HB := Aside0.mk (below_then HB.out HB.out.size hB)
  clear hB e0 e1 q
  obtain ⟨e0, e1⟩ := c26_of K4.out (Below.refl _ _)
  have q := blk_lt K4.out
  go_wp2_with fail
  refine (Small_calls T3.out).mono ?_
  rw [S3.out]
  rintro e w4 ⟨rfl, hB⟩
  replace K1 := Aside0.mk (blk_below K1.out hB)
  replace K2 := Aside0.mk (blk_below K2.out hB)
  replace K3 := Aside0.mk (blk_below K3.out hB)
  replace K4 := Aside0.mk (blk_below K4.out hB)
  replace T0 := Aside0.mk (IsT.below T0.out hB)
  replace T1 := Aside0.mk (IsT.below T1.out hB)
  replace T2 := Aside0.mk (IsT.below T2.out hB)
  replace T3 := Aside0.mk (IsT.below T3.out hB)
  replace HB := Aside0.mk (below_then HB.out HB.out.size hB)
  clear hB e0 e1 q
  obtain ⟨e0, e1⟩ := c26_of K1.out (Below.refl _ _)
  have q := blk_lt K1.out
  obtain ⟨e2, e3⟩ := c26_of K2.out (Below.refl _ _)
  have q2 := blk_lt K2.out
  go_wp2_with fail
  refine (Of_calls T0.out T1.out).mono ?_
  rintro e w5 ⟨v0, rfl, ht, hB⟩
  obtain ⟨B0, d0, rfl, hl, hc⟩ := ht
  have T4 := Aside0.mk (IsT.mk (k := 4) hl hc)
  replace K1 := Aside0.mk (blk_below K1.out hB)
  replace K2 := Aside0.mk (blk_below K2.out hB)
  replace K3 := Aside0.mk (blk_below K3.out hB)
  replace K4 := Aside0.mk (blk_below K4.out hB)
  replace T0 := Aside0.mk (IsT.below T0.out hB)
  replace T1 := Aside0.mk (IsT.below T1.out hB)
  replace T2 := Aside0.mk (IsT.below T2.out hB)
  replace T3 := Aside0.mk (IsT.below T3.out hB)
  replace HB := Aside0.mk (below_then HB.out HB.out.size hB)
  clear hB hl hc e0 e1 e2 e3 q q2
  obtain ⟨e0, e1⟩ := c26_of K3.out (Below.refl _ _)
  have q := blk_lt K3.out
  obtain ⟨e2, e3⟩ := c26_of K4.out (Below.refl _ _)
  have q2 := blk_lt K4.out
  go_wp2_with fail
  have hW := below1 w5 #[.int .i8 4, .slice B0 2 d0] 26
  have K5 := Aside0.mk (heap_alloc_new w5 (.cells #[.int .i8 4, .slice B0 2 d0] 26))
  replace K1 := Aside0.mk (blk_below K1.out hW)
  replace K2 := Aside0.mk (blk_below K2.out hW)
  replace K3 := Aside0.mk (blk_below K3.out hW)
  replace K4 := Aside0.mk (blk_below K4.out hW)
  replace T0 := Aside0.mk (IsT.below T0.out hW)
  replace T1 := Aside0.mk (IsT.below T1.out hW)
  replace T2 := Aside0.mk (IsT.below T2.out hW)
  replace T3 := Aside0.mk (IsT.below T3.out hW)
  replace T4 := Aside0.mk (IsT.below T4.out hW)
  replace HB := Aside0.mk (below_then HB.out HB.out.size hW)
  clear hW
  refine (Of_calls T2.out T3.out).mono ?_
  rintro e w6 ⟨v1, rfl, ht, hB⟩
  obtain ⟨B1, d1, rfl, hl, hc⟩ := ht
  have T5 := Aside0.mk (IsT.mk (k := 4) hl hc)
  replace K1 := Aside0.mk (blk_below K1.out hB)
  replace K2 := Aside0.mk (blk_below K2.out hB)
  replace K3 := Aside0.mk (blk_below K3.out hB)
  replace K4 := Aside0.mk (blk_below K4.out hB)
  replace K5 := Aside0.mk (blk_below K5.out hB)
  replace T0 := Aside0.mk (IsT.below T0.out hB)
  replace T1 := Aside0.mk (IsT.below T1.out hB)
  replace T2 := Aside0.mk (IsT.below T2.out hB)
  replace T3 := Aside0.mk (IsT.below T3.out hB)
  replace T4 := Aside0.mk (IsT.below T4.out hB)
  replace HB := Aside0.mk (below_then HB.out HB.out.size hB)
  clear hB hl hc e0 e1 e2 e3 q q2
  generalize w5.heap.size = n5 at *
  obtain ⟨e0, e1⟩ := c26_of K1.out (Below.refl _ _)
  have q := blk_lt K1.out
  obtain ⟨e2, e3⟩ := c26_of K2.out (Below.refl _ _)
  have q2 := blk_lt K2.out
  go_wp2_with fail
  have hW := below1 w6 #[.int .i8 4, .slice B1 2 d1] 26
  have K6 := Aside0.mk (heap_alloc_new w6 (.cells #[.int .i8 4, .slice B1 2 d1] 26))
  replace K1 := Aside0.mk (blk_below K1.out hW)
  replace K2 := Aside0.mk (blk_below K2.out hW)
  replace K3 := Aside0.mk (blk_below K3.out hW)
  replace K4 := Aside0.mk (blk_below K4.out hW)
  replace K5 := Aside0.mk (blk_below K5.out hW)
  replace T0 := Aside0.mk (IsT.below T0.out hW)
  replace T1 := Aside0.mk (IsT.below T1.out hW)
  replace T2 := Aside0.mk (IsT.below T2.out hW)
  replace T3 := Aside0.mk (IsT.below T3.out hW)
  replace T4 := Aside0.mk (IsT.below T4.out hW)
  replace T5 := Aside0.mk (IsT.below T5.out hW)
  replace HB := Aside0.mk (below_then HB.out HB.out.size hW)
  clear hW
  refine (Of_calls T0.out T1.out).mono ?_
  rintro e w7 ⟨v2, rfl, ht, hB⟩
  obtain ⟨B2, d2, rfl, hl, hc⟩ := ht
  have T6 := Aside0.mk (IsT.mk (k := 3) hl hc)
  replace K1 := Aside0.mk (blk_below K1.out hB)
  replace K2 := Aside0.mk (blk_below K2.out hB)
  replace K3 := Aside0.mk (blk_below K3.out hB)
  replace K4 := Aside0.mk (blk_below K4.out hB)
  replace K5 := Aside0.mk (blk_below K5.out hB)
  replace K6 := Aside0.mk (blk_below K6.out hB)
  replace T0 := Aside0.mk (IsT.below T0.out hB)
  replace T1 := Aside0.mk (IsT.below T1.out hB)
  replace T2 := Aside0.mk (IsT.below T2.out hB)
  replace T3 := Aside0.mk (IsT.below T3.out hB)
  replace T4 := Aside0.mk (IsT.below T4.out hB)
  replace T5 := Aside0.mk (IsT.below T5.out hB)
  replace HB := Aside0.mk (below_then HB.out HB.out.size hB)
  clear hB hl hc e0 e1 e2 e3 q q2
  generalize w6.heap.size = n6 at *
  obtain ⟨e0, e1⟩ := c26_of K3.out (Below.refl _ _)
  have q := blk_lt K3.out
  obtain ⟨e2, e3⟩ := c26_of K4.out (Below.refl _ _)
  have q2 := blk_lt K4.out
  go_wp2_with fail
  have hW := below1 w7 #[.int .i8 3, .slice B2 2 d2] 26
  have K7 := Aside0.mk (heap_alloc_new w7 (.cells #[.int .i8 3, .slice B2 2 d2] 26))
  replace K1 := Aside0.mk (blk_below K1.out hW)
  replace K2 := Aside0.mk (blk_below K2.out hW)
  replace K3 := Aside0.mk (blk_below K3.out hW)
  replace K4 := Aside0.mk (blk_below K4.out hW)
  replace K5 := Aside0.mk (blk_below K5.out hW)
  replace K6 := Aside0.mk (blk_below K6.out hW)
  replace T0 := Aside0.mk (IsT.below T0.out hW)
  replace T1 := Aside0.mk (IsT.below T1.out hW)
  replace T2 := Aside0.mk (IsT.below T2.out hW)
  replace T3 := Aside0.mk (IsT.below T3.out hW)
  replace T4 := Aside0.mk (IsT.below T4.out hW)
  replace T5 := Aside0.mk (IsT.below T5.out hW)
  replace T6 := Aside0.mk (IsT.below T6.out hW)
  replace HB := Aside0.mk (below_then HB.out HB.out.size hW)
  clear hW
  refine (Of_calls T2.out T3.out).mono ?_
  rintro e w8 ⟨v3, rfl, ht, hB⟩
  obtain ⟨B3, d3, rfl, hl, hc⟩ := ht
  have T7 := Aside0.mk (IsT.mk (k := 3) hl hc)
  replace K1 := Aside0.mk (blk_below K1.out hB)
  replace K2 := Aside0.mk (blk_below K2.out hB)
  replace K3 := Aside0.mk (blk_below K3.out hB)
  replace K4 := Aside0.mk (blk_below K4.out hB)
  replace K5 := Aside0.mk (blk_below K5.out hB)
  replace K6 := Aside0.mk (blk_below K6.out hB)
  replace K7 := Aside0.mk (blk_below K7.out hB)
  replace T0 := Aside0.mk (IsT.below T0.out hB)
  replace T1 := Aside0.mk (IsT.below T1.out hB)
  replace T2 := Aside0.mk (IsT.below T2.out hB)
  replace T3 := Aside0.mk (IsT.below T3.out hB)
  replace T4 := Aside0.mk (IsT.below T4.out hB)
  replace T5 := Aside0.mk (IsT.below T5.out hB)
  replace T6 := Aside0.mk (IsT.below T6.out hB)
  replace HB := Aside0.mk (below_then HB.out HB.out.size hB)
  clear hB hl hc e0 e1 e2 e3 q q2
  generalize w7.heap.size = n7 at *
  have e70 : w8.cell? ⟨n7, 0, none⟩ = some (.int .i8 3) := (blk_cell K7.out 0).trans rfl
  have e71 : w8.cell? ⟨n7, 1, none⟩ = some (.slice B2 2 d2) := (blk_cell K7.out 1).trans rfl
  have q7 := blk_lt K7.out
  go_wp2_with fail
  have hW := below1 w8 #[.int .i8 3, .slice B3 2 d3] 26
  have K8 := Aside0.mk (heap_alloc_new w8 (.cells #[.int .i8 3, .slice B3 2 d3] 26))
  replace K1 := Aside0.mk (blk_below K1.out hW)
  replace K2 := Aside0.mk (blk_below K2.out hW)
  replace K3 := Aside0.mk (blk_below K3.out hW)
  replace K4 := Aside0.mk (blk_below K4.out hW)
  replace K5 := Aside0.mk (blk_below K5.out hW)
  replace K6 := Aside0.mk (blk_below K6.out hW)
  replace K7 := Aside0.mk (blk_below K7.out hW)
  replace T0 := Aside0.mk (IsT.below T0.out hW)
  replace T1 := Aside0.mk (IsT.below T1.out hW)
  replace T2 := Aside0.mk (IsT.below T2.out hW)
  replace T3 := Aside0.mk (IsT.below T3.out hW)
  replace T4 := Aside0.mk (IsT.below T4.out hW)
  replace T5 := Aside0.mk (IsT.below T5.out hW)
  replace T6 := Aside0.mk (IsT.below T6.out hW)
  replace T7 := Aside0.mk (IsT.below T7.out hW)
  replace HB := Aside0.mk (below_then HB.out HB.out.size hW)
  clear hW e70 e71 q7
  have d1 := D1.out
  refine (Check_calls T6.out).mono ?_
  rintro e w9 ⟨rfl, hB⟩
  replace K1 := Aside0.mk (blk_below K1.out hB)
  replace K2 := Aside0.mk (blk_below K2.out hB)
  replace K3 := Aside0.mk (blk_below K3.out hB)
  replace K4 := Aside0.mk (blk_below K4.out hB)
  replace K5 := Aside0.mk (blk_below K5.out hB)
  replace K6 := Aside0.mk (blk_below K6.out hB)
  replace K7 := Aside0.mk (blk_below K7.out hB)
  replace K8 := Aside0.mk (blk_below K8.out hB)
  replace T0 := Aside0.mk (IsT.below T0.out hB)
  replace T1 := Aside0.mk (IsT.below T1.out hB)
  replace T2 := Aside0.mk (IsT.below T2.out hB)
  replace T3 := Aside0.mk (IsT.below T3.out hB)
  replace T4 := Aside0.mk (IsT.below T4.out hB)
  replace T5 := Aside0.mk (IsT.below T5.out hB)
  replace T6 := Aside0.mk (IsT.below T6.out hB)
  replace T7 := Aside0.mk (IsT.below T7.out hB)
  replace HB := Aside0.mk (below_then HB.out HB.out.size hB)
  clear hB
  generalize w8.heap.size = n8 at *
  have e70 : w9.cell? ⟨n7, 0, none⟩ = some (.int .i8 3) := (blk_cell K7.out 0).trans rfl
  have e71 : w9.cell? ⟨n7, 1, none⟩ = some (.slice B2 2 d2) := (blk_cell K7.out 1).trans rfl
  have e80 : w9.cell? ⟨n8, 0, none⟩ = some (.int .i8 3) := (blk_cell K8.out 0).trans rfl
  have e81 : w9.cell? ⟨n8, 1, none⟩ = some (.slice B3 2 d3) := (blk_cell K8.out 1).trans rfl
  go_wp2_with fail
  clear d1
  refine (Pos_calls T6.out T7.out).mono ?_
  rw [P0.out]
  rintro e w11 ⟨rfl, hB⟩
  replace K1 := Aside0.mk (blk_below K1.out hB)
  replace K2 := Aside0.mk (blk_below K2.out hB)
  replace K3 := Aside0.mk (blk_below K3.out hB)
  replace K4 := Aside0.mk (blk_below K4.out hB)
  replace K5 := Aside0.mk (blk_below K5.out hB)
  replace K6 := Aside0.mk (blk_below K6.out hB)
  replace K7 := Aside0.mk (blk_below K7.out hB)
  replace K8 := Aside0.mk (blk_below K8.out hB)
  replace T0 := Aside0.mk (IsT.below T0.out hB)
  replace T1 := Aside0.mk (IsT.below T1.out hB)
  replace T2 := Aside0.mk (IsT.below T2.out hB)
  replace T3 := Aside0.mk (IsT.below T3.out hB)
  replace T4 := Aside0.mk (IsT.below T4.out hB)
  replace T5 := Aside0.mk (IsT.below T5.out hB)
  replace T6 := Aside0.mk (IsT.below T6.out hB)
  replace T7 := Aside0.mk (IsT.below T7.out hB)
  replace HB := Aside0.mk (below_then HB.out HB.out.size hB)
  clear hB
  clear e70 e71 e80 e81
  have e70 : w11.cell? ⟨n7, 0, none⟩ = some (.int .i8 3) := (blk_cell K7.out 0).trans rfl
  have e71 : w11.cell? ⟨n7, 1, none⟩ = some (.slice B2 2 d2) := (blk_cell K7.out 1).trans rfl
  have e80 : w11.cell? ⟨n8, 0, none⟩ = some (.int .i8 3) := (blk_cell K8.out 0).trans rfl
  have e81 : w11.cell? ⟨n8, 1, none⟩ = some (.slice B3 2 d3) := (blk_cell K8.out 1).trans rfl
  go_wp2_with fail
  refine (Neg_calls T6.out T7.out).mono ?_
  rw [N0.out]
  rintro e w12 ⟨rfl, hB⟩
  replace K1 := Aside0.mk (blk_below K1.out hB)
  replace K2 := Aside0.mk (blk_below K2.out hB)
  replace K3 := Aside0.mk (blk_below K3.out hB)
  replace K4 := Aside0.mk (blk_below K4.out hB)
  replace K5 := Aside0.mk (blk_below K5.out hB)
  replace K6 := Aside0.mk (blk_below K6.out hB)
  replace K7 := Aside0.mk (blk_below K7.out hB)
  replace K8 := Aside0.mk (blk_below K8.out hB)
  replace T0 := Aside0.mk (IsT.below T0.out hB)
  replace T1 := Aside0.mk (IsT.below T1.out hB)
  replace T2 := Aside0.mk (IsT.below T2.out hB)
  replace T3 := Aside0.mk (IsT.below T3.out hB)
  replace T4 := Aside0.mk (IsT.below T4.out hB)
  replace T5 := Aside0.mk (IsT.below T5.out hB)
  replace T6 := Aside0.mk (IsT.below T6.out hB)
  replace T7 := Aside0.mk (IsT.below T7.out hB)
  replace HB := Aside0.mk (below_then HB.out HB.out.size hB)
  clear hB
  clear e70 e71 e80 e81
  go_wp2_with fail
  refine (wakes8_calls _).mono ?_
  rintro e wE ⟨rfl, hB⟩
  replace HB := Aside0.mk (below_then HB.out HB.out.size hB)
  clear hB
  go_wp2_with fail
  go_ret
  exact ⟨rfl, HB.out⟩
set_option maxRecDepth 100000 in
set_option maxHeartbeats 6400000 in
theorem up_wrong1 (a b c d : S26) (w : World) (A0 : Option Addr) (c0 : Nat) (A1 : Option Addr) (c1 : Nat) (A2 : Option Addr) (c2 : Nat) (A3 : Option Addr) (c3 : Nat) (T0 : Aside0 (IsT w (.agg #[.int .i8 a.f0, .slice A0 a.f1.length c0]) a)) (T1 : Aside0 (IsT w (.agg #[.int .i8 b.f0, .slice A1 b.f1.length c1]) b)) (T2 : Aside0 (IsT w (.agg #[.int .i8 c.f0, .slice A2 c.f1.length c2]) c)) (T3 : Aside0 (IsT w (.agg #[.int .i8 d.f0, .slice A3 d.f1.length c3]) d)) (S0 : Aside0 (smallB a = true)) (S1 : Aside0 (smallB b = true)) (S2 : Aside0 (smallB c = true)) (S3 : Aside0 (smallB d = true)) (CF : Aside0 (checkI ⟨3, [a, b]⟩ = 0)) (D1 : Aside0 ((checkI ⟨3, [c, d]⟩ != 0) = true)) (P0 : Aside0 (relB 1 ⟨3, [a, b]⟩ ⟨3, [c, d]⟩ = false)) (N0 : Aside0 (relB 2 ⟨3, [a, b]⟩ ⟨3, [c, d]⟩ = false)) :
    Calls Try.prog 8 #[.agg #[.int .i8 a.f0, .slice A0 a.f1.length c0], .agg #[.int .i8 b.f0, .slice A1 b.f1.length c1], .agg #[.int .i8 c.f0, .slice A2 c.f1.length c2], .agg #[.int .i8 d.f0, .slice A3 d.f1.length c3]] w fun e w' => e = .returned (.bool true) ∧ Below w.heap.size w w' := by
  go_enter Try.func8, Try.ntmps8
  go_wp2_with fail
  refine (Small_calls (T0.out.below (below4 ..))).mono ?_
  rw [S0.out]
  rintro e w1 ⟨rfl, hB⟩
  obtain ⟨b1, b2, b3, b4, hB1⟩ := four_blocks hB
  have K1 := Aside0.mk b1
  have K2 := Aside0.mk b2
  have K3 := Aside0.mk b3
  have K4 := Aside0.mk b4
  have HB := Aside0.mk hB1
  replace T0 := Aside0.mk (IsT.below T0.out hB1)
  replace T1 := Aside0.mk (IsT.below T1.out hB1)
  replace T2 := Aside0.mk (IsT.below T2.out hB1)
  replace T3 := Aside0.mk (IsT.below T3.out hB1)
  clear hB hB1 b1 b2 b3 b4
  obtain ⟨e0, e1⟩ := c26_of K2.out (Below.refl _ _)
  have q := blk_lt K2.out
  go_wp2_with fail
  refine (Small_calls T1.out).mono ?_
  rw [S1.out]
  rintro e w2 ⟨rfl, hB⟩
  replace K1 := Aside0.mk (blk_below K1.out hB)
  replace K2 := Aside0.mk (blk_below K2.out hB)
  replace K3 := Aside0.mk (blk_below K3.out hB)
  replace K4 := Aside0.mk (blk_below K4.out hB)
  replace T0 := Aside0.mk (IsT.below T0.out hB)
  replace T1 := Aside0.mk (IsT.below T1.out hB)
  replace T2 := Aside0.mk (IsT.below T2.out hB)
  replace T3 := Aside0.mk (IsT.below T3.out hB)
  replace HB := Aside0.mk (below_then HB.out HB.out.size hB)
  clear hB e0 e1 q
  obtain ⟨e0, e1⟩ := c26_of K3.out (Below.refl _ _)
  have q := blk_lt K3.out
  go_wp2_with fail
  refine (Small_calls T2.out).mono ?_
  rw [S2.out]
  rintro e w3 ⟨rfl, hB⟩
  replace K1 := Aside0.mk (blk_below K1.out hB)
  replace K2 := Aside0.mk (blk_below K2.out hB)
  replace K3 := Aside0.mk (blk_below K3.out hB)
  replace K4 := Aside0.mk (blk_below K4.out hB)
  replace T0 := Aside0.mk (IsT.below T0.out hB)
  replace T1 := Aside0.mk (IsT.below T1.out hB)
  replace T2 := Aside0.mk (IsT.below T2.out hB)
  replace T3 := Aside0.mk (IsT.below T3.out hB)
  replace HB := Aside0.mk (below_then HB.out HB.out.size hB)
  clear hB e0 e1 q
  obtain ⟨e0, e1⟩ := c26_of K4.out (Below.refl _ _)
  have q := blk_lt K4.out
  go_wp2_with fail
  refine (Small_calls T3.out).mono ?_
  rw [S3.out]
  rintro e w4 ⟨rfl, hB⟩
  replace K1 := Aside0.mk (blk_below K1.out hB)
  replace K2 := Aside0.mk (blk_below K2.out hB)
  replace K3 := Aside0.mk (blk_below K3.out hB)
  replace K4 := Aside0.mk (blk_below K4.out hB)
  replace T0 := Aside0.mk (IsT.below T0.out hB)
  replace T1 := Aside0.mk (IsT.below T1.out hB)
  replace T2 := Aside0.mk (IsT.below T2.out hB)
  replace T3 := Aside0.mk (IsT.below T3.out hB)
  replace HB := Aside0.mk (below_then HB.out HB.out.size hB)
  clear hB e0 e1 q
  obtain ⟨e0, e1⟩ := c26_of K1.out (Below.refl _ _)
  have q := blk_lt K1.out
  obtain ⟨e2, e3⟩ := c26_of K2.out (Below.refl _ _)
  have q2 := blk_lt K2.out
  go_wp2_with fail
  refine (Of_calls T0.out T1.out).mono ?_
  rintro e w5 ⟨v0, rfl, ht, hB⟩
  obtain ⟨B0, d0, rfl, hl, hc⟩ := ht
  have T4 := Aside0.mk (IsT.mk (k := 4) hl hc)
  replace K1 := Aside0.mk (blk_below K1.out hB)
  replace K2 := Aside0.mk (blk_below K2.out hB)
  replace K3 := Aside0.mk (blk_below K3.out hB)
  replace K4 := Aside0.mk (blk_below K4.out hB)
  replace T0 := Aside0.mk (IsT.below T0.out hB)
  replace T1 := Aside0.mk (IsT.below T1.out hB)
  replace T2 := Aside0.mk (IsT.below T2.out hB)
  replace T3 := Aside0.mk (IsT.below T3.out hB)
  replace HB := Aside0.mk (below_then HB.out HB.out.size hB)
  clear hB hl hc e0 e1 e2 e3 q q2
  obtain ⟨e0, e1⟩ := c26_of K3.out (Below.refl _ _)
  have q := blk_lt K3.out
  obtain ⟨e2, e3⟩ := c26_of K4.out (Below.refl _ _)
  have q2 := blk_lt K4.out
  go_wp2_with fail
  have hW := below1 w5 #[.int .i8 4, .slice B0 2 d0] 26
  have K5 := Aside0.mk (heap_alloc_new w5 (.cells #[.int .i8 4, .slice B0 2 d0] 26))
  replace K1 := Aside0.mk (blk_below K1.out hW)
  replace K2 := Aside0.mk (blk_below K2.out hW)
  replace K3 := Aside0.mk (blk_below K3.out hW)
  replace K4 := Aside0.mk (blk_below K4.out hW)
  replace T0 := Aside0.mk (IsT.below T0.out hW)
  replace T1 := Aside0.mk (IsT.below T1.out hW)
  replace T2 := Aside0.mk (IsT.below T2.out hW)
  replace T3 := Aside0.mk (IsT.below T3.out hW)
  replace T4 := Aside0.mk (IsT.below T4.out hW)
  replace HB := Aside0.mk (below_then HB.out HB.out.size hW)
  clear hW
  refine (Of_calls T2.out T3.out).mono ?_
  rintro e w6 ⟨v1, rfl, ht, hB⟩
  obtain ⟨B1, d1, rfl, hl, hc⟩ := ht
  have T5 := Aside0.mk (IsT.mk (k := 4) hl hc)
  replace K1 := Aside0.mk (blk_below K1.out hB)
  replace K2 := Aside0.mk (blk_below K2.out hB)
  replace K3 := Aside0.mk (blk_below K3.out hB)
  replace K4 := Aside0.mk (blk_below K4.out hB)
  replace K5 := Aside0.mk (blk_below K5.out hB)
  replace T0 := Aside0.mk (IsT.below T0.out hB)
  replace T1 := Aside0.mk (IsT.below T1.out hB)
  replace T2 := Aside0.mk (IsT.below T2.out hB)
  replace T3 := Aside0.mk (IsT.below T3.out hB)
  replace T4 := Aside0.mk (IsT.below T4.out hB)
  replace HB := Aside0.mk (below_then HB.out HB.out.size hB)
  clear hB hl hc e0 e1 e2 e3 q q2
  generalize w5.heap.size = n5 at *
  obtain ⟨e0, e1⟩ := c26_of K1.out (Below.refl _ _)
  have q := blk_lt K1.out
  obtain ⟨e2, e3⟩ := c26_of K2.out (Below.refl _ _)
  have q2 := blk_lt K2.out
  go_wp2_with fail
  have hW := below1 w6 #[.int .i8 4, .slice B1 2 d1] 26
  have K6 := Aside0.mk (heap_alloc_new w6 (.cells #[.int .i8 4, .slice B1 2 d1] 26))
  replace K1 := Aside0.mk (blk_below K1.out hW)
  replace K2 := Aside0.mk (blk_below K2.out hW)
  replace K3 := Aside0.mk (blk_below K3.out hW)
  replace K4 := Aside0.mk (blk_below K4.out hW)
  replace K5 := Aside0.mk (blk_below K5.out hW)
  replace T0 := Aside0.mk (IsT.below T0.out hW)
  replace T1 := Aside0.mk (IsT.below T1.out hW)
  replace T2 := Aside0.mk (IsT.below T2.out hW)
  replace T3 := Aside0.mk (IsT.below T3.out hW)
  replace T4 := Aside0.mk (IsT.below T4.out hW)
  replace T5 := Aside0.mk (IsT.below T5.out hW)
  replace HB := Aside0.mk (below_then HB.out HB.out.size hW)
  clear hW
  refine (Of_calls T0.out T1.out).mono ?_
  rintro e w7 ⟨v2, rfl, ht, hB⟩
  obtain ⟨B2, d2, rfl, hl, hc⟩ := ht
  have T6 := Aside0.mk (IsT.mk (k := 3) hl hc)
  replace K1 := Aside0.mk (blk_below K1.out hB)
  replace K2 := Aside0.mk (blk_below K2.out hB)
  replace K3 := Aside0.mk (blk_below K3.out hB)
  replace K4 := Aside0.mk (blk_below K4.out hB)
  replace K5 := Aside0.mk (blk_below K5.out hB)
  replace K6 := Aside0.mk (blk_below K6.out hB)
  replace T0 := Aside0.mk (IsT.below T0.out hB)
  replace T1 := Aside0.mk (IsT.below T1.out hB)
  replace T2 := Aside0.mk (IsT.below T2.out hB)
  replace T3 := Aside0.mk (IsT.below T3.out hB)
  replace T4 := Aside0.mk (IsT.below T4.out hB)
  replace T5 := Aside0.mk (IsT.below T5.out hB)
  replace HB := Aside0.mk (below_then HB.out HB.out.size hB)
  clear hB hl hc e0 e1 e2 e3 q q2
  generalize w6.heap.size = n6 at *
  obtain ⟨e0, e1⟩ := c26_of K3.out (Below.refl _ _)
  have q := blk_lt K3.out
  obtain ⟨e2, e3⟩ := c26_of K4.out (Below.refl _ _)
  have q2 := blk_lt K4.out
  go_wp2_with fail
  have hW := below1 w7 #[.int .i8 3, .slice B2 2 d2] 26
  have K7 := Aside0.mk (heap_alloc_new w7 (.cells #[.int .i8 3, .slice B2 2 d2] 26))
  replace K1 := Aside0.mk (blk_below K1.out hW)
  replace K2 := Aside0.mk (blk_below K2.out hW)
  replace K3 := Aside0.mk (blk_below K3.out hW)
  replace K4 := Aside0.mk (blk_below K4.out hW)
  replace K5 := Aside0.mk (blk_below K5.out hW)
  replace K6 := Aside0.mk (blk_below K6.out hW)
  replace T0 := Aside0.mk (IsT.below T0.out hW)
  replace T1 := Aside0.mk (IsT.below T1.out hW)
  replace T2 := Aside0.mk (IsT.below T2.out hW)
  replace T3 := Aside0.mk (IsT.below T3.out hW)
  replace T4 := Aside0.mk (IsT.below T4.out hW)
  replace T5 := Aside0.mk (IsT.below T5.out hW)
  replace T6 := Aside0.mk (IsT.below T6.out hW)
  replace HB := Aside0.mk (below_then HB.out HB.out.size hW)
  clear hW
  refine (Of_calls T2.out T3.out).mono ?_
  rintro e w8 ⟨v3, rfl, ht, hB⟩
  obtain ⟨B3, d3, rfl, hl, hc⟩ := ht
  have T7 := Aside0.mk (IsT.mk (k := 3) hl hc)
  replace K1 := Aside0.mk (blk_below K1.out hB)
  replace K2 := Aside0.mk (blk_below K2.out hB)
  replace K3 := Aside0.mk (blk_below K3.out hB)
  replace K4 := Aside0.mk (blk_below K4.out hB)
  replace K5 := Aside0.mk (blk_below K5.out hB)
  replace K6 := Aside0.mk (blk_below K6.out hB)
  replace K7 := Aside0.mk (blk_below K7.out hB)
  replace T0 := Aside0.mk (IsT.below T0.out hB)
  replace T1 := Aside0.mk (IsT.below T1.out hB)
  replace T2 := Aside0.mk (IsT.below T2.out hB)
  replace T3 := Aside0.mk (IsT.below T3.out hB)
  replace T4 := Aside0.mk (IsT.below T4.out hB)
  replace T5 := Aside0.mk (IsT.below T5.out hB)
  replace T6 := Aside0.mk (IsT.below T6.out hB)
  replace HB := Aside0.mk (below_then HB.out HB.out.size hB)
  clear hB hl hc e0 e1 e2 e3 q q2
  generalize w7.heap.size = n7 at *
  have e70 : w8.cell? ⟨n7, 0, none⟩ = some (.int .i8 3) := (blk_cell K7.out 0).trans rfl
  have e71 : w8.cell? ⟨n7, 1, none⟩ = some (.slice B2 2 d2) := (blk_cell K7.out 1).trans rfl
  have q7 := blk_lt K7.out
  go_wp2_with fail
  have hW := below1 w8 #[.int .i8 3, .slice B3 2 d3] 26
  have K8 := Aside0.mk (heap_alloc_new w8 (.cells #[.int .i8 3, .slice B3 2 d3] 26))
  replace K1 := Aside0.mk (blk_below K1.out hW)
  replace K2 := Aside0.mk (blk_below K2.out hW)
  replace K3 := Aside0.mk (blk_below K3.out hW)
  replace K4 := Aside0.mk (blk_below K4.out hW)
  replace K5 := Aside0.mk (blk_below K5.out hW)
  replace K6 := Aside0.mk (blk_below K6.out hW)
  replace K7 := Aside0.mk (blk_below K7.out hW)
  replace T0 := Aside0.mk (IsT.below T0.out hW)
  replace T1 := Aside0.mk (IsT.below T1.out hW)
  replace T2 := Aside0.mk (IsT.below T2.out hW)
  replace T3 := Aside0.mk (IsT.below T3.out hW)
  replace T4 := Aside0.mk (IsT.below T4.out hW)
  replace T5 := Aside0.mk (IsT.below T5.out hW)
  replace T6 := Aside0.mk (IsT.below T6.out hW)
  replace T7 := Aside0.mk (IsT.below T7.out hW)
  replace HB := Aside0.mk (below_then HB.out HB.out.size hW)
  clear hW e70 e71 q7
  refine (Check_calls T6.out).mono ?_
  rw [CF.out]
  rintro e w9 ⟨rfl, hB⟩
  replace K1 := Aside0.mk (blk_below K1.out hB)
  replace K2 := Aside0.mk (blk_below K2.out hB)
  replace K3 := Aside0.mk (blk_below K3.out hB)
  replace K4 := Aside0.mk (blk_below K4.out hB)
  replace K5 := Aside0.mk (blk_below K5.out hB)
  replace K6 := Aside0.mk (blk_below K6.out hB)
  replace K7 := Aside0.mk (blk_below K7.out hB)
  replace K8 := Aside0.mk (blk_below K8.out hB)
  replace T0 := Aside0.mk (IsT.below T0.out hB)
  replace T1 := Aside0.mk (IsT.below T1.out hB)
  replace T2 := Aside0.mk (IsT.below T2.out hB)
  replace T3 := Aside0.mk (IsT.below T3.out hB)
  replace T4 := Aside0.mk (IsT.below T4.out hB)
  replace T5 := Aside0.mk (IsT.below T5.out hB)
  replace T6 := Aside0.mk (IsT.below T6.out hB)
  replace T7 := Aside0.mk (IsT.below T7.out hB)
  replace HB := Aside0.mk (below_then HB.out HB.out.size hB)
  clear hB
  generalize w8.heap.size = n8 at *
  have e80 : w9.cell? ⟨n8, 0, none⟩ = some (.int .i8 3) := (blk_cell K8.out 0).trans rfl
  have e81 : w9.cell? ⟨n8, 1, none⟩ = some (.slice B3 2 d3) := (blk_cell K8.out 1).trans rfl
  go_wp2_with fail
  have d1 := D1.out
  refine (Check_calls T7.out).mono ?_
  rintro e w10 ⟨rfl, hB⟩
  replace K1 := Aside0.mk (blk_below K1.out hB)
  replace K2 := Aside0.mk (blk_below K2.out hB)
  replace K3 := Aside0.mk (blk_below K3.out hB)
  replace K4 := Aside0.mk (blk_below K4.out hB)
  replace K5 := Aside0.mk (blk_below K5.out hB)
  replace K6 := Aside0.mk (blk_below K6.out hB)
  replace K7 := Aside0.mk (blk_below K7.out hB)
  replace K8 := Aside0.mk (blk_below K8.out hB)
  replace T0 := Aside0.mk (IsT.below T0.out hB)
  replace T1 := Aside0.mk (IsT.below T1.out hB)
  replace T2 := Aside0.mk (IsT.below T2.out hB)
  replace T3 := Aside0.mk (IsT.below T3.out hB)
  replace T4 := Aside0.mk (IsT.below T4.out hB)
  replace T5 := Aside0.mk (IsT.below T5.out hB)
  replace T6 := Aside0.mk (IsT.below T6.out hB)
  replace T7 := Aside0.mk (IsT.below T7.out hB)
  replace HB := Aside0.mk (below_then HB.out HB.out.size hB)
  clear hB
  clear e80 e81
  have e70 : w10.cell? ⟨n7, 0, none⟩ = some (.int .i8 3) := (blk_cell K7.out 0).trans rfl
  have e71 : w10.cell? ⟨n7, 1, none⟩ = some (.slice B2 2 d2) := (blk_cell K7.out 1).trans rfl
  have e80 : w10.cell? ⟨n8, 0, none⟩ = some (.int .i8 3) := (blk_cell K8.out 0).trans rfl
  have e81 : w10.cell? ⟨n8, 1, none⟩ = some (.slice B3 2 d3) := (blk_cell K8.out 1).trans rfl
  go_wp2_with fail
  clear d1
  refine (Pos_calls T6.out T7.out).mono ?_
  rw [P0.out]
  rintro e w11 ⟨rfl, hB⟩
  replace K1 := Aside0.mk (blk_below K1.out hB)
  replace K2 := Aside0.mk (blk_below K2.out hB)
  replace K3 := Aside0.mk (blk_below K3.out hB)
  replace K4 := Aside0.mk (blk_below K4.out hB)
  replace K5 := Aside0.mk (blk_below K5.out hB)
  replace K6 := Aside0.mk (blk_below K6.out hB)
  replace K7 := Aside0.mk (blk_below K7.out hB)
  replace K8 := Aside0.mk (blk_below K8.out hB)
  replace T0 := Aside0.mk (IsT.below T0.out hB)
  replace T1 := Aside0.mk (IsT.below T1.out hB)
  replace T2 := Aside0.mk (IsT.below T2.out hB)
  replace T3 := Aside0.mk (IsT.below T3.out hB)
  replace T4 := Aside0.mk (IsT.below T4.out hB)
  replace T5 := Aside0.mk (IsT.below T5.out hB)
  replace T6 := Aside0.mk (IsT.below T6.out hB)
  replace T7 := Aside0.mk (IsT.below T7.out hB)
  replace HB := Aside0.mk (below_then HB.out HB.out.size hB)
  clear hB
  clear e70 e71 e80 e81
  have e70 : w11.cell? ⟨n7, 0, none⟩ = some (.int .i8 3) := (blk_cell K7.out 0).trans rfl
  have e71 : w11.cell? ⟨n7, 1, none⟩ = some (.slice B2 2 d2) := (blk_cell K7.out 1).trans rfl
  have e80 : w11.cell? ⟨n8, 0, none⟩ = some (.int .i8 3) := (blk_cell K8.out 0).trans rfl
  have e81 : w11.cell? ⟨n8, 1, none⟩ = some (.slice B3 2 d3) := (blk_cell K8.out 1).trans rfl
  go_wp2_with fail
  refine (Neg_calls T6.out T7.out).mono ?_
  rw [N0.out]
  rintro e w12 ⟨rfl, hB⟩
  replace K1 := Aside0.mk (blk_below K1.out hB)
  replace K2 := Aside0.mk (blk_below K2.out hB)
  replace K3 := Aside0.mk (blk_below K3.out hB)
  replace K4 := Aside0.mk (blk_below K4.out hB)
  replace K5 := Aside0.mk (blk_below K5.out hB)
  replace K6 := Aside0.mk (blk_below K6.out hB)
  replace K7 := Aside0.mk (blk_below K7.out hB)
  replace K8 := Aside0.mk (blk_below K8.out hB)
  replace T0 := Aside0.mk (IsT.below T0.out hB)
  replace T1 := Aside0.mk (IsT.below T1.out hB)
  replace T2 := Aside0.mk (IsT.below T2.out hB)
  replace T3 := Aside0.mk (IsT.below T3.out hB)
  replace T4 := Aside0.mk (IsT.below T4.out hB)
  replace T5 := Aside0.mk (IsT.below T5.out hB)
  replace T6 := Aside0.mk (IsT.below T6.out hB)
  replace T7 := Aside0.mk (IsT.below T7.out hB)
  replace HB := Aside0.mk (below_then HB.out HB.out.size hB)
  clear hB
  clear e70 e71 e80 e81
  go_wp2_with fail
  refine (wakes8_calls _).mono ?_
  rintro e wE ⟨rfl, hB⟩
  replace HB := Aside0.mk (below_then HB.out HB.out.size hB)
  clear hB
  go_wp2_with fail
  go_ret
  exact ⟨rfl, HB.out⟩
end Go.Proofs.Ytamhdpllmhafhaa.X
