/- The contract of layer 8's wakes: what the document says of a few types holds. -/
import Derived.Test.YtamhdpllmhafhaaHHolds3
import Derived.Test.YtamhdpllmhafhaaHOf
namespace Go.Proofs.Ytamhdpllmhafhaa.X
open Go.RowKit Go.Proofs.YtamhdpllmhafhaaW.PrintWords Go.Proofs.YtamhdpllmhafhaaW.PrintLast Go.Proofs.YtamhdpllmhafhaaW.PrintMore
set_option linter.unusedVariables false
set_option linter.unusedSimpArgs false

theorem rel_w1 : relB 0 ⟨1, []⟩ ⟨0, []⟩ = true := by kernel_rfl
theorem rel_w2 : relB 0 ⟨0, []⟩ ⟨1, []⟩ = false := by kernel_rfl
theorem rel_w3 : relB 2 ⟨0, []⟩ ⟨1, []⟩ = true := by kernel_rfl
theorem rel_w4 : relB 1 ⟨0, []⟩ ⟨1, []⟩ = false := by kernel_rfl
theorem rel_w5 : relB 1 ⟨3, [⟨1, []⟩, ⟨1, []⟩]⟩ ⟨3, [⟨0, []⟩, ⟨1, []⟩]⟩ = true := by kernel_rfl
theorem rel_w6 : relB 2 ⟨3, [⟨1, []⟩, ⟨1, []⟩]⟩ ⟨3, [⟨0, []⟩, ⟨1, []⟩]⟩ = false := by kernel_rfl
theorem rel_w7 : relB 0 ⟨3, [⟨0, []⟩, ⟨1, []⟩]⟩ ⟨3, [⟨1, []⟩, ⟨1, []⟩]⟩ = true := by kernel_rfl

set_option maxRecDepth 100000 in
set_option maxHeartbeats 1600000 in
theorem wakes8_calls (w : World) : Calls Try.prog 37 #[] w fun e w' => e = .returned (.bool true) ∧ Below w.heap.size w w' := by
  go_enter Try.func37, Try.ntmps37
  go_wp2_with fail
  refine (Of_calls (IsT.leaf _ 1) (IsT.leaf _ 1)).mono ?_
  rintro e w1 ⟨v1, rfl, ht1, hB⟩
  obtain ⟨A3, c3, rfl, hl, hc⟩ := ht1
  have T3 := Aside0.mk (IsT.mk (k := 3) hl hc)
  obtain ⟨b1, b2, hB1⟩ := two_blocks hB
  have K1 := Aside0.mk b1
  have K2 := Aside0.mk b2
  have HB := Aside0.mk hB1
  clear hB hB1 b1 b2 hl hc
  have e10 : w1.cell? ⟨w.heap.size, 0, none⟩ = some (.int .i8 1) := (blk_cell K1.out 0).trans rfl
  have e11 : w1.cell? ⟨w.heap.size, 1, none⟩ = some (.slice none 0 0) := (blk_cell K1.out 1).trans rfl
  have e20 : w1.cell? ⟨w.heap.size + 1, 0, none⟩ = some (.int .i8 0) := (blk_cell K2.out 0).trans rfl
  have e21 : w1.cell? ⟨w.heap.size + 1, 1, none⟩ = some (.slice none 0 0) := (blk_cell K2.out 1).trans rfl
  have q1 := blk_lt K1.out
  have q2 := blk_lt K2.out
  go_wp2_with fail
  have hW := below1 w1 #[.int .i8 3, .slice A3 2 c3] 26
  have K3 := Aside0.mk (heap_alloc_new w1 (.cells #[.int .i8 3, .slice A3 2 c3] 26))
  replace K1 := Aside0.mk (blk_below K1.out hW)
  replace K2 := Aside0.mk (blk_below K2.out hW)
  replace T3 := Aside0.mk (IsT.below T3.out hW)
  replace HB := Aside0.mk (below_then HB.out HB.out.size hW)
  clear hW
  refine (Of_calls (IsT.leaf _ 0) (IsT.leaf _ 1)).mono ?_
  rintro e w2 ⟨v2, rfl, ht2, hB⟩
  obtain ⟨A4, c4, rfl, hl, hc⟩ := ht2
  have T4 := Aside0.mk (IsT.mk (k := 3) hl hc)
  replace K1 := Aside0.mk (blk_below K1.out hB)
  replace K2 := Aside0.mk (blk_below K2.out hB)
  replace K3 := Aside0.mk (blk_below K3.out hB)
  replace T3 := Aside0.mk (IsT.below T3.out hB)
  replace HB := Aside0.mk (below_then HB.out HB.out.size hB)
  clear hB hl hc e10 e11 e20 e21 q1 q2
  generalize w1.heap.size = n1 at *
  have e10 : w2.cell? ⟨w.heap.size, 0, none⟩ = some (.int .i8 1) := (blk_cell K1.out 0).trans rfl
  have e11 : w2.cell? ⟨w.heap.size, 1, none⟩ = some (.slice none 0 0) := (blk_cell K1.out 1).trans rfl
  have e20 : w2.cell? ⟨w.heap.size + 1, 0, none⟩ = some (.int .i8 0) := (blk_cell K2.out 0).trans rfl
  have e21 : w2.cell? ⟨w.heap.size + 1, 1, none⟩ = some (.slice none 0 0) := (blk_cell K2.out 1).trans rfl
  have q1 := blk_lt K1.out
  have q2 := blk_lt K2.out
  go_wp2_with fail
  have hW := below1 w2 #[.int .i8 3, .slice A4 2 c4] 26
  have K4 := Aside0.mk (heap_alloc_new w2 (.cells #[.int .i8 3, .slice A4 2 c4] 26))
  replace K1 := Aside0.mk (blk_below K1.out hW)
  replace K2 := Aside0.mk (blk_below K2.out hW)
  replace K3 := Aside0.mk (blk_below K3.out hW)
  replace T3 := Aside0.mk (IsT.below T3.out hW)
  replace T4 := Aside0.mk (IsT.below T4.out hW)
  replace HB := Aside0.mk (below_then HB.out HB.out.size hW)
  clear hW
  refine (Below_calls (IsT.leaf _ 1) (IsT.leaf _ 0)).mono ?_
  rw [rel_w1]
  rintro e w3 ⟨rfl, hB⟩
  replace K1 := Aside0.mk (blk_below K1.out hB)
  replace K2 := Aside0.mk (blk_below K2.out hB)
  replace K3 := Aside0.mk (blk_below K3.out hB)
  replace K4 := Aside0.mk (blk_below K4.out hB)
  replace T3 := Aside0.mk (IsT.below T3.out hB)
  replace T4 := Aside0.mk (IsT.below T4.out hB)
  replace HB := Aside0.mk (below_then HB.out HB.out.size hB)
  clear hB e10 e11 e20 e21 q1 q2
  generalize w2.heap.size = n2 at *
  have e10 : w3.cell? ⟨w.heap.size, 0, none⟩ = some (.int .i8 1) := (blk_cell K1.out 0).trans rfl
  have e11 : w3.cell? ⟨w.heap.size, 1, none⟩ = some (.slice none 0 0) := (blk_cell K1.out 1).trans rfl
  have e20 : w3.cell? ⟨w.heap.size + 1, 0, none⟩ = some (.int .i8 0) := (blk_cell K2.out 0).trans rfl
  have e21 : w3.cell? ⟨w.heap.size + 1, 1, none⟩ = some (.slice none 0 0) := (blk_cell K2.out 1).trans rfl
  have q1 := blk_lt K1.out
  have q2 := blk_lt K2.out
  have e30 : w3.cell? ⟨n1, 0, none⟩ = some (.int .i8 3) := (blk_cell K3.out 0).trans rfl
  have e31 : w3.cell? ⟨n1, 1, none⟩ = some (.slice A3 2 c3) := (blk_cell K3.out 1).trans rfl
  have e40 : w3.cell? ⟨n2, 0, none⟩ = some (.int .i8 3) := (blk_cell K4.out 0).trans rfl
  have e41 : w3.cell? ⟨n2, 1, none⟩ = some (.slice A4 2 c4) := (blk_cell K4.out 1).trans rfl
  go_wp2_with fail
  refine (Below_calls (IsT.leaf _ 0) (IsT.leaf _ 1)).mono ?_
  rw [rel_w2]
  rintro e w4 ⟨rfl, hB⟩
  replace K1 := Aside0.mk (blk_below K1.out hB)
  replace K2 := Aside0.mk (blk_below K2.out hB)
  replace K3 := Aside0.mk (blk_below K3.out hB)
  replace K4 := Aside0.mk (blk_below K4.out hB)
  replace T3 := Aside0.mk (IsT.below T3.out hB)
  replace T4 := Aside0.mk (IsT.below T4.out hB)
  replace HB := Aside0.mk (below_then HB.out HB.out.size hB)
  clear hB e10 e11 e20 e21 e30 e31 e40 e41 q1 q2
  have e10 : w4.cell? ⟨w.heap.size, 0, none⟩ = some (.int .i8 1) := (blk_cell K1.out 0).trans rfl
  have e11 : w4.cell? ⟨w.heap.size, 1, none⟩ = some (.slice none 0 0) := (blk_cell K1.out 1).trans rfl
  have e20 : w4.cell? ⟨w.heap.size + 1, 0, none⟩ = some (.int .i8 0) := (blk_cell K2.out 0).trans rfl
  have e21 : w4.cell? ⟨w.heap.size + 1, 1, none⟩ = some (.slice none 0 0) := (blk_cell K2.out 1).trans rfl
  have q1 := blk_lt K1.out
  have q2 := blk_lt K2.out
  have e30 : w4.cell? ⟨n1, 0, none⟩ = some (.int .i8 3) := (blk_cell K3.out 0).trans rfl
  have e31 : w4.cell? ⟨n1, 1, none⟩ = some (.slice A3 2 c3) := (blk_cell K3.out 1).trans rfl
  have e40 : w4.cell? ⟨n2, 0, none⟩ = some (.int .i8 3) := (blk_cell K4.out 0).trans rfl
  have e41 : w4.cell? ⟨n2, 1, none⟩ = some (.slice A4 2 c4) := (blk_cell K4.out 1).trans rfl
  go_wp2_with fail
  refine (Neg_calls (IsT.leaf _ 0) (IsT.leaf _ 1)).mono ?_
  rw [rel_w3]
  rintro e w5 ⟨rfl, hB⟩
  replace K1 := Aside0.mk (blk_below K1.out hB)
  replace K2 := Aside0.mk (blk_below K2.out hB)
  replace K3 := Aside0.mk (blk_below K3.out hB)
  replace K4 := Aside0.mk (blk_below K4.out hB)
  replace T3 := Aside0.mk (IsT.below T3.out hB)
  replace T4 := Aside0.mk (IsT.below T4.out hB)
  replace HB := Aside0.mk (below_then HB.out HB.out.size hB)
  clear hB e10 e11 e20 e21 e30 e31 e40 e41 q1 q2
  have e10 : w5.cell? ⟨w.heap.size, 0, none⟩ = some (.int .i8 1) := (blk_cell K1.out 0).trans rfl
  have e11 : w5.cell? ⟨w.heap.size, 1, none⟩ = some (.slice none 0 0) := (blk_cell K1.out 1).trans rfl
  have e20 : w5.cell? ⟨w.heap.size + 1, 0, none⟩ = some (.int .i8 0) := (blk_cell K2.out 0).trans rfl
  have e21 : w5.cell? ⟨w.heap.size + 1, 1, none⟩ = some (.slice none 0 0) := (blk_cell K2.out 1).trans rfl
  have q1 := blk_lt K1.out
  have q2 := blk_lt K2.out
  have e30 : w5.cell? ⟨n1, 0, none⟩ = some (.int .i8 3) := (blk_cell K3.out 0).trans rfl
  have e31 : w5.cell? ⟨n1, 1, none⟩ = some (.slice A3 2 c3) := (blk_cell K3.out 1).trans rfl
  have e40 : w5.cell? ⟨n2, 0, none⟩ = some (.int .i8 3) := (blk_cell K4.out 0).trans rfl
  have e41 : w5.cell? ⟨n2, 1, none⟩ = some (.slice A4 2 c4) := (blk_cell K4.out 1).trans rfl
  go_wp2_with fail
  refine (Pos_calls (IsT.leaf _ 0) (IsT.leaf _ 1)).mono ?_
  rw [rel_w4]
  rintro e w6 ⟨rfl, hB⟩
  replace K1 := Aside0.mk (blk_below K1.out hB)
  replace K2 := Aside0.mk (blk_below K2.out hB)
  replace K3 := Aside0.mk (blk_below K3.out hB)
  replace K4 := Aside0.mk (blk_below K4.out hB)
  replace T3 := Aside0.mk (IsT.below T3.out hB)
  replace T4 := Aside0.mk (IsT.below T4.out hB)
  replace HB := Aside0.mk (below_then HB.out HB.out.size hB)
  clear hB e10 e11 e20 e21 e30 e31 e40 e41 q1 q2
  have e10 : w6.cell? ⟨w.heap.size, 0, none⟩ = some (.int .i8 1) := (blk_cell K1.out 0).trans rfl
  have e11 : w6.cell? ⟨w.heap.size, 1, none⟩ = some (.slice none 0 0) := (blk_cell K1.out 1).trans rfl
  have e20 : w6.cell? ⟨w.heap.size + 1, 0, none⟩ = some (.int .i8 0) := (blk_cell K2.out 0).trans rfl
  have e21 : w6.cell? ⟨w.heap.size + 1, 1, none⟩ = some (.slice none 0 0) := (blk_cell K2.out 1).trans rfl
  have q1 := blk_lt K1.out
  have q2 := blk_lt K2.out
  have e30 : w6.cell? ⟨n1, 0, none⟩ = some (.int .i8 3) := (blk_cell K3.out 0).trans rfl
  have e31 : w6.cell? ⟨n1, 1, none⟩ = some (.slice A3 2 c3) := (blk_cell K3.out 1).trans rfl
  have e40 : w6.cell? ⟨n2, 0, none⟩ = some (.int .i8 3) := (blk_cell K4.out 0).trans rfl
  have e41 : w6.cell? ⟨n2, 1, none⟩ = some (.slice A4 2 c4) := (blk_cell K4.out 1).trans rfl
  go_wp2_with fail
  refine (Pos_calls (T3.out) (T4.out)).mono ?_
  rw [rel_w5]
  rintro e w7 ⟨rfl, hB⟩
  replace K1 := Aside0.mk (blk_below K1.out hB)
  replace K2 := Aside0.mk (blk_below K2.out hB)
  replace K3 := Aside0.mk (blk_below K3.out hB)
  replace K4 := Aside0.mk (blk_below K4.out hB)
  replace T3 := Aside0.mk (IsT.below T3.out hB)
  replace T4 := Aside0.mk (IsT.below T4.out hB)
  replace HB := Aside0.mk (below_then HB.out HB.out.size hB)
  clear hB e10 e11 e20 e21 e30 e31 e40 e41 q1 q2
  have e10 : w7.cell? ⟨w.heap.size, 0, none⟩ = some (.int .i8 1) := (blk_cell K1.out 0).trans rfl
  have e11 : w7.cell? ⟨w.heap.size, 1, none⟩ = some (.slice none 0 0) := (blk_cell K1.out 1).trans rfl
  have e20 : w7.cell? ⟨w.heap.size + 1, 0, none⟩ = some (.int .i8 0) := (blk_cell K2.out 0).trans rfl
  have e21 : w7.cell? ⟨w.heap.size + 1, 1, none⟩ = some (.slice none 0 0) := (blk_cell K2.out 1).trans rfl
  have q1 := blk_lt K1.out
  have q2 := blk_lt K2.out
  have e30 : w7.cell? ⟨n1, 0, none⟩ = some (.int .i8 3) := (blk_cell K3.out 0).trans rfl
  have e31 : w7.cell? ⟨n1, 1, none⟩ = some (.slice A3 2 c3) := (blk_cell K3.out 1).trans rfl
  have e40 : w7.cell? ⟨n2, 0, none⟩ = some (.int .i8 3) := (blk_cell K4.out 0).trans rfl
  have e41 : w7.cell? ⟨n2, 1, none⟩ = some (.slice A4 2 c4) := (blk_cell K4.out 1).trans rfl
  go_wp2_with fail
  refine (Neg_calls (T3.out) (T4.out)).mono ?_
  rw [rel_w6]
  rintro e w8 ⟨rfl, hB⟩
  replace K1 := Aside0.mk (blk_below K1.out hB)
  replace K2 := Aside0.mk (blk_below K2.out hB)
  replace K3 := Aside0.mk (blk_below K3.out hB)
  replace K4 := Aside0.mk (blk_below K4.out hB)
  replace T3 := Aside0.mk (IsT.below T3.out hB)
  replace T4 := Aside0.mk (IsT.below T4.out hB)
  replace HB := Aside0.mk (below_then HB.out HB.out.size hB)
  clear hB e10 e11 e20 e21 e30 e31 e40 e41 q1 q2
  have e10 : w8.cell? ⟨w.heap.size, 0, none⟩ = some (.int .i8 1) := (blk_cell K1.out 0).trans rfl
  have e11 : w8.cell? ⟨w.heap.size, 1, none⟩ = some (.slice none 0 0) := (blk_cell K1.out 1).trans rfl
  have e20 : w8.cell? ⟨w.heap.size + 1, 0, none⟩ = some (.int .i8 0) := (blk_cell K2.out 0).trans rfl
  have e21 : w8.cell? ⟨w.heap.size + 1, 1, none⟩ = some (.slice none 0 0) := (blk_cell K2.out 1).trans rfl
  have q1 := blk_lt K1.out
  have q2 := blk_lt K2.out
  have e30 : w8.cell? ⟨n1, 0, none⟩ = some (.int .i8 3) := (blk_cell K3.out 0).trans rfl
  have e31 : w8.cell? ⟨n1, 1, none⟩ = some (.slice A3 2 c3) := (blk_cell K3.out 1).trans rfl
  have e40 : w8.cell? ⟨n2, 0, none⟩ = some (.int .i8 3) := (blk_cell K4.out 0).trans rfl
  have e41 : w8.cell? ⟨n2, 1, none⟩ = some (.slice A4 2 c4) := (blk_cell K4.out 1).trans rfl
  go_wp2_with fail
  refine (Below_calls (T4.out) (T3.out)).mono ?_
  rw [rel_w7]
  rintro e w9 ⟨rfl, hB⟩
  replace K1 := Aside0.mk (blk_below K1.out hB)
  replace K2 := Aside0.mk (blk_below K2.out hB)
  replace K3 := Aside0.mk (blk_below K3.out hB)
  replace K4 := Aside0.mk (blk_below K4.out hB)
  replace T3 := Aside0.mk (IsT.below T3.out hB)
  replace T4 := Aside0.mk (IsT.below T4.out hB)
  replace HB := Aside0.mk (below_then HB.out HB.out.size hB)
  clear hB e10 e11 e20 e21 e30 e31 e40 e41 q1 q2
  have e10 : w9.cell? ⟨w.heap.size, 0, none⟩ = some (.int .i8 1) := (blk_cell K1.out 0).trans rfl
  have e11 : w9.cell? ⟨w.heap.size, 1, none⟩ = some (.slice none 0 0) := (blk_cell K1.out 1).trans rfl
  have e20 : w9.cell? ⟨w.heap.size + 1, 0, none⟩ = some (.int .i8 0) := (blk_cell K2.out 0).trans rfl
  have e21 : w9.cell? ⟨w.heap.size + 1, 1, none⟩ = some (.slice none 0 0) := (blk_cell K2.out 1).trans rfl
  have q1 := blk_lt K1.out
  have q2 := blk_lt K2.out
  have e30 : w9.cell? ⟨n1, 0, none⟩ = some (.int .i8 3) := (blk_cell K3.out 0).trans rfl
  have e31 : w9.cell? ⟨n1, 1, none⟩ = some (.slice A3 2 c3) := (blk_cell K3.out 1).trans rfl
  have e40 : w9.cell? ⟨n2, 0, none⟩ = some (.int .i8 3) := (blk_cell K4.out 0).trans rfl
  have e41 : w9.cell? ⟨n2, 1, none⟩ = some (.slice A4 2 c4) := (blk_cell K4.out 1).trans rfl
  go_wp2_with fail
  go_ret
  exact ⟨rfl, HB.out⟩
end Go.Proofs.Ytamhdpllmhafhaa.X
