/- The walk of the law ScanKnown (no input). -/
import Derived.Test.YtjmpejbciniceaaDoorWkScanAll
namespace Go.Proofs.YtjmpejbciniceaaDoor.X
open Go.RowKit Go.Proofs.YtjmpejbciniceaaDoorW.PrintWords Go.Proofs.YtjmpejbciniceaaDoorW.PrintLast Go.Proofs.YtjmpejbciniceaaDoorW.PrintMore
set_option linter.unusedVariables false
set_option linter.unusedSimpArgs false

def kw : List S37 := [⟨1, bytesS [97], 0, 0⟩, ⟨4, bytesS [45, 62], 0, 1⟩, ⟨1, bytesS [98], 0, 3⟩, ⟨0, ⟨#[]⟩, 0, 8⟩]
theorem kw_ok : ∃ ws, scanAll ⟨#[97, 45, 62, 98, 32, 35, 32, 99]⟩ = .ok ws ∧ ws.map wv ++ [endV 8] = kw := ⟨[⟨1, [97], 0, 0⟩, ⟨4, [45, 62], 0, 1⟩, ⟨1, [98], 0, 3⟩], by kernel_rfl, by kernel_rfl⟩
theorem kt0 : ∃ l, scanAll ⟨#[48, 48, 55]⟩ = .error (10, 0, l) ∧ bytesS l = ⟨#[48, 48, 55]⟩ := ⟨[48, 48, 55], by kernel_rfl, by kernel_rfl⟩
theorem kt1 : ∃ l, scanAll ⟨#[49, 97]⟩ = .error (10, 0, l) ∧ bytesS l = ⟨#[49]⟩ := ⟨[49], by kernel_rfl, by kernel_rfl⟩
theorem kt2 : ∃ l, scanAll ⟨#[97, 33, 98]⟩ = .error (10, 1, l) ∧ bytesS l = ⟨#[33]⟩ := ⟨[33], by kernel_rfl, by kernel_rfl⟩
theorem kt3 : ∃ l, scanAll ⟨#[57, 50, 50, 51, 51, 55, 50, 48, 51, 54, 56, 53, 52, 55, 55, 53, 56, 48, 56]⟩ = .error (3, 0, l) ∧ bytesS l = ⟨#[57, 50, 50, 51, 51, 55, 50, 48, 51, 54, 56, 53, 52, 55, 55, 53, 56, 48, 56]⟩ := ⟨[57, 50, 50, 51, 51, 55, 50, 48, 51, 54, 56, 53, 52, 55, 55, 53, 56, 48, 56], by kernel_rfl, by kernel_rfl⟩
attribute [local go_sem high] eqA37
set_option maxRecDepth 100000 in
set_option maxHeartbeats 3200000 in
theorem scanknown_walk (w : World) (hg : HasErr w) : Calls Tryd.prog 4 #[] w fun e w' => e = .returned (.bool true) ∧ Below w.heap.size w w' := by
  have HG := Aside0.mk hg
  clear hg
  obtain ⟨ws, h1, h2⟩ := kw_ok
  have HK := Aside0.mk h1
  have HL := Aside0.mk h2
  clear h1 h2
  go_enter Tryd.func4, Tryd.ntmps4
  go_wp2_with fail
  refine (all_calls _ _).mono ?_
  rw [HK.out]
  rintro e w1 ⟨v, rfl, hR, hB⟩
  change k37.R 37 _ _ _ v (ws.map wv ++ [endV 8]) at hR
  rw [HL.out] at hR
  obtain ⟨A, c, rfl, hc, hC⟩ := row_reads hR
  have HB := Aside0.mk hB
  clear hR hB
  have hu37 := Tryd.underlying37
  obtain ⟨ad1, e1, h10, h11, h12, h13⟩ := at_T37 hC 1 (by omega) (by decide)
  cases e1
  obtain ⟨ad2, e2, h20, h21, h22, h23⟩ := at_T37 hC 2 (by omega) (by decide)
  cases e2
  obtain ⟨ad3, e3, h30, h31, h32, h33⟩ := at_T37 hC 3 (by omega) (by decide)
  cases e3
  clear hC
  have g1 : rd_T37 kw 1 = ⟨4, ⟨#[45, 62]⟩, 0, 1⟩ := by rfl
  have g2 : rd_T37 kw 2 = ⟨1, ⟨#[98]⟩, 0, 3⟩ := by rfl
  have g3 : rd_T37 kw 3 = ⟨0, ⟨#[]⟩, 0, 8⟩ := by rfl
  simp only [g1, g2, g3] at h10 h11 h12 h13 h20 h21 h22 h23 h30 h31 h32 h33
  change w1.cell? ⟨ad1.block, ad1.off + 4, none⟩ = _ at h10
  change w1.cell? ⟨ad1.block, ad1.off + 4 + 1, none⟩ = _ at h11
  change w1.cell? ⟨ad1.block, ad1.off + 4 + 2, none⟩ = _ at h12
  change w1.cell? ⟨ad1.block, ad1.off + 4 + 3, none⟩ = _ at h13
  change w1.cell? ⟨ad1.block, ad1.off + 8, none⟩ = _ at h20
  change w1.cell? ⟨ad1.block, ad1.off + 8 + 1, none⟩ = _ at h21
  change w1.cell? ⟨ad1.block, ad1.off + 8 + 2, none⟩ = _ at h22
  change w1.cell? ⟨ad1.block, ad1.off + 8 + 3, none⟩ = _ at h23
  change w1.cell? ⟨ad1.block, ad1.off + 12, none⟩ = _ at h30
  change w1.cell? ⟨ad1.block, ad1.off + 12 + 1, none⟩ = _ at h31
  change w1.cell? ⟨ad1.block, ad1.off + 12 + 2, none⟩ = _ at h32
  change w1.cell? ⟨ad1.block, ad1.off + 12 + 3, none⟩ = _ at h33
  have hlen : (kw.length : Int) = 4 := rfl
  clear g1 g2 g3
  go_wp2_with fail
  have HB2 : Aside0 (Below w.heap.size w (w1.alloc (.cells #[.string ⟨#[48, 48, 55]⟩, .int .i64 10, .int .i64 0, .string ⟨#[48, 48, 55]⟩, .string ⟨#[49, 97]⟩, .int .i64 10, .int .i64 0, .string ⟨#[49]⟩, .string ⟨#[97, 33, 98]⟩, .int .i64 10, .int .i64 1, .string ⟨#[33]⟩, .string ⟨#[57, 50, 50, 51, 51, 55, 50, 48, 51, 54, 56, 53, 52, 55, 55, 53, 56, 48, 56]⟩, .int .i64 3, .int .i64 0, .string ⟨#[57, 50, 50, 51, 51, 55, 50, 48, 51, 54, 56, 53, 52, 55, 55, 53, 56, 48, 56]⟩] 38))) := .mk (HB.out.alloc HB.out.size _)
  have KA := Aside0.mk (heap_alloc_new w1 (.cells #[.string ⟨#[48, 48, 55]⟩, .int .i64 10, .int .i64 0, .string ⟨#[48, 48, 55]⟩, .string ⟨#[49, 97]⟩, .int .i64 10, .int .i64 0, .string ⟨#[49]⟩, .string ⟨#[97, 33, 98]⟩, .int .i64 10, .int .i64 1, .string ⟨#[33]⟩, .string ⟨#[57, 50, 50, 51, 51, 55, 50, 48, 51, 54, 56, 53, 52, 55, 55, 53, 56, 48, 56]⟩, .int .i64 3, .int .i64 0, .string ⟨#[57, 50, 50, 51, 51, 55, 50, 48, 51, 54, 56, 53, 52, 55, 55, 53, 56, 48, 56]⟩] 38))
  have hn : w.heap.size ≤ w1.heap.size := HB.out.size
  generalize w1.alloc (.cells #[.string ⟨#[48, 48, 55]⟩, .int .i64 10, .int .i64 0, .string ⟨#[48, 48, 55]⟩, .string ⟨#[49, 97]⟩, .int .i64 10, .int .i64 0, .string ⟨#[49]⟩, .string ⟨#[97, 33, 98]⟩, .int .i64 10, .int .i64 1, .string ⟨#[33]⟩, .string ⟨#[57, 50, 50, 51, 51, 55, 50, 48, 51, 54, 56, 53, 52, 55, 55, 53, 56, 48, 56]⟩, .int .i64 3, .int .i64 0, .string ⟨#[57, 50, 50, 51, 51, 55, 50, 48, 51, 54, 56, 53, 52, 55, 55, 53, 56, 48, 56]⟩] 38) = w2 at *
  generalize w1.heap.size = n1 at *
  clear h10 h11 h12 h13 h20 h21 h22 h23 h30 h31 h32 h33 hlen HB HK HL
  go_loopg [49] 5 (fun kq v w' => ∃ (j : Nat), v = .int .i64 (j : Int) ∧ Aside0 (j + kq = 5 ∧ 1 ≤ kq) ∧ Aside0 (w'.heap[n1]? = some (.cells #[.string ⟨#[48, 48, 55]⟩, .int .i64 10, .int .i64 0, .string ⟨#[48, 48, 55]⟩, .string ⟨#[49, 97]⟩, .int .i64 10, .int .i64 0, .string ⟨#[49]⟩, .string ⟨#[97, 33, 98]⟩, .int .i64 10, .int .i64 1, .string ⟨#[33]⟩, .string ⟨#[57, 50, 50, 51, 51, 55, 50, 48, 51, 54, 56, 53, 52, 55, 55, 53, 56, 48, 56]⟩, .int .i64 3, .int .i64 0, .string ⟨#[57, 50, 50, 51, 51, 55, 50, 48, 51, 54, 56, 53, 52, 55, 55, 53, 56, 48, 56]⟩] 38 (0, 0))) ∧ Aside0 (Below w.heap.size w w'))
  case atStart => exact ⟨0, rfl, ⟨rfl, by decide⟩, KA, HB2⟩
  case round =>
    obtain ⟨j, rfl, HJ, HA, HW⟩ := hrel
    clear KA HB2
    cases gk with
    | zero => exact absurd HJ.out.2 (by decide)
    | succ k1 =>
      have hj := HJ.out
      clear HJ
      rcases (by omega : j = 0 ∨ j = 1 ∨ j = 2 ∨ j = 3 ∨ j = 4) with rfl | rfl | rfl | rfl | rfl
      · obtain rfl : k1 = 4 := by omega
        obtain ⟨l, hl1, hl2⟩ := kt0
        have c0 := (blk_cell HA.out 0).trans rfl
        have c1 := (blk_cell HA.out 1).trans rfl
        have c2 := (blk_cell HA.out 2).trans rfl
        have c3 := (blk_cell HA.out 3).trans rfl
        simp at c0 c1 c2 c3
        go_wp2_with fail
        have hB1 : Below wr.heap.size wr (wr.alloc (.cells #[.string ⟨#[48, 48, 55]⟩, .int .i64 10, .int .i64 0, .string ⟨#[48, 48, 55]⟩] 38)) := (Below.refl _ _).alloc (Nat.le_refl _) _
        have HX := Aside0.mk (heap_alloc_new wr (.cells #[.string ⟨#[48, 48, 55]⟩, .int .i64 10, .int .i64 0, .string ⟨#[48, 48, 55]⟩] 38))
        replace HA := Aside0.mk (blk_below HA.out hB1)
        replace HW := Aside0.mk (below_then HW.out HW.out.size hB1)
        clear c0 c1 c2 c3 hB1
        generalize wr.alloc (.cells #[.string ⟨#[48, 48, 55]⟩, .int .i64 10, .int .i64 0, .string ⟨#[48, 48, 55]⟩] 38) = wa at *
        generalize wr.heap.size = na at *
        refine (all_calls _ _).mono ?_
        rw [hl1]
        rintro e wb ⟨q, rfl, hq, hql, hB⟩
        rw [hl2] at hq
        have HQ := Aside0.mk hq
        replace HX := Aside0.mk (blk_below HX.out hB)
        replace HA := Aside0.mk (blk_below HA.out hB)
        replace HW := Aside0.mk (below_then HW.out HW.out.size hB)
        clear hq hql hB hl1 hl2
        have d1 := (blk_cell HX.out 1).trans rfl
        have d2 := (blk_cell HX.out 2).trans rfl
        have d3 := (blk_cell HX.out 3).trans rfl
        simp at d1 d2 d3
        go_wp2_with fail
        refine (told_at q 10 0 ⟨#[48, 48, 55]⟩ _ HQ.out (HG.out.below HW.out) (by decide)).mono ?_
        rintro e wc ⟨rfl, hB⟩
        replace HA := Aside0.mk (blk_below HA.out hB)
        replace HW := Aside0.mk (below_then HW.out HW.out.size hB)
        clear hB d1 d2 d3 HQ HX
        go_wp2_with fail
        go_roundg 4
        case measure => omega
        case rel => exact ⟨1, rfl, ⟨by decide, by decide⟩, HA, HW⟩
      · obtain rfl : k1 = 3 := by omega
        obtain ⟨l, hl1, hl2⟩ := kt1
        have c0 := (blk_cell HA.out 4).trans rfl
        have c1 := (blk_cell HA.out 5).trans rfl
        have c2 := (blk_cell HA.out 6).trans rfl
        have c3 := (blk_cell HA.out 7).trans rfl
        simp at c0 c1 c2 c3
        go_wp2_with fail
        have hB1 : Below wr.heap.size wr (wr.alloc (.cells #[.string ⟨#[49, 97]⟩, .int .i64 10, .int .i64 0, .string ⟨#[49]⟩] 38)) := (Below.refl _ _).alloc (Nat.le_refl _) _
        have HX := Aside0.mk (heap_alloc_new wr (.cells #[.string ⟨#[49, 97]⟩, .int .i64 10, .int .i64 0, .string ⟨#[49]⟩] 38))
        replace HA := Aside0.mk (blk_below HA.out hB1)
        replace HW := Aside0.mk (below_then HW.out HW.out.size hB1)
        clear c0 c1 c2 c3 hB1
        generalize wr.alloc (.cells #[.string ⟨#[49, 97]⟩, .int .i64 10, .int .i64 0, .string ⟨#[49]⟩] 38) = wa at *
        generalize wr.heap.size = na at *
        refine (all_calls _ _).mono ?_
        rw [hl1]
        rintro e wb ⟨q, rfl, hq, hql, hB⟩
        rw [hl2] at hq
        have HQ := Aside0.mk hq
        replace HX := Aside0.mk (blk_below HX.out hB)
        replace HA := Aside0.mk (blk_below HA.out hB)
        replace HW := Aside0.mk (below_then HW.out HW.out.size hB)
        clear hq hql hB hl1 hl2
        have d1 := (blk_cell HX.out 1).trans rfl
        have d2 := (blk_cell HX.out 2).trans rfl
        have d3 := (blk_cell HX.out 3).trans rfl
        simp at d1 d2 d3
        go_wp2_with fail
        refine (told_at q 10 0 ⟨#[49]⟩ _ HQ.out (HG.out.below HW.out) (by decide)).mono ?_
        rintro e wc ⟨rfl, hB⟩
        replace HA := Aside0.mk (blk_below HA.out hB)
        replace HW := Aside0.mk (below_then HW.out HW.out.size hB)
        clear hB d1 d2 d3 HQ HX
        go_wp2_with fail
        go_roundg 3
        case measure => omega
        case rel => exact ⟨2, rfl, ⟨by decide, by decide⟩, HA, HW⟩
      · obtain rfl : k1 = 2 := by omega
        obtain ⟨l, hl1, hl2⟩ := kt2
        have c0 := (blk_cell HA.out 8).trans rfl
        have c1 := (blk_cell HA.out 9).trans rfl
        have c2 := (blk_cell HA.out 10).trans rfl
        have c3 := (blk_cell HA.out 11).trans rfl
        simp at c0 c1 c2 c3
        go_wp2_with fail
        have hB1 : Below wr.heap.size wr (wr.alloc (.cells #[.string ⟨#[97, 33, 98]⟩, .int .i64 10, .int .i64 1, .string ⟨#[33]⟩] 38)) := (Below.refl _ _).alloc (Nat.le_refl _) _
        have HX := Aside0.mk (heap_alloc_new wr (.cells #[.string ⟨#[97, 33, 98]⟩, .int .i64 10, .int .i64 1, .string ⟨#[33]⟩] 38))
        replace HA := Aside0.mk (blk_below HA.out hB1)
        replace HW := Aside0.mk (below_then HW.out HW.out.size hB1)
        clear c0 c1 c2 c3 hB1
        generalize wr.alloc (.cells #[.string ⟨#[97, 33, 98]⟩, .int .i64 10, .int .i64 1, .string ⟨#[33]⟩] 38) = wa at *
        generalize wr.heap.size = na at *
        refine (all_calls _ _).mono ?_
        rw [hl1]
        rintro e wb ⟨q, rfl, hq, hql, hB⟩
        rw [hl2] at hq
        have HQ := Aside0.mk hq
        replace HX := Aside0.mk (blk_below HX.out hB)
        replace HA := Aside0.mk (blk_below HA.out hB)
        replace HW := Aside0.mk (below_then HW.out HW.out.size hB)
        clear hq hql hB hl1 hl2
        have d1 := (blk_cell HX.out 1).trans rfl
        have d2 := (blk_cell HX.out 2).trans rfl
        have d3 := (blk_cell HX.out 3).trans rfl
        simp at d1 d2 d3
        go_wp2_with fail
        refine (told_at q 10 1 ⟨#[33]⟩ _ HQ.out (HG.out.below HW.out) (by decide)).mono ?_
        rintro e wc ⟨rfl, hB⟩
        replace HA := Aside0.mk (blk_below HA.out hB)
        replace HW := Aside0.mk (below_then HW.out HW.out.size hB)
        clear hB d1 d2 d3 HQ HX
        go_wp2_with fail
        go_roundg 2
        case measure => omega
        case rel => exact ⟨3, rfl, ⟨by decide, by decide⟩, HA, HW⟩
      · obtain rfl : k1 = 1 := by omega
        obtain ⟨l, hl1, hl2⟩ := kt3
        have c0 := (blk_cell HA.out 12).trans rfl
        have c1 := (blk_cell HA.out 13).trans rfl
        have c2 := (blk_cell HA.out 14).trans rfl
        have c3 := (blk_cell HA.out 15).trans rfl
        simp at c0 c1 c2 c3
        go_wp2_with fail
        have hB1 : Below wr.heap.size wr (wr.alloc (.cells #[.string ⟨#[57, 50, 50, 51, 51, 55, 50, 48, 51, 54, 56, 53, 52, 55, 55, 53, 56, 48, 56]⟩, .int .i64 3, .int .i64 0, .string ⟨#[57, 50, 50, 51, 51, 55, 50, 48, 51, 54, 56, 53, 52, 55, 55, 53, 56, 48, 56]⟩] 38)) := (Below.refl _ _).alloc (Nat.le_refl _) _
        have HX := Aside0.mk (heap_alloc_new wr (.cells #[.string ⟨#[57, 50, 50, 51, 51, 55, 50, 48, 51, 54, 56, 53, 52, 55, 55, 53, 56, 48, 56]⟩, .int .i64 3, .int .i64 0, .string ⟨#[57, 50, 50, 51, 51, 55, 50, 48, 51, 54, 56, 53, 52, 55, 55, 53, 56, 48, 56]⟩] 38))
        replace HA := Aside0.mk (blk_below HA.out hB1)
        replace HW := Aside0.mk (below_then HW.out HW.out.size hB1)
        clear c0 c1 c2 c3 hB1
        generalize wr.alloc (.cells #[.string ⟨#[57, 50, 50, 51, 51, 55, 50, 48, 51, 54, 56, 53, 52, 55, 55, 53, 56, 48, 56]⟩, .int .i64 3, .int .i64 0, .string ⟨#[57, 50, 50, 51, 51, 55, 50, 48, 51, 54, 56, 53, 52, 55, 55, 53, 56, 48, 56]⟩] 38) = wa at *
        generalize wr.heap.size = na at *
        refine (all_calls _ _).mono ?_
        rw [hl1]
        rintro e wb ⟨q, rfl, hq, hql, hB⟩
        rw [hl2] at hq
        have HQ := Aside0.mk hq
        replace HX := Aside0.mk (blk_below HX.out hB)
        replace HA := Aside0.mk (blk_below HA.out hB)
        replace HW := Aside0.mk (below_then HW.out HW.out.size hB)
        clear hq hql hB hl1 hl2
        have d1 := (blk_cell HX.out 1).trans rfl
        have d2 := (blk_cell HX.out 2).trans rfl
        have d3 := (blk_cell HX.out 3).trans rfl
        simp at d1 d2 d3
        go_wp2_with fail
        refine (told_at q 3 0 ⟨#[57, 50, 50, 51, 51, 55, 50, 48, 51, 54, 56, 53, 52, 55, 55, 53, 56, 48, 56]⟩ _ HQ.out (HG.out.below HW.out) (by decide)).mono ?_
        rintro e wc ⟨rfl, hB⟩
        replace HA := Aside0.mk (blk_below HA.out hB)
        replace HW := Aside0.mk (below_then HW.out HW.out.size hB)
        clear hB d1 d2 d3 HQ HX
        go_wp2_with fail
        go_roundg 1
        case measure => omega
        case rel => exact ⟨4, rfl, ⟨by decide, by decide⟩, HA, HW⟩
      · obtain rfl : k1 = 0 := by omega
        go_wp2_with fail
        go_ret
        exact ⟨rfl, HW.out⟩
end Go.Proofs.YtjmpejbciniceaaDoor.X
