/- Hand texts of round 1, parted: HAsR. -/
import Derived.Test.YtamhdpllmhafhaaFRefCheck
import Derived.Test.YtamhdpllmhafhaaHAs
import Derived.Test.YtamhdpllmhafhaaHIs
import Derived.Test.YtamhdpllmhafhaaHSpec
import Derived.Test.YtamhdpllmhafhaaHSpecR
import Derived.Test.YtamhdpllmhafhaaX0
import Derived.RegionTactic
import Derived.ChangeAlike
import Derived.BigRegion
namespace Go.Proofs.Ytamhdpllmhafhaa.X
open Go.RowKit Go.Proofs.YtamhdpllmhafhaaW.PrintWords Go.Proofs.YtamhdpllmhafhaaW.PrintLast Go.Proofs.YtamhdpllmhafhaaW.PrintMore
set_option linter.unusedVariables false
set_option linter.unusedSimpArgs false

theorem refCheck_calls {t : S26} {v : Value} {w : World} (h : IsT w v t) : Calls Try.prog 45 #[v] w fun e w' => e = .returned (.int .i64 (checkI t)) ∧ Below w.heap.size w w' := by
  obtain ⟨A, c, rfl, h1, h2⟩ := h
  obtain ⟨k, hk⟩ := (refCheck_ev t.f0 t.f1).rounds
  rw [S26.eta] at hk
  exact lychgateref02_Check.calls k t.f0 A c t.f1 _ w h2 h1 hk
set_option maxRecDepth 100000 in
set_option maxHeartbeats 1600000 in
theorem ref_As_3 (t : S26) (v : Value) (w : World) (h : IsT w v t) : Calls Try.prog 23 #[.int .i8 3, v] w (AsPost 3 t w) := by
  obtain ⟨A, c, rfl, h1, h2⟩ := h
  have HT := Aside0.mk (IsT.mk (k := t.f0) h1 h2)
  rw [S26.eta] at HT
  have HR := Aside0.mk h2
  clear h2
  by_cases k3 : checkI t = 0
  · have d3 : (checkI t != 0) = false := by simp [k3]
    by_cases k4 : t.f0 = 0
    · have hv : asT 3 t = (z26, z26, true) := by unfold asT; rw [if_pos ⟨⟨by omega, by omega⟩, k3⟩, if_pos k4]
      have HV := Aside0.mk hv
      have d4 : (t.f0 == 0) = true := by simp [k4]
      clear hv k3 k4
      go_enter Try.func23, Try.ntmps23
      go_wp2_with fail
      refine (refCheck_calls (HT.out.below (below3 _ _ _ _ _ _ _))).mono ?_
      rintro e w1 ⟨rfl, hB⟩
      obtain ⟨b1, b2, b3, hB⟩ := three_blocks hB
      have c1 := blk_cell b1
      have c2 := blk_cell b2
      have z2 := blk_frozen b2
      have c3 := blk_cell b3
      have z3 := blk_frozen b3
      have e10 := c1 0
      have e11 := c1 1
      have e20 := c2 0
      have e21 := c2 1
      have e30 := c3 0
      have e31 := c3 1
      have y20 := z2 0
      have y21 := z2 1
      have y30 := z3 0
      have y31 := z3 1
      have HB := Aside0.mk hB
      simp at e10 e11 e20 e21 e30 e31
      clear c1 c2 z2 c3 z3 b1 b2 b3 hB
      go_wp2_with fail
      exact bodyPost_ret (v := .tuple #[.agg #[.int .i8 0, .slice none 0 0], .agg #[.int .i8 0, .slice none 0 0], .bool true]) (by simp [results, Try.results23, go_sem, e20, e21, e30, e31]) rfl (AsPost_mk HV.out (IsT.zero _) (IsT.zero _) ((((HB.out.setCell (by simp) _).setCell (by simp) _).setCell (by simp; omega) _).setCell (by simp; omega) _))
    have d4 : (t.f0 == 0) = false := by simp [k4]
    by_cases k5 : t.f0 = 3
    · have hv : asT 3 t = (rd_T26 t.f1 0, rd_T26 t.f1 1, true) := by unfold asT; rw [if_pos ⟨⟨by omega, by omega⟩, k3⟩, if_neg k4, if_pos k5]
      have HV := Aside0.mk hv
      have hlen : t.f1.length = 2 := by
        have := (check_nodes k3).2.2
        rw [rightB_eq] at this
        simp only [Bool.and_eq_true, decide_eq_true_eq] at this
        have h3 := this.1
        have hp : partsI t.f0 = 2 := by rw [k5]; rfl
        omega
      obtain ⟨ad, B1, d1, hA, hx0, hx1, hl1, hi1⟩ := at_T26 HR.out 0 (by omega) (by omega)
      obtain ⟨ad', B2, d2, hA', hy0, hy1, hl2, hi2⟩ := at_T26 HR.out 1 (by omega) (by omega)
      rw [hA] at hA'
      cases hA'
      cases hA
      have HX := Aside0.mk (IsT.mk (k := (rd_T26 t.f1 0).f0) hl1 hi1)
      have HY := Aside0.mk (IsT.mk (k := (rd_T26 t.f1 1).f0) hl2 hi2)
      rw [S26.eta] at HX HY
      generalize rd_T26 t.f1 0 = x at *
      generalize rd_T26 t.f1 1 = y at *
      have d5 : (t.f0 != 3) = false := by simp [k5]
      have hk0 : (0 : Int) < (t.f1.length : Int) := by omega
      have hk1 : (1 : Int) < (t.f1.length : Int) := by omega
      have HL := Aside0.mk hlen
      clear hv k3 k4 k5 hi1 hi2 hlen
      go_enter Try.func23, Try.ntmps23
      go_wp2_with fail
      refine (refCheck_calls (HT.out.below (below3 _ _ _ _ _ _ _))).mono ?_
      rintro e w1 ⟨rfl, hB⟩
      obtain ⟨b1, b2, b3, hB⟩ := three_blocks hB
      have c1 := blk_cell b1
      have c2 := blk_cell b2
      have z2 := blk_frozen b2
      have c3 := blk_cell b3
      have z3 := blk_frozen b3
      have e10 := c1 0
      have e11 := c1 1
      have e20 := c2 0
      have e21 := c2 1
      have e30 := c3 0
      have e31 := c3 1
      have y20 := z2 0
      have y21 := z2 1
      have y30 := z3 0
      have y31 := z3 1
      have HB := Aside0.mk hB
      simp at e10 e11 e20 e21 e30 e31
      clear c1 c2 z2 c3 z3 b1 b2 b3 hB
      have hx0 := (HB.out.cell (World.block_lt_of_cell? w _ hx0)).trans hx0
      have hx1 := (HB.out.cell (World.block_lt_of_cell? w _ hx1)).trans hx1
      have hy0 := (HB.out.cell (World.block_lt_of_cell? w _ hy0)).trans hy0
      have hy1 := (HB.out.cell (World.block_lt_of_cell? w _ hy1)).trans hy1
      simp [Addr.add] at hx0 hx1 hy0 hy1
      go_wp2_with fail
      go_region
      go_wp2_with fail
      have HF := Aside0.mk (((((HB.out.setCell (p := ⟨w.heap.size + 1, 0, none⟩) (by simp) (.int .i8 x.f0)).setCell (p := ⟨w.heap.size + 1, 1, none⟩) (by simp) (.slice B1 x.f1.length d1)).setCell (p := ⟨w.heap.size + 1 + 1, 0, none⟩) (by simp; omega) (.int .i8 y.f0)).setCell (p := ⟨w.heap.size + 1 + 1, 1, none⟩) (by simp; omega) (.slice B2 y.f1.length d2)).drew)
      exact bodyPost_ret (v := .tuple #[.agg #[.int .i8 x.f0, .slice B1 x.f1.length d1], .agg #[.int .i8 y.f0, .slice B2 y.f1.length d2], .bool true]) (by simp [results, Try.results23, go_sem, e20, e21, e30, e31]) rfl (AsPost_mk HV.out (HX.out.below HF.out) (HY.out.below HF.out) HF.out)
    · have hv : asT 3 t = (z26, z26, false) := by unfold asT; rw [if_pos ⟨⟨by omega, by omega⟩, k3⟩, if_neg k4, if_neg k5]
      have HV := Aside0.mk hv
      have d5 : (t.f0 != 3) = true := bne_iff_ne.mpr k5
      clear hv k3 k4 k5
      go_enter Try.func23, Try.ntmps23
      go_wp2_with fail
      refine (refCheck_calls (HT.out.below (below3 _ _ _ _ _ _ _))).mono ?_
      rintro e w1 ⟨rfl, hB⟩
      obtain ⟨b1, b2, b3, hB⟩ := three_blocks hB
      have c1 := blk_cell b1
      have c2 := blk_cell b2
      have z2 := blk_frozen b2
      have c3 := blk_cell b3
      have z3 := blk_frozen b3
      have e10 := c1 0
      have e11 := c1 1
      have e20 := c2 0
      have e21 := c2 1
      have e30 := c3 0
      have e31 := c3 1
      have y20 := z2 0
      have y21 := z2 1
      have y30 := z3 0
      have y31 := z3 1
      have HB := Aside0.mk hB
      simp at e10 e11 e20 e21 e30 e31
      clear c1 c2 z2 c3 z3 b1 b2 b3 hB
      go_wp2_with fail
      exact bodyPost_ret (v := .tuple #[.agg #[.int .i8 0, .slice none 0 0], .agg #[.int .i8 0, .slice none 0 0], .bool false]) (by simp [results, Try.results23, go_sem, e20, e21, e30, e31]) rfl (AsPost_mk HV.out (IsT.zero _) (IsT.zero _) ((((HB.out.setCell (by simp) _).setCell (by simp) _).setCell (by simp; omega) _).setCell (by simp; omega) _))
  · have hv : asT 3 t = (z26, z26, false) := by unfold asT; rw [if_neg (by omega)]
    have HV := Aside0.mk hv
    have d3 : (checkI t != 0) = true := bne_iff_ne.mpr k3
    clear hv k3
    go_enter Try.func23, Try.ntmps23
    go_wp2_with fail
    refine (refCheck_calls (HT.out.below (below3 _ _ _ _ _ _ _))).mono ?_
    rintro e w1 ⟨rfl, hB⟩
    obtain ⟨b1, b2, b3, hB⟩ := three_blocks hB
    have c1 := blk_cell b1
    have c2 := blk_cell b2
    have z2 := blk_frozen b2
    have c3 := blk_cell b3
    have z3 := blk_frozen b3
    have e10 := c1 0
    have e11 := c1 1
    have e20 := c2 0
    have e21 := c2 1
    have e30 := c3 0
    have e31 := c3 1
    have y20 := z2 0
    have y21 := z2 1
    have y30 := z3 0
    have y31 := z3 1
    have HB := Aside0.mk hB
    simp at e10 e11 e20 e21 e30 e31
    clear c1 c2 z2 c3 z3 b1 b2 b3 hB
    go_wp2_with fail
    exact bodyPost_ret (v := .tuple #[.agg #[.int .i8 0, .slice none 0 0], .agg #[.int .i8 0, .slice none 0 0], .bool false]) (by simp [results, Try.results23, go_sem, e20, e21, e30, e31]) rfl (AsPost_mk HV.out (IsT.zero _) (IsT.zero _) ((((HB.out.setCell (by simp) _).setCell (by simp) _).setCell (by simp; omega) _).setCell (by simp; omega) _))
set_option maxRecDepth 100000 in
set_option maxHeartbeats 1600000 in
theorem ref_As_4 (t : S26) (v : Value) (w : World) (h : IsT w v t) : Calls Try.prog 23 #[.int .i8 4, v] w (AsPost 4 t w) := by
  obtain ⟨A, c, rfl, h1, h2⟩ := h
  have HT := Aside0.mk (IsT.mk (k := t.f0) h1 h2)
  rw [S26.eta] at HT
  have HR := Aside0.mk h2
  clear h2
  by_cases k3 : checkI t = 0
  · have d3 : (checkI t != 0) = false := by simp [k3]
    by_cases k4 : t.f0 = 0
    · have hv : asT 4 t = (z26, z26, true) := by unfold asT; rw [if_pos ⟨⟨by omega, by omega⟩, k3⟩, if_pos k4]
      have HV := Aside0.mk hv
      have d4 : (t.f0 == 0) = true := by simp [k4]
      clear hv k3 k4
      go_enter Try.func23, Try.ntmps23
      go_wp2_with fail
      refine (refCheck_calls (HT.out.below (below3 _ _ _ _ _ _ _))).mono ?_
      rintro e w1 ⟨rfl, hB⟩
      obtain ⟨b1, b2, b3, hB⟩ := three_blocks hB
      have c1 := blk_cell b1
      have c2 := blk_cell b2
      have z2 := blk_frozen b2
      have c3 := blk_cell b3
      have z3 := blk_frozen b3
      have e10 := c1 0
      have e11 := c1 1
      have e20 := c2 0
      have e21 := c2 1
      have e30 := c3 0
      have e31 := c3 1
      have y20 := z2 0
      have y21 := z2 1
      have y30 := z3 0
      have y31 := z3 1
      have HB := Aside0.mk hB
      simp at e10 e11 e20 e21 e30 e31
      clear c1 c2 z2 c3 z3 b1 b2 b3 hB
      go_wp2_with fail
      exact bodyPost_ret (v := .tuple #[.agg #[.int .i8 0, .slice none 0 0], .agg #[.int .i8 0, .slice none 0 0], .bool true]) (by simp [results, Try.results23, go_sem, e20, e21, e30, e31]) rfl (AsPost_mk HV.out (IsT.zero _) (IsT.zero _) ((((HB.out.setCell (by simp) _).setCell (by simp) _).setCell (by simp; omega) _).setCell (by simp; omega) _))
    have d4 : (t.f0 == 0) = false := by simp [k4]
    by_cases k5 : t.f0 = 4
    · have hv : asT 4 t = (rd_T26 t.f1 0, rd_T26 t.f1 1, true) := by unfold asT; rw [if_pos ⟨⟨by omega, by omega⟩, k3⟩, if_neg k4, if_pos k5]
      have HV := Aside0.mk hv
      have hlen : t.f1.length = 2 := by
        have := (check_nodes k3).2.2
        rw [rightB_eq] at this
        simp only [Bool.and_eq_true, decide_eq_true_eq] at this
        have h3 := this.1
        have hp : partsI t.f0 = 2 := by rw [k5]; rfl
        omega
      obtain ⟨ad, B1, d1, hA, hx0, hx1, hl1, hi1⟩ := at_T26 HR.out 0 (by omega) (by omega)
      obtain ⟨ad', B2, d2, hA', hy0, hy1, hl2, hi2⟩ := at_T26 HR.out 1 (by omega) (by omega)
      rw [hA] at hA'
      cases hA'
      cases hA
      have HX := Aside0.mk (IsT.mk (k := (rd_T26 t.f1 0).f0) hl1 hi1)
      have HY := Aside0.mk (IsT.mk (k := (rd_T26 t.f1 1).f0) hl2 hi2)
      rw [S26.eta] at HX HY
      generalize rd_T26 t.f1 0 = x at *
      generalize rd_T26 t.f1 1 = y at *
      have d5 : (t.f0 != 4) = false := by simp [k5]
      have hk0 : (0 : Int) < (t.f1.length : Int) := by omega
      have hk1 : (1 : Int) < (t.f1.length : Int) := by omega
      have HL := Aside0.mk hlen
      clear hv k3 k4 k5 hi1 hi2 hlen
      go_enter Try.func23, Try.ntmps23
      go_wp2_with fail
      refine (refCheck_calls (HT.out.below (below3 _ _ _ _ _ _ _))).mono ?_
      rintro e w1 ⟨rfl, hB⟩
      obtain ⟨b1, b2, b3, hB⟩ := three_blocks hB
      have c1 := blk_cell b1
      have c2 := blk_cell b2
      have z2 := blk_frozen b2
      have c3 := blk_cell b3
      have z3 := blk_frozen b3
      have e10 := c1 0
      have e11 := c1 1
      have e20 := c2 0
      have e21 := c2 1
      have e30 := c3 0
      have e31 := c3 1
      have y20 := z2 0
      have y21 := z2 1
      have y30 := z3 0
      have y31 := z3 1
      have HB := Aside0.mk hB
      simp at e10 e11 e20 e21 e30 e31
      clear c1 c2 z2 c3 z3 b1 b2 b3 hB
      have hx0 := (HB.out.cell (World.block_lt_of_cell? w _ hx0)).trans hx0
      have hx1 := (HB.out.cell (World.block_lt_of_cell? w _ hx1)).trans hx1
      have hy0 := (HB.out.cell (World.block_lt_of_cell? w _ hy0)).trans hy0
      have hy1 := (HB.out.cell (World.block_lt_of_cell? w _ hy1)).trans hy1
      simp [Addr.add] at hx0 hx1 hy0 hy1
      go_wp2_with fail
      go_region
      go_wp2_with fail
      have HF := Aside0.mk (((((HB.out.setCell (p := ⟨w.heap.size + 1, 0, none⟩) (by simp) (.int .i8 x.f0)).setCell (p := ⟨w.heap.size + 1, 1, none⟩) (by simp) (.slice B1 x.f1.length d1)).setCell (p := ⟨w.heap.size + 1 + 1, 0, none⟩) (by simp; omega) (.int .i8 y.f0)).setCell (p := ⟨w.heap.size + 1 + 1, 1, none⟩) (by simp; omega) (.slice B2 y.f1.length d2)).drew)
      exact bodyPost_ret (v := .tuple #[.agg #[.int .i8 x.f0, .slice B1 x.f1.length d1], .agg #[.int .i8 y.f0, .slice B2 y.f1.length d2], .bool true]) (by simp [results, Try.results23, go_sem, e20, e21, e30, e31]) rfl (AsPost_mk HV.out (HX.out.below HF.out) (HY.out.below HF.out) HF.out)
    · have hv : asT 4 t = (z26, z26, false) := by unfold asT; rw [if_pos ⟨⟨by omega, by omega⟩, k3⟩, if_neg k4, if_neg k5]
      have HV := Aside0.mk hv
      have d5 : (t.f0 != 4) = true := bne_iff_ne.mpr k5
      clear hv k3 k4 k5
      go_enter Try.func23, Try.ntmps23
      go_wp2_with fail
      refine (refCheck_calls (HT.out.below (below3 _ _ _ _ _ _ _))).mono ?_
      rintro e w1 ⟨rfl, hB⟩
      obtain ⟨b1, b2, b3, hB⟩ := three_blocks hB
      have c1 := blk_cell b1
      have c2 := blk_cell b2
      have z2 := blk_frozen b2
      have c3 := blk_cell b3
      have z3 := blk_frozen b3
      have e10 := c1 0
      have e11 := c1 1
      have e20 := c2 0
      have e21 := c2 1
      have e30 := c3 0
      have e31 := c3 1
      have y20 := z2 0
      have y21 := z2 1
      have y30 := z3 0
      have y31 := z3 1
      have HB := Aside0.mk hB
      simp at e10 e11 e20 e21 e30 e31
      clear c1 c2 z2 c3 z3 b1 b2 b3 hB
      go_wp2_with fail
      exact bodyPost_ret (v := .tuple #[.agg #[.int .i8 0, .slice none 0 0], .agg #[.int .i8 0, .slice none 0 0], .bool false]) (by simp [results, Try.results23, go_sem, e20, e21, e30, e31]) rfl (AsPost_mk HV.out (IsT.zero _) (IsT.zero _) ((((HB.out.setCell (by simp) _).setCell (by simp) _).setCell (by simp; omega) _).setCell (by simp; omega) _))
  · have hv : asT 4 t = (z26, z26, false) := by unfold asT; rw [if_neg (by omega)]
    have HV := Aside0.mk hv
    have d3 : (checkI t != 0) = true := bne_iff_ne.mpr k3
    clear hv k3
    go_enter Try.func23, Try.ntmps23
    go_wp2_with fail
    refine (refCheck_calls (HT.out.below (below3 _ _ _ _ _ _ _))).mono ?_
    rintro e w1 ⟨rfl, hB⟩
    obtain ⟨b1, b2, b3, hB⟩ := three_blocks hB
    have c1 := blk_cell b1
    have c2 := blk_cell b2
    have z2 := blk_frozen b2
    have c3 := blk_cell b3
    have z3 := blk_frozen b3
    have e10 := c1 0
    have e11 := c1 1
    have e20 := c2 0
    have e21 := c2 1
    have e30 := c3 0
    have e31 := c3 1
    have y20 := z2 0
    have y21 := z2 1
    have y30 := z3 0
    have y31 := z3 1
    have HB := Aside0.mk hB
    simp at e10 e11 e20 e21 e30 e31
    clear c1 c2 z2 c3 z3 b1 b2 b3 hB
    go_wp2_with fail
    exact bodyPost_ret (v := .tuple #[.agg #[.int .i8 0, .slice none 0 0], .agg #[.int .i8 0, .slice none 0 0], .bool false]) (by simp [results, Try.results23, go_sem, e20, e21, e30, e31]) rfl (AsPost_mk HV.out (IsT.zero _) (IsT.zero _) ((((HB.out.setCell (by simp) _).setCell (by simp) _).setCell (by simp; omega) _).setCell (by simp; omega) _))
set_option maxRecDepth 100000 in
set_option maxHeartbeats 1600000 in
theorem ref_As_5 (t : S26) (v : Value) (w : World) (h : IsT w v t) : Calls Try.prog 23 #[.int .i8 5, v] w (AsPost 5 t w) := by
  obtain ⟨A, c, rfl, h1, h2⟩ := h
  have HT := Aside0.mk (IsT.mk (k := t.f0) h1 h2)
  rw [S26.eta] at HT
  have HR := Aside0.mk h2
  clear h2
  by_cases k3 : checkI t = 0
  · have d3 : (checkI t != 0) = false := by simp [k3]
    by_cases k4 : t.f0 = 0
    · have hv : asT 5 t = (z26, z26, true) := by unfold asT; rw [if_pos ⟨⟨by omega, by omega⟩, k3⟩, if_pos k4]
      have HV := Aside0.mk hv
      have d4 : (t.f0 == 0) = true := by simp [k4]
      clear hv k3 k4
      go_enter Try.func23, Try.ntmps23
      go_wp2_with fail
      refine (refCheck_calls (HT.out.below (below3 _ _ _ _ _ _ _))).mono ?_
      rintro e w1 ⟨rfl, hB⟩
      obtain ⟨b1, b2, b3, hB⟩ := three_blocks hB
      have c1 := blk_cell b1
      have c2 := blk_cell b2
      have z2 := blk_frozen b2
      have c3 := blk_cell b3
      have z3 := blk_frozen b3
      have e10 := c1 0
      have e11 := c1 1
      have e20 := c2 0
      have e21 := c2 1
      have e30 := c3 0
      have e31 := c3 1
      have y20 := z2 0
      have y21 := z2 1
      have y30 := z3 0
      have y31 := z3 1
      have HB := Aside0.mk hB
      simp at e10 e11 e20 e21 e30 e31
      clear c1 c2 z2 c3 z3 b1 b2 b3 hB
      go_wp2_with fail
      exact bodyPost_ret (v := .tuple #[.agg #[.int .i8 0, .slice none 0 0], .agg #[.int .i8 0, .slice none 0 0], .bool true]) (by simp [results, Try.results23, go_sem, e20, e21, e30, e31]) rfl (AsPost_mk HV.out (IsT.zero _) (IsT.zero _) ((((HB.out.setCell (by simp) _).setCell (by simp) _).setCell (by simp; omega) _).setCell (by simp; omega) _))
    have d4 : (t.f0 == 0) = false := by simp [k4]
    by_cases k5 : t.f0 = 5
    · have hv : asT 5 t = (rd_T26 t.f1 0, rd_T26 t.f1 1, true) := by unfold asT; rw [if_pos ⟨⟨by omega, by omega⟩, k3⟩, if_neg k4, if_pos k5]
      have HV := Aside0.mk hv
      have hlen : t.f1.length = 2 := by
        have := (check_nodes k3).2.2
        rw [rightB_eq] at this
        simp only [Bool.and_eq_true, decide_eq_true_eq] at this
        have h3 := this.1
        have hp : partsI t.f0 = 2 := by rw [k5]; rfl
        omega
      obtain ⟨ad, B1, d1, hA, hx0, hx1, hl1, hi1⟩ := at_T26 HR.out 0 (by omega) (by omega)
      obtain ⟨ad', B2, d2, hA', hy0, hy1, hl2, hi2⟩ := at_T26 HR.out 1 (by omega) (by omega)
      rw [hA] at hA'
      cases hA'
      cases hA
      have HX := Aside0.mk (IsT.mk (k := (rd_T26 t.f1 0).f0) hl1 hi1)
      have HY := Aside0.mk (IsT.mk (k := (rd_T26 t.f1 1).f0) hl2 hi2)
      rw [S26.eta] at HX HY
      generalize rd_T26 t.f1 0 = x at *
      generalize rd_T26 t.f1 1 = y at *
      have d5 : (t.f0 != 5) = false := by simp [k5]
      have hk0 : (0 : Int) < (t.f1.length : Int) := by omega
      have hk1 : (1 : Int) < (t.f1.length : Int) := by omega
      have HL := Aside0.mk hlen
      clear hv k3 k4 k5 hi1 hi2 hlen
      go_enter Try.func23, Try.ntmps23
      go_wp2_with fail
      refine (refCheck_calls (HT.out.below (below3 _ _ _ _ _ _ _))).mono ?_
      rintro e w1 ⟨rfl, hB⟩
      obtain ⟨b1, b2, b3, hB⟩ := three_blocks hB
      have c1 := blk_cell b1
      have c2 := blk_cell b2
      have z2 := blk_frozen b2
      have c3 := blk_cell b3
      have z3 := blk_frozen b3
      have e10 := c1 0
      have e11 := c1 1
      have e20 := c2 0
      have e21 := c2 1
      have e30 := c3 0
      have e31 := c3 1
      have y20 := z2 0
      have y21 := z2 1
      have y30 := z3 0
      have y31 := z3 1
      have HB := Aside0.mk hB
      simp at e10 e11 e20 e21 e30 e31
      clear c1 c2 z2 c3 z3 b1 b2 b3 hB
      have hx0 := (HB.out.cell (World.block_lt_of_cell? w _ hx0)).trans hx0
      have hx1 := (HB.out.cell (World.block_lt_of_cell? w _ hx1)).trans hx1
      have hy0 := (HB.out.cell (World.block_lt_of_cell? w _ hy0)).trans hy0
      have hy1 := (HB.out.cell (World.block_lt_of_cell? w _ hy1)).trans hy1
      simp [Addr.add] at hx0 hx1 hy0 hy1
      go_wp2_with fail
      go_region
      go_wp2_with fail
      have HF := Aside0.mk (((((HB.out.setCell (p := ⟨w.heap.size + 1, 0, none⟩) (by simp) (.int .i8 x.f0)).setCell (p := ⟨w.heap.size + 1, 1, none⟩) (by simp) (.slice B1 x.f1.length d1)).setCell (p := ⟨w.heap.size + 1 + 1, 0, none⟩) (by simp; omega) (.int .i8 y.f0)).setCell (p := ⟨w.heap.size + 1 + 1, 1, none⟩) (by simp; omega) (.slice B2 y.f1.length d2)).drew)
      exact bodyPost_ret (v := .tuple #[.agg #[.int .i8 x.f0, .slice B1 x.f1.length d1], .agg #[.int .i8 y.f0, .slice B2 y.f1.length d2], .bool true]) (by simp [results, Try.results23, go_sem, e20, e21, e30, e31]) rfl (AsPost_mk HV.out (HX.out.below HF.out) (HY.out.below HF.out) HF.out)
    · have hv : asT 5 t = (z26, z26, false) := by unfold asT; rw [if_pos ⟨⟨by omega, by omega⟩, k3⟩, if_neg k4, if_neg k5]
      have HV := Aside0.mk hv
      have d5 : (t.f0 != 5) = true := bne_iff_ne.mpr k5
      clear hv k3 k4 k5
      go_enter Try.func23, Try.ntmps23
      go_wp2_with fail
      refine (refCheck_calls (HT.out.below (below3 _ _ _ _ _ _ _))).mono ?_
      rintro e w1 ⟨rfl, hB⟩
      obtain ⟨b1, b2, b3, hB⟩ := three_blocks hB
      have c1 := blk_cell b1
      have c2 := blk_cell b2
      have z2 := blk_frozen b2
      have c3 := blk_cell b3
      have z3 := blk_frozen b3
      have e10 := c1 0
      have e11 := c1 1
      have e20 := c2 0
      have e21 := c2 1
      have e30 := c3 0
      have e31 := c3 1
      have y20 := z2 0
      have y21 := z2 1
      have y30 := z3 0
      have y31 := z3 1
      have HB := Aside0.mk hB
      simp at e10 e11 e20 e21 e30 e31
      clear c1 c2 z2 c3 z3 b1 b2 b3 hB
      go_wp2_with fail
      exact bodyPost_ret (v := .tuple #[.agg #[.int .i8 0, .slice none 0 0], .agg #[.int .i8 0, .slice none 0 0], .bool false]) (by simp [results, Try.results23, go_sem, e20, e21, e30, e31]) rfl (AsPost_mk HV.out (IsT.zero _) (IsT.zero _) ((((HB.out.setCell (by simp) _).setCell (by simp) _).setCell (by simp; omega) _).setCell (by simp; omega) _))
  · have hv : asT 5 t = (z26, z26, false) := by unfold asT; rw [if_neg (by omega)]
    have HV := Aside0.mk hv
    have d3 : (checkI t != 0) = true := bne_iff_ne.mpr k3
    clear hv k3
    go_enter Try.func23, Try.ntmps23
    go_wp2_with fail
    refine (refCheck_calls (HT.out.below (below3 _ _ _ _ _ _ _))).mono ?_
    rintro e w1 ⟨rfl, hB⟩
    obtain ⟨b1, b2, b3, hB⟩ := three_blocks hB
    have c1 := blk_cell b1
    have c2 := blk_cell b2
    have z2 := blk_frozen b2
    have c3 := blk_cell b3
    have z3 := blk_frozen b3
    have e10 := c1 0
    have e11 := c1 1
    have e20 := c2 0
    have e21 := c2 1
    have e30 := c3 0
    have e31 := c3 1
    have y20 := z2 0
    have y21 := z2 1
    have y30 := z3 0
    have y31 := z3 1
    have HB := Aside0.mk hB
    simp at e10 e11 e20 e21 e30 e31
    clear c1 c2 z2 c3 z3 b1 b2 b3 hB
    go_wp2_with fail
    exact bodyPost_ret (v := .tuple #[.agg #[.int .i8 0, .slice none 0 0], .agg #[.int .i8 0, .slice none 0 0], .bool false]) (by simp [results, Try.results23, go_sem, e20, e21, e30, e31]) rfl (AsPost_mk HV.out (IsT.zero _) (IsT.zero _) ((((HB.out.setCell (by simp) _).setCell (by simp) _).setCell (by simp; omega) _).setCell (by simp; omega) _))
set_option maxRecDepth 100000 in
set_option maxHeartbeats 1600000 in
theorem ref_As_calls (kind : Int) (t : S26) (v : Value) (w : World) (h : IsT w v t) : Calls Try.prog 23 #[.int .i8 kind, v] w (AsPost kind t w) := by
  by_cases k1 : kind = 3 ∨ kind = 4 ∨ kind = 5
  · rcases k1 with rfl | rfl | rfl
    · exact ref_As_3 t v w h
    · exact ref_As_4 t v w h
    · exact ref_As_5 t v w h
  · obtain ⟨A, c, rfl, h1, h2⟩ := h
    have hv : asT kind t = (z26, z26, false) := by unfold asT; rw [if_neg (by omega)]
    have HV := Aside0.mk hv
    have d1 : (kind != 3) = true := by rw [bne_iff_ne]; omega
    have d2 : (kind != 4) = true := by rw [bne_iff_ne]; omega
    have d3 : (kind != 5) = true := by rw [bne_iff_ne]; omega
    clear hv k1 h2
    go_enter Try.func23, Try.ntmps23
    go_wp2_with fail
    exact bodyPost_ret (v := .tuple #[.agg #[.int .i8 0, .slice none 0 0], .agg #[.int .i8 0, .slice none 0 0], .bool false]) (by simp [results, Try.results23, go_sem]) rfl (AsPost_mk HV.out (IsT.zero _) (IsT.zero _) (below3 _ _ _ _ _ _ _))
end Go.Proofs.Ytamhdpllmhafhaa.X
