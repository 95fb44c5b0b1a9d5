/- Hand texts of round 1, parted: HAs. -/
import Derived.Test.YtamhdpllmhafhaaHIs
import Derived.Test.YtamhdpllmhafhaaHSpec
import Derived.Test.YtamhdpllmhafhaaX0
import Derived.RegionTactic
import Derived.ChangeAlike
import Derived.BigRegion
namespace Go.Proofs.Ytamhdpllmhafhaa.X
open Go.RowKit Go.Proofs.YtamhdpllmhafhaaW.PrintWords Go.Proofs.YtamhdpllmhafhaaW.PrintLast Go.Proofs.YtamhdpllmhafhaaW.PrintMore
set_option linter.unusedVariables false
set_option linter.unusedSimpArgs false

def asT (kind : Int) (t : S26) : S26 × S26 × Bool :=
  if (3 ≤ kind ∧ kind ≤ 5) ∧ checkI t = 0 then (if t.f0 = 0 then (z26, z26, true) else if t.f0 = kind then (rd_T26 t.f1 0, rd_T26 t.f1 1, true) else (z26, z26, false)) else (z26, z26, false)
def AsPost (kind : Int) (t : S26) (w : World) (e : Ending) (w' : World) : Prop :=
  ∃ v1 v2, e = .returned (.tuple #[v1, v2, .bool (asT kind t).2.2]) ∧ IsT w' v1 (asT kind t).1 ∧ IsT w' v2 (asT kind t).2.1 ∧ Below w.heap.size w w'

theorem AsPost_mk {kind : Int} {t L R : S26} {ok : Bool} {w w' : World} {v1 v2 : Value} (h : asT kind t = (L, R, ok)) (h1 : IsT w' v1 L) (h2 : IsT w' v2 R) (hb : Below w.heap.size w w') : AsPost kind t w (.returned (.tuple #[v1, v2, .bool ok])) w' := by
  unfold AsPost
  rw [h]
  exact ⟨v1, v2, rfl, h1, h2, hb⟩
set_option maxRecDepth 100000 in
set_option maxHeartbeats 1600000 in
theorem agree_As_calls (kind : Int) (t : S26) (v : Value) (w : World) (h : IsT w v t) : Calls Try.prog 22 #[.int .i8 kind, v] w (AsPost kind t w) := by
  obtain ⟨A, c, rfl, h1, h2⟩ := h
  have HT := Aside0.mk (IsT.mk (k := t.f0) h1 h2)
  rw [S26.eta] at HT
  have HR := Aside0.mk h2
  clear h2
  by_cases k1 : kind < 3
  · have hv : asT kind t = (z26, z26, false) := by unfold asT; rw [if_neg (by omega)]
    have HV := Aside0.mk hv
    clear hv
    go_enter Try.func22, Try.ntmps22
    go_wp2_with fail
    go_region
    go_wp2_with fail
    exact bodyPost_ret (v := .tuple #[.agg #[.int .i8 0, .slice none 0 0], .agg #[.int .i8 0, .slice none 0 0], .bool false]) (by simp [results, Try.results22, go_sem]) rfl (AsPost_mk HV.out (IsT.zero _) (IsT.zero _) (below3 _ _ _ _ _ _ _).drew)
  by_cases k2 : 5 < kind
  · have hv : asT kind t = (z26, z26, false) := by unfold asT; rw [if_neg (by omega)]
    have HV := Aside0.mk hv
    clear hv
    go_enter Try.func22, Try.ntmps22
    go_wp2_with fail
    go_region
    go_wp2_with fail
    exact bodyPost_ret (v := .tuple #[.agg #[.int .i8 0, .slice none 0 0], .agg #[.int .i8 0, .slice none 0 0], .bool false]) (by simp [results, Try.results22, go_sem]) rfl (AsPost_mk HV.out (IsT.zero _) (IsT.zero _) (below3 _ _ _ _ _ _ _).drew)
  by_cases k3 : checkI t = 0
  · have d3 : (checkI t != 0) = false := by simp [k3]
    by_cases k4 : t.f0 = 0
    · have hv : asT kind t = (z26, z26, true) := by unfold asT; rw [if_pos ⟨⟨by omega, by omega⟩, k3⟩, if_pos k4]
      have HV := Aside0.mk hv
      have d4 : (t.f0 == 0) = true := by simp [k4]
      clear hv k3 k4
      go_enter Try.func22, Try.ntmps22
      go_wp2_with fail
      refine (Check_calls (HT.out.below (below3 _ _ _ _ _ _ _))).mono ?_
      rintro e w1 ⟨rfl, hB⟩
      obtain ⟨b1, b2, b3, hB⟩ := three_blocks hB
      have c1 := blk_cell b1
      have c2 := blk_cell b2
      have z2 := blk_frozen b2
      have c3 := blk_cell b3
      have z3 := blk_frozen b3
      have e10 := c1 0
      have e11 := c1 1
      have e20 := c2 0
      have e21 := c2 1
      have e30 := c3 0
      have e31 := c3 1
      have y20 := z2 0
      have y21 := z2 1
      have y30 := z3 0
      have y31 := z3 1
      have HB := Aside0.mk hB
      simp at e10 e11 e20 e21 e30 e31
      clear c1 c2 z2 c3 z3 b1 b2 b3 hB
      go_wp2_with fail
      go_region
      go_wp2_with fail
      exact bodyPost_ret (v := .tuple #[.agg #[.int .i8 0, .slice none 0 0], .agg #[.int .i8 0, .slice none 0 0], .bool true]) (by simp [results, Try.results22, go_sem, e20, e21, e30, e31]) rfl (AsPost_mk HV.out (IsT.zero _) (IsT.zero _) ((((HB.out.setCell (by simp) _).setCell (by simp) _).setCell (by simp; omega) _).setCell (by simp; omega) _).drew)
    have d4 : (t.f0 == 0) = false := by simp [k4]
    by_cases k5 : t.f0 = kind
    · have hv : asT kind t = (rd_T26 t.f1 0, rd_T26 t.f1 1, true) := by unfold asT; rw [if_pos ⟨⟨by omega, by omega⟩, k3⟩, if_neg k4, if_pos k5]
      have HV := Aside0.mk hv
      have hlen : t.f1.length = 2 := by
        have := (check_nodes k3).2.2
        rw [rightB_eq] at this
        simp only [Bool.and_eq_true, decide_eq_true_eq] at this
        have h3 := this.1
        have hk : t.f0 = 3 ∨ t.f0 = 4 ∨ t.f0 = 5 := by omega
        have hp : partsI t.f0 = 2 := by rcases hk with hk | hk | hk <;> rw [hk] <;> rfl
        omega
      obtain ⟨ad, B1, d1, hA, hx0, hx1, hl1, hi1⟩ := at_T26 HR.out 0 (by omega) (by omega)
      obtain ⟨ad', B2, d2, hA', hy0, hy1, hl2, hi2⟩ := at_T26 HR.out 1 (by omega) (by omega)
      rw [hA] at hA'
      cases hA'
      cases hA
      have HX := Aside0.mk (IsT.mk (k := (rd_T26 t.f1 0).f0) hl1 hi1)
      have HY := Aside0.mk (IsT.mk (k := (rd_T26 t.f1 1).f0) hl2 hi2)
      rw [S26.eta] at HX HY
      generalize rd_T26 t.f1 0 = x at *
      generalize rd_T26 t.f1 1 = y at *
      have d5 : (t.f0 != kind) = false := by simp [k5]
      have hk0 : (0 : Int) < (t.f1.length : Int) := by omega
      have hk1 : (1 : Int) < (t.f1.length : Int) := by omega
      have HL := Aside0.mk hlen
      clear hv k3 k4 k5 hi1 hi2 hlen
      go_enter Try.func22, Try.ntmps22
      go_wp2_with fail
      refine (Check_calls (HT.out.below (below3 _ _ _ _ _ _ _))).mono ?_
      rintro e w1 ⟨rfl, hB⟩
      obtain ⟨b1, b2, b3, hB⟩ := three_blocks hB
      have c1 := blk_cell b1
      have c2 := blk_cell b2
      have z2 := blk_frozen b2
      have c3 := blk_cell b3
      have z3 := blk_frozen b3
      have e10 := c1 0
      have e11 := c1 1
      have e20 := c2 0
      have e21 := c2 1
      have e30 := c3 0
      have e31 := c3 1
      have y20 := z2 0
      have y21 := z2 1
      have y30 := z3 0
      have y31 := z3 1
      have HB := Aside0.mk hB
      simp at e10 e11 e20 e21 e30 e31
      clear c1 c2 z2 c3 z3 b1 b2 b3 hB
      have hx0 := (HB.out.cell (World.block_lt_of_cell? w _ hx0)).trans hx0
      have hx1 := (HB.out.cell (World.block_lt_of_cell? w _ hx1)).trans hx1
      have hy0 := (HB.out.cell (World.block_lt_of_cell? w _ hy0)).trans hy0
      have hy1 := (HB.out.cell (World.block_lt_of_cell? w _ hy1)).trans hy1
      simp [Addr.add] at hx0 hx1 hy0 hy1
      go_wp2_with fail
      go_region
      go_wp2_with fail
      have HF := Aside0.mk (((((HB.out.setCell (p := ⟨w.heap.size + 1, 0, none⟩) (by simp) (.int .i8 x.f0)).setCell (p := ⟨w.heap.size + 1, 1, none⟩) (by simp) (.slice B1 x.f1.length d1)).setCell (p := ⟨w.heap.size + 1 + 1, 0, none⟩) (by simp; omega) (.int .i8 y.f0)).setCell (p := ⟨w.heap.size + 1 + 1, 1, none⟩) (by simp; omega) (.slice B2 y.f1.length d2)).drew)
      exact bodyPost_ret (v := .tuple #[.agg #[.int .i8 x.f0, .slice B1 x.f1.length d1], .agg #[.int .i8 y.f0, .slice B2 y.f1.length d2], .bool true]) (by simp [results, Try.results22, go_sem, e20, e21, e30, e31]) rfl (AsPost_mk HV.out (HX.out.below HF.out) (HY.out.below HF.out) HF.out)
    · have hv : asT kind t = (z26, z26, false) := by unfold asT; rw [if_pos ⟨⟨by omega, by omega⟩, k3⟩, if_neg k4, if_neg k5]
      have HV := Aside0.mk hv
      have d5 : (t.f0 != kind) = true := bne_iff_ne.mpr k5
      clear hv k3 k4 k5
      go_enter Try.func22, Try.ntmps22
      go_wp2_with fail
      refine (Check_calls (HT.out.below (below3 _ _ _ _ _ _ _))).mono ?_
      rintro e w1 ⟨rfl, hB⟩
      obtain ⟨b1, b2, b3, hB⟩ := three_blocks hB
      have c1 := blk_cell b1
      have c2 := blk_cell b2
      have z2 := blk_frozen b2
      have c3 := blk_cell b3
      have z3 := blk_frozen b3
      have e10 := c1 0
      have e11 := c1 1
      have e20 := c2 0
      have e21 := c2 1
      have e30 := c3 0
      have e31 := c3 1
      have y20 := z2 0
      have y21 := z2 1
      have y30 := z3 0
      have y31 := z3 1
      have HB := Aside0.mk hB
      simp at e10 e11 e20 e21 e30 e31
      clear c1 c2 z2 c3 z3 b1 b2 b3 hB
      go_wp2_with fail
      go_region
      go_wp2_with fail
      exact bodyPost_ret (v := .tuple #[.agg #[.int .i8 0, .slice none 0 0], .agg #[.int .i8 0, .slice none 0 0], .bool false]) (by simp [results, Try.results22, go_sem, e20, e21, e30, e31]) rfl (AsPost_mk HV.out (IsT.zero _) (IsT.zero _) ((((HB.out.setCell (by simp) _).setCell (by simp) _).setCell (by simp; omega) _).setCell (by simp; omega) _).drew)
  · have hv : asT kind t = (z26, z26, false) := by unfold asT; rw [if_neg (by omega)]
    have HV := Aside0.mk hv
    have d3 : (checkI t != 0) = true := bne_iff_ne.mpr k3
    clear hv k3
    go_enter Try.func22, Try.ntmps22
    go_wp2_with fail
    refine (Check_calls (HT.out.below (below3 _ _ _ _ _ _ _))).mono ?_
    rintro e w1 ⟨rfl, hB⟩
    obtain ⟨b1, b2, b3, hB⟩ := three_blocks hB
    have c1 := blk_cell b1
    have c2 := blk_cell b2
    have z2 := blk_frozen b2
    have c3 := blk_cell b3
    have z3 := blk_frozen b3
    have e10 := c1 0
    have e11 := c1 1
    have e20 := c2 0
    have e21 := c2 1
    have e30 := c3 0
    have e31 := c3 1
    have y20 := z2 0
    have y21 := z2 1
    have y30 := z3 0
    have y31 := z3 1
    have HB := Aside0.mk hB
    simp at e10 e11 e20 e21 e30 e31
    clear c1 c2 z2 c3 z3 b1 b2 b3 hB
    go_wp2_with fail
    go_region
    go_wp2_with fail
    exact bodyPost_ret (v := .tuple #[.agg #[.int .i8 0, .slice none 0 0], .agg #[.int .i8 0, .slice none 0 0], .bool false]) (by simp [results, Try.results22, go_sem, e20, e21, e30, e31]) rfl (AsPost_mk HV.out (IsT.zero _) (IsT.zero _) ((((HB.out.setCell (by simp) _).setCell (by simp) _).setCell (by simp; omega) _).setCell (by simp; omega) _).drew)
end Go.Proofs.Ytamhdpllmhafhaa.X
