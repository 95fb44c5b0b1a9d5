/- Texts of this claim, joined: GGround2, GGround15, GSmall, HTy, HGround, HSame, HRefSame, HCo2, GLabelled, HCo3, HCallH, HTake, HRow, HKeep, HFar. -/
import Derived.Deep.RegionHeld3
import Derived.KernelRfl
import Derived.ProofKit
import Derived.OpenShut
import Derived.ChangeOld
import Derived.SizedLaws
import Derived.ChangeArms
import Derived.Test.YtjmpejbciniceaaKCoerceSame1
import Derived.Test.YtjmpejbciniceaaKCoerceSame3
import Derived.Test.YtjmpejbciniceaaKCoerceSame5
import Derived.Test.YtjmpejbciniceaaKCoerceSame6
import Derived.Test.YtjmpejbciniceaaKCoerceSame7
import Derived.Test.YtjmpejbciniceaaKCoerceSame8
namespace Go.Proofs.Ytjmpejbciniceaa.X
open Go.RowKit Go.Proofs.YtjmpejbciniceaaW.PrintWords Go.Proofs.YtjmpejbciniceaaW.PrintLast Go.Proofs.YtjmpejbciniceaaW.PrintMore
attribute [local go_sem] max2_int min2_int max_two min_two max_three min_three max_four min_four
set_option linter.unusedVariables false
set_option linter.unusedSimpArgs false
def lychgateref02_Ground.j0 : Nat → Bool → Int → List (S35) → Option (Int × (List (S35)) × Bool)
  | 0, _, _, _ => none
  | k + 1, x11, x289000, x289001 => if x11 = true then (some (0, ([] : List (S35)), false)) else (if (x289001.length : Int) = 0 then (some (x289000, ([] : List (S35)), true)) else ((lychgateref02_Of.f x289000 0 ([] : List (S35)) 0 ([] : List (S35))).bind fun bt291 => (some (bt291.1, bt291.2, true))))
def lychgateref02_Ground.f (k : Nat) (a0_0 : Int) (l0_1 : List (S35)) : Option (Int × (List (S35)) × Bool) := (lychgateref02_Check.f k a0_0 l0_1).bind fun t290 => (if t290 = 0 then (lychgateref02_Ground.j0 k (a0_0 == 0) a0_0 l0_1) else (lychgateref02_Ground.j0 k true a0_0 l0_1))
theorem lychgateref02_Ground.mono_l : ∀ k, (∀ y0 y1 y2, LeO (lychgateref02_Ground.j0 k y0 y1 y2) (lychgateref02_Ground.j0 (k + 1) y0 y1 y2))
  | 0 => fun _ _ _ r h => by simp [lychgateref02_Ground.j0] at h
  | k + 1 => by
    have ih0 := lychgateref02_Ground.mono_l k
    · intro y0 y1 y2
      unfold lychgateref02_Ground.j0
      repeat' first
      | (with_reducible exact ih0 _ _ _)
      | (with_reducible exact lychgateref02_Check.mono _ _ _)
      | (with_reducible exact LeO.refl _)
      | (with_reducible exact LeO.none _)
      | (with_reducible refine LeO.ite ?_ ?_)
      | (with_reducible refine LeO.bind ?_ (fun _ => ?_))
      | exact ih0 _ _ _
      | exact lychgateref02_Check.mono _ _ _
      | exact LeO.none _
      | refine LeO.ite ?_ ?_
      | refine LeO.bind ?_ (fun _ => ?_)
theorem lychgateref02_Ground.mono : ∀ a0 a1 k, LeO (lychgateref02_Ground.f k a0 a1) (lychgateref02_Ground.f (k + 1) a0 a1) := by
  intro a0 a1 k
  have ih0 := lychgateref02_Ground.mono_l k
  unfold lychgateref02_Ground.f
  repeat' first
      | (with_reducible exact ih0 _ _ _)
      | (with_reducible exact lychgateref02_Check.mono _ _ _)
      | (with_reducible exact LeO.refl _)
      | (with_reducible exact LeO.none _)
      | (with_reducible refine LeO.ite ?_ ?_)
      | (with_reducible refine LeO.bind ?_ (fun _ => ?_))
      | exact ih0 _ _ _
      | exact lychgateref02_Check.mono _ _ _
      | exact LeO.none _
      | refine LeO.ite ?_ ?_
      | refine LeO.bind ?_ (fun _ => ?_)
set_option maxHeartbeats 8000000 in
set_option maxRecDepth 100000 in
theorem lychgateref02_Ground.calls (k : Nat) (a0_0 : Int) (A0_1 : Option Addr) (c0_1 : Nat) (l0_1 : List (S35)) (r1 : Int) (r2 : List (S35)) (r3 : Bool) (w : World) (hr0_1 : Kd.C k35 w A0_1 l0_1.length l0_1) (hc0_1 : l0_1.length ≤ c0_1) (h : lychgateref02_Ground.f k a0_0 l0_1 = some (r1, r2, r3)) :
    Calls Try.prog 77 #[.agg #[.int .i8 a0_0, .slice A0_1 l0_1.length c0_1]] w fun e w' => ∃ v1_ : Value, e = .returned (.tuple #[.agg #[.int .i8 r1, v1_], .bool r3]) ∧ Kd.N k35 35 w' w.heap.size (fun k_ => (w.heap.size ≤ k_)) v1_ r2 ∧ Below w.heap.size w w' := by
  have hu35 := Try.underlying35
  have HR0_1 := Aside0.mk hr0_1
  have HC0_1 := Aside0.mk hc0_1
  clear hr0_1 hc0_1
  have HB := Aside0.mk (Below.refl w.heap.size w)
  have H : ((lychgateref02_Check.f k a0_0 l0_1).bind fun t290 => (if t290 = 0 then (lychgateref02_Ground.j0 k (a0_0 == 0) a0_0 l0_1) else (lychgateref02_Ground.j0 k true a0_0 l0_1))) = some (r1, r2, r3) := h
  clear h
  have HC2 := Aside0.mk H
  clear H
  go_enter Try.func77, Try.ntmps77
  go_upto_region 1 with (first | ((with_reducible refine gate_dst (N := 1) rfl ?_); refine box_event ?hg (N := 1) ?hd (cs := #[.int .i8 a0_0, .slice A0_1 l0_1.length c0_1]) (t := 35) ?hr ?_; (case hd => rfl); (case hg => rfl); (case hr => go_simp <;> rfl); intro gb288 hg w3 hbox hb; have n0_ := Aside0.mk (below_step HB.out hb); have n1_ := Aside0.mk (hbox); have n2_ := Aside0.mk ((by rw [hg]; exact (below_size HB.out) : w.heap.size ≤ gb288)); have n3_ := Aside0.mk ((by rw [hg]; exact (below_size HB.out) : w.heap.size ≤ gb288)); clear HB; have HB := n0_; have BK288 := n1_; have GW288 := n2_; have GE288 := n3_; clear n0_ n1_ n2_ n3_; clear hb hbox hg) | ((with_reducible refine gate_dst (N := 2) rfl ?_); refine box_event ?hg (N := 2) ?hd (cs := #[.int .i8 0, .slice none 0 0]) (t := 35) ?hr ?_; (case hd => rfl); (case hg => rfl); (case hr => go_simp <;> rfl); intro gb289 hg w4 hbox hb; have n0_ := Aside0.mk (blk_below (g := gb288) (o := .cells #[.int .i8 a0_0, .slice A0_1 l0_1.length c0_1] 35 (0, 0)) BK288.out hb); have n1_ := Aside0.mk (below_step HB.out hb); have n2_ := Aside0.mk (hbox); have n3_ := Aside0.mk ((by rw [hg]; exact (below_size HB.out) : w.heap.size ≤ gb289)); have n4_ := Aside0.mk ((by rw [hg]; exact (below_size HB.out) : w.heap.size ≤ gb289)); have n5_ := Aside0.mk ((by rw [hg]; exact Nat.ne_of_lt (blk_lt (g := gb288) (o := .cells #[.int .i8 a0_0, .slice A0_1 l0_1.length c0_1] 35 (0, 0)) BK288.out) : gb288 ≠ gb289)); have n6_ := Aside0.mk ((by rw [hg]; exact Nat.ne_of_gt (blk_lt (g := gb288) (o := .cells #[.int .i8 a0_0, .slice A0_1 l0_1.length c0_1] 35 (0, 0)) BK288.out) : gb289 ≠ gb288)); clear BK288; clear HB; have BK288 := n0_; have HB := n1_; have BK289 := n2_; have GW289 := n3_; have GE289 := n4_; have NB288_289 := n5_; have NB289_288 := n6_; clear n0_ n1_ n2_ n3_ n4_ n5_ n6_; clear hb hbox hg))
  (try simp only [Act.put, List.setIfInBounds_toArray, List.set_cons_zero, List.set_cons_succ])
  go_cut [11] (fun v11 wc => ∃ (kq : Nat) (x11_1 : Bool), v11 = .bool x11_1 ∧ Aside0 (lychgateref02_Ground.j0 kq x11_1 a0_0 l0_1 = some (r1, r2, r3)) ∧ Aside0 (kq ≤ k) ∧ Aside0 (wc.heap[gb288]? = some (.cells #[.int .i8 a0_0, (.slice A0_1 l0_1.length c0_1)] 35 (0, 0))) ∧ Aside0 (wc.heap[gb289]? = some (.cells #[.int .i8 0, (.slice none 0 0)] 35 (0, 0))) ∧ Aside0 (Below w.heap.size w wc))
  case first =>
    have H := HC2.out
    clear HC2
    replace H := Option.bind_eq_some_iff.mp H
    obtain ⟨t290, A50, H⟩ := H
    replace H : (if t290 = 0 then (lychgateref02_Ground.j0 k (a0_0 == 0) a0_0 l0_1) else (lychgateref02_Ground.j0 k true a0_0 l0_1)) = some (r1, r2, r3) := H
    have A5 := Aside0.mk A50
    clear A50
    by_cases c6 : t290 = 0
    · rw [if_pos c6] at H
      have c6b0 : (t290 == 0) = true := beq_iff_eq.mpr c6
      have c6b1 : (t290 != 0) = false := bne_eq_false_iff_eq.mpr c6
      clear c6
      (first | rw [c6b0] | (simp only [i64_w, i32_w]; rw [c6b0]) | skip)
      have H' := Aside0.mk H
      clear H
      have hnb7 := NB288_289.out
      have hnc7 := NB289_288.out
      have hcz8_0 : w4.cell? ⟨gb288, 0, none⟩ = some (.int .i8 a0_0) := (blk_cell BK288.out 0).trans rfl
      have hcz8_1 : w4.cell? ⟨gb288, 1, none⟩ = some (.slice A0_1 l0_1.length c0_1) := (blk_cell BK288.out 1).trans rfl
      have hfz8_0 := blk_frozen BK288.out 0
      have hfz8_1 := blk_frozen BK288.out 1
      go_wp2_with (first | ((with_reducible refine gate_callee (f := 66) rfl ?_); refine goesL_ (some 5) rfl rfl Try.func66 (by kernel_rfl) rfl #[.agg #[.int .i8 a0_0, .slice A0_1 l0_1.length c0_1]] rfl (by (try simp only [List.map_toArray, List.map_cons, List.map_nil]); first | done | rfl | (simp only [List.length_drop, List.length_take]; rfl)) ?_; (with_reducible refine (lychgateref02_Check.calls k a0_0 _ _ l0_1 t290 _ ?side1 ?side2 A5.out).mono ?_); (case side1 => repeat (first | exact (Kd.C_below HR0_1.out HB.out) | (with_reducible refine Kd.C_alloc ?_ _) | (with_reducible refine Kd.C_drewN ?_ _) | (with_reducible refine Kd.C_drew ?_))); (case side2 => exact HC0_1.out); rintro e w9 ⟨rfl, hb⟩; refine ⟨_, rfl, ?_⟩; have n0_ := Aside0.mk (blk_below (g := gb288) (o := .cells #[.int .i8 a0_0, .slice A0_1 l0_1.length c0_1] 35 (0, 0)) BK288.out hb); have n1_ := Aside0.mk (blk_below (g := gb289) (o := .cells #[.int .i8 0, .slice none 0 0] 35 (0, 0)) BK289.out hb); have n2_ := Aside0.mk (below_step HB.out hb); clear BK288; clear BK289; clear HB; have BK288 := n0_; have BK289 := n1_; have HB := n2_; clear n0_ n1_ n2_; (try clear hb); (try clear hb2); (try clear hk); (try clear hi); have hcz10_0 : w9.cell? ⟨gb288, 0, none⟩ = some (.int .i8 a0_0) := (blk_cell BK288.out 0).trans rfl; have hcz10_1 : w9.cell? ⟨gb288, 1, none⟩ = some (.slice A0_1 l0_1.length c0_1) := (blk_cell BK288.out 1).trans rfl; have hfz10_0 := blk_frozen BK288.out 0; have hfz10_1 := blk_frozen BK288.out 1))
      go_meet
      case rel => exact ⟨_, ((a0_0 == 0)), (by first | rfl | simp [*]), H', ⟨by first | omega | exact Nat.le_refl _⟩, ⟨BK288.out⟩, ⟨BK289.out⟩, ⟨by repeat (first | (with_reducible first | exact HB.out | apply below_alloc | apply pw_below_drewN | apply below_drew1 | refine below_set ?_ GE288.out | refine below_set ?_ GE289.out) | exact HB.out)⟩⟩
    · rw [if_neg c6] at H
      have c6b0 : (t290 == 0) = false := beq_eq_false_iff_ne.mpr c6
      have c6b1 : (t290 != 0) = true := bne_iff_ne.mpr c6
      (first | rw [c6b0] | (simp only [i64_w, i32_w]; rw [c6b0]) | skip)
      have H' := Aside0.mk H
      clear H
      have hnb11 := NB288_289.out
      have hnc11 := NB289_288.out
      have hcz12_0 : w4.cell? ⟨gb288, 0, none⟩ = some (.int .i8 a0_0) := (blk_cell BK288.out 0).trans rfl
      have hcz12_1 : w4.cell? ⟨gb288, 1, none⟩ = some (.slice A0_1 l0_1.length c0_1) := (blk_cell BK288.out 1).trans rfl
      have hfz12_0 := blk_frozen BK288.out 0
      have hfz12_1 := blk_frozen BK288.out 1
      go_wp2_with (first | ((with_reducible refine gate_callee (f := 66) rfl ?_); refine goesL_ (some 5) rfl rfl Try.func66 (by kernel_rfl) rfl #[.agg #[.int .i8 a0_0, .slice A0_1 l0_1.length c0_1]] rfl (by (try simp only [List.map_toArray, List.map_cons, List.map_nil]); first | done | rfl | (simp only [List.length_drop, List.length_take]; rfl)) ?_; (with_reducible refine (lychgateref02_Check.calls k a0_0 _ _ l0_1 t290 _ ?side1 ?side2 A5.out).mono ?_); (case side1 => repeat (first | exact (Kd.C_below HR0_1.out HB.out) | (with_reducible refine Kd.C_alloc ?_ _) | (with_reducible refine Kd.C_drewN ?_ _) | (with_reducible refine Kd.C_drew ?_))); (case side2 => exact HC0_1.out); rintro e w13 ⟨rfl, hb⟩; refine ⟨_, rfl, ?_⟩; have n0_ := Aside0.mk (blk_below (g := gb288) (o := .cells #[.int .i8 a0_0, .slice A0_1 l0_1.length c0_1] 35 (0, 0)) BK288.out hb); have n1_ := Aside0.mk (blk_below (g := gb289) (o := .cells #[.int .i8 0, .slice none 0 0] 35 (0, 0)) BK289.out hb); have n2_ := Aside0.mk (below_step HB.out hb); clear BK288; clear BK289; clear HB; have BK288 := n0_; have BK289 := n1_; have HB := n2_; clear n0_ n1_ n2_; (try clear hb); (try clear hb2); (try clear hk); (try clear hi)))
      go_meet
      case rel => exact ⟨_, (true), (by first | rfl | simp [*]), H', ⟨by first | omega | exact Nat.le_refl _⟩, ⟨BK288.out⟩, ⟨BK289.out⟩, ⟨by repeat (first | (with_reducible first | exact HB.out | apply below_alloc | apply pw_below_drewN | apply below_drew1 | refine below_set ?_ GE288.out | refine below_set ?_ GE289.out) | exact HB.out)⟩⟩
  case rest =>
    clear HC2
    try clear c1
    try clear p2
    try clear c6
    try clear c6b0
    try clear c6b1
    try clear c7
    try clear c11
    try clear hcz10_0 hcz10_1
    try clear hcz12_0 hcz12_1
    try clear hcz8_0 hcz8_1
    try clear hfz10_0
    try clear hfz10_1
    try clear hfz12_0
    try clear hfz12_1
    try clear hfz8_0
    try clear hfz8_1
    obtain ⟨kq, x11_1, rfl, HA, HJ1, BK288, BK289, HB⟩ := hcut
    cases kq with
    | zero => exact absurd HA.out (by simp [lychgateref02_Ground.j0])
    | succ kj1 =>
      have H := HA.out
      clear HA
      simp only [lychgateref02_Ground.j0] at H
      by_cases c14 : x11_1 = true
      · subst c14
        have H1 : (some (0, ([] : List (S35)), false)) = some (r1, r2, r3) := by rw [if_pos rfl] at H; exact H
        clear H
        have H := H1
        clear H1
        simp only [Option.some.injEq, Prod.mk.injEq] at H
        obtain ⟨rfl, rfl, rfl⟩ := H
        have hnb15 := NB289_288.out
        have hnc15 := NB288_289.out
        have hcz16_0 : wc.cell? ⟨gb289, 0, none⟩ = some (.int .i8 0) := (blk_cell BK289.out 0).trans rfl
        have hcz16_1 : wc.cell? ⟨gb289, 1, none⟩ = some (.slice none 0 0) := (blk_cell BK289.out 1).trans rfl
        have hfz16_0 := blk_frozen BK289.out 0
        have hfz16_1 := blk_frozen BK289.out 1
        go_wp2
        refine bodyPost_ret (results_ct rfl _ _ gb289 35 #[.int .i8 0, .slice none 0 0] (0, 0) _ rfl (by (with_reducible repeat (first | refine blk_drewN ?_ _ | refine blk_drew ?_ | refine blk_alloc ?_ _)); refine blk_put (cs := #[.int .i8 0, .slice none 0 0]) ?_ 1 _ rfl; (with_reducible repeat (first | refine blk_drewN ?_ _ | refine blk_drew ?_ | refine blk_alloc ?_ _)); refine blk_put (cs := #[.int .i8 0, .slice none 0 0]) ?_ 0 _ rfl; (with_reducible repeat (first | refine blk_drewN ?_ _ | refine blk_drew ?_ | refine blk_alloc ?_ _)); exact BK289.out) Try.underlying35 rfl (by kernel_rfl)) rfl ?_
        exact ⟨_, by first | rfl | simp [*], by first | exact Kd.R_nil _ _ _ _ _ | exact Kd.N_nil _ _ _ _ _ | exact Kd.V_nil _ _ _ _ _ | exact Kd.Q_nil _ _ _ _ _ | exact Kd.S_nil _ _ _ _ _, by repeat (first | (with_reducible first | exact HB.out | apply below_alloc | apply pw_below_drewN | apply below_drew1 | refine below_set ?_ GE288.out | refine below_set ?_ GE289.out) | exact HB.out)⟩
      · replace c14 := Bool.eq_false_iff.mpr c14
        subst c14
        have H1 : (if (l0_1.length : Int) = 0 then (some (a0_0, ([] : List (S35)), true)) else ((lychgateref02_Of.f a0_0 0 ([] : List (S35)) 0 ([] : List (S35))).bind fun bt291 => (some (bt291.1, bt291.2, true)))) = some (r1, r2, r3) := by rw [if_neg (show ¬ (false = true) by decide)] at H; exact H
        clear H
        have H := H1
        clear H1
        by_cases c17 : (l0_1.length : Int) = 0
        · rw [if_pos c17] at H
          have c17b0 : ((l0_1.length : Int) == 0) = true := beq_iff_eq.mpr c17
          have c17b1 : ((l0_1.length : Int) != 0) = false := bne_eq_false_iff_eq.mpr c17
          clear c17
          simp only [Option.some.injEq, Prod.mk.injEq] at H
          obtain ⟨rfl, rfl, rfl⟩ := H
          have hnb18 := NB288_289.out
          have hnc18 := NB289_288.out
          have hcz19_0 : wc.cell? ⟨gb288, 0, none⟩ = some (.int .i8 a0_0) := (blk_cell BK288.out 0).trans rfl
          have hcz19_1 : wc.cell? ⟨gb288, 1, none⟩ = some (.slice A0_1 l0_1.length c0_1) := (blk_cell BK288.out 1).trans rfl
          have hfz19_0 := blk_frozen BK288.out 0
          have hfz19_1 := blk_frozen BK288.out 1
          have hcz20_0 : wc.cell? ⟨gb289, 0, none⟩ = some (.int .i8 0) := (blk_cell BK289.out 0).trans rfl
          have hcz20_1 : wc.cell? ⟨gb289, 1, none⟩ = some (.slice none 0 0) := (blk_cell BK289.out 1).trans rfl
          have hfz20_0 := blk_frozen BK289.out 0
          have hfz20_1 := blk_frozen BK289.out 1
          go_wp2
          refine bodyPost_ret (results_ct rfl _ _ gb289 35 #[.int .i8 a0_0, .slice none 0 0] (0, 0) _ rfl (by (with_reducible repeat (first | refine blk_drewN ?_ _ | refine blk_drew ?_ | refine blk_alloc ?_ _)); refine blk_put (cs := #[.int .i8 a0_0, .slice none 0 0]) ?_ 1 _ rfl; (with_reducible repeat (first | refine blk_drewN ?_ _ | refine blk_drew ?_ | refine blk_alloc ?_ _)); refine blk_put (cs := #[.int .i8 0, .slice none 0 0]) ?_ 0 _ rfl; (with_reducible repeat (first | refine blk_drewN ?_ _ | refine blk_drew ?_ | refine blk_alloc ?_ _)); exact BK289.out) Try.underlying35 rfl (by kernel_rfl)) rfl ?_
          exact ⟨_, by first | rfl | simp [*], by first | exact Kd.R_nil _ _ _ _ _ | exact Kd.N_nil _ _ _ _ _ | exact Kd.V_nil _ _ _ _ _ | exact Kd.Q_nil _ _ _ _ _ | exact Kd.S_nil _ _ _ _ _, by repeat (first | (with_reducible first | exact HB.out | apply below_alloc | apply pw_below_drewN | apply below_drew1 | refine below_set ?_ GE288.out | refine below_set ?_ GE289.out) | exact HB.out)⟩
        · rw [if_neg c17] at H
          have c17b0 : ((l0_1.length : Int) == 0) = false := beq_eq_false_iff_ne.mpr c17
          have c17b1 : ((l0_1.length : Int) != 0) = true := bne_iff_ne.mpr c17
          have c17b2 : ¬ (l0_1 = []) := fun h_ => c17 (by rw [h_]; rfl)
          replace H := Option.bind_eq_some_iff.mp H
          obtain ⟨⟨t291, t292⟩, A210, H⟩ := H
          replace H : (some (t291, t292, true)) = some (r1, r2, r3) := H
          have A21 := Aside0.mk A210
          clear A210
          simp only [Option.some.injEq, Prod.mk.injEq] at H
          obtain ⟨rfl, rfl, rfl⟩ := H
          have hnb22 := NB288_289.out
          have hnc22 := NB289_288.out
          have hcz23_0 : wc.cell? ⟨gb288, 0, none⟩ = some (.int .i8 a0_0) := (blk_cell BK288.out 0).trans rfl
          have hcz23_1 : wc.cell? ⟨gb288, 1, none⟩ = some (.slice A0_1 l0_1.length c0_1) := (blk_cell BK288.out 1).trans rfl
          have hfz23_0 := blk_frozen BK288.out 0
          have hfz23_1 := blk_frozen BK288.out 1
          go_wp2_with (first | ((with_reducible refine gate_callee (f := 22) rfl ?_); refine goesL_ (some 24) rfl rfl Try.func22 (by kernel_rfl) rfl #[.int .i8 a0_0, .agg #[.int .i8 0, .slice none 0 0], .agg #[.int .i8 0, .slice none 0 0]] rfl (by (try simp only [List.map_toArray, List.map_cons, List.map_nil]); first | done | rfl | (simp only [List.length_drop, List.length_take]; rfl)) ?_; (refine (lychgateref02_Of.calls a0_0 0 (fun k_ => False) _ _ ([] : List (S35)) 0 (fun k_ => False) _ _ ([] : List (S35)) t291 t292 _ ?side1 ?side2 A21.out).mono ?_); (case side1 => exact Kd.V_nil _ _ _ _ _); (case side2 => exact Kd.V_nil _ _ _ _ _); rintro e w24 ⟨v293, rfl, ho0, hb⟩; refine ⟨_, rfl, ?_⟩; have n0_ := Aside0.mk (Kd.N_lower (Kd.N_mono (ok' := fun k_ => (w.heap.size ≤ k_) ∧ k_ ≠ gb288 ∧ k_ ≠ gb289) ho0 (fun k_ hk_ => ⟨Or.elim hk_ (fun hs_ => Or.elim hs_ (fun hs_ => (hs_).elim) (fun hs_ => (hs_).elim)) (fun hn_ => (Nat.le_trans (below_size HB.out) hn_)), Or.elim hk_ (fun hs_ => Or.elim hs_ (fun hs_ => (hs_).elim) (fun hs_ => (hs_).elim)) (fun hn_ => (Kd.freshB (g := gb288) (o := .cells #[.int .i8 a0_0, .slice A0_1 l0_1.length c0_1] 35 (0, 0)) BK288.out k_ hn_)), Or.elim hk_ (fun hs_ => Or.elim hs_ (fun hs_ => (hs_).elim) (fun hs_ => (hs_).elim)) (fun hn_ => (Kd.freshB (g := gb289) (o := .cells #[.int .i8 0, .slice none 0 0] 35 (0, 0)) BK289.out k_ hn_))⟩)) (below_size HB.out)); have n1_ := Aside0.mk (blk_below (g := gb288) (o := .cells #[.int .i8 a0_0, .slice A0_1 l0_1.length c0_1] 35 (0, 0)) BK288.out hb); have n2_ := Aside0.mk (blk_below (g := gb289) (o := .cells #[.int .i8 0, .slice none 0 0] 35 (0, 0)) BK289.out hb); have n3_ := Aside0.mk (below_step HB.out hb); clear BK288; clear BK289; clear HB; have HO294 := n0_; have BK288 := n1_; have BK289 := n2_; have HB := n3_; clear n0_ n1_ n2_ n3_; (try clear hb); (try clear hb2); (try clear hk); (try clear hi); (try clear ho0); have hcz25_0 : w24.cell? ⟨gb289, 0, none⟩ = some (.int .i8 0) := (blk_cell BK289.out 0).trans rfl; have hcz25_1 : w24.cell? ⟨gb289, 1, none⟩ = some (.slice none 0 0) := (blk_cell BK289.out 1).trans rfl; have hfz25_0 := blk_frozen BK289.out 0; have hfz25_1 := blk_frozen BK289.out 1; obtain ⟨Ao26, co26, eo26⟩ := Kd.N_slice HO294.out; subst eo26))
          refine bodyPost_ret (results_ct rfl _ _ gb289 35 #[.int .i8 t291, .slice Ao26 t292.length co26] (0, 0) _ rfl (by (with_reducible repeat (first | refine blk_drewN ?_ _ | refine blk_drew ?_ | refine blk_alloc ?_ _)); refine blk_put (cs := #[.int .i8 t291, .slice none 0 0]) ?_ 1 _ rfl; (with_reducible repeat (first | refine blk_drewN ?_ _ | refine blk_drew ?_ | refine blk_alloc ?_ _)); refine blk_put (cs := #[.int .i8 0, .slice none 0 0]) ?_ 0 _ rfl; (with_reducible repeat (first | refine blk_drewN ?_ _ | refine blk_drew ?_ | refine blk_alloc ?_ _)); exact BK289.out) Try.underlying35 rfl (by kernel_rfl)) rfl ?_
          exact ⟨_, by first | rfl | simp [*], by (with_reducible repeat (first | apply Kd.N_alloc | apply Kd.N_drewN | apply Kd.N_drew)); exact Kd.N_mono (Kd.N_far (p := ⟨gb289, 1, none⟩) (Kd.N_far (p := ⟨gb289, 0, none⟩) (Kd.N_mono HO294.out (fun k_ hk => (⟨hk, hk.2.2⟩ : _ ∧ k_ ≠ gb289))) (fun _ hk => hk.2) (.int .i8 t291)) (fun _ hk => hk.2) (.slice Ao26 t292.length co26)) (fun _ hk => hk.1.1), by repeat (first | (with_reducible first | exact HB.out | apply below_alloc | apply pw_below_drewN | apply below_drew1 | refine below_set ?_ GE288.out | refine below_set ?_ GE289.out) | exact HB.out)⟩
end Go.Proofs.Ytjmpejbciniceaa.X
namespace Go.Proofs.Ytjmpejbciniceaa.X
open Go.RowKit Go.Proofs.YtjmpejbciniceaaW.PrintWords Go.Proofs.YtjmpejbciniceaaW.PrintLast Go.Proofs.YtjmpejbciniceaaW.PrintMore
attribute [local go_sem] max2_int min2_int max_two min_two max_three min_three max_four min_four
set_option linter.unusedVariables false
set_option linter.unusedSimpArgs false
def lychgateref15_Ground.j0 : Nat → Bool → Int → List (S35) → Option (Bool)
  | 0, _, _, _ => none
  | k + 1, x12, x296000, x296001 => if x12 = true then (some false) else ((lychgateref02_Ground.f k x296000 x296001).bind fun bt297 => ((lychgateref02_Same.f k x296000 x296001 bt297.1 bt297.2.1).bind fun t303 => (some t303)))
def lychgateref15_Ground.f (k : Nat) (a0_0 : Int) (l0_1 : List (S35)) : Option (Bool) := (lychgateref02_Check.f k a0_0 l0_1).bind fun t296 => (if t296 = 0 then (lychgateref15_Ground.j0 k (a0_0 == 0) a0_0 l0_1) else (lychgateref15_Ground.j0 k true a0_0 l0_1))
theorem lychgateref15_Ground.mono_l : ∀ k, (∀ y0 y1 y2, LeO (lychgateref15_Ground.j0 k y0 y1 y2) (lychgateref15_Ground.j0 (k + 1) y0 y1 y2))
  | 0 => fun _ _ _ r h => by simp [lychgateref15_Ground.j0] at h
  | k + 1 => by
    have ih0 := lychgateref15_Ground.mono_l k
    · intro y0 y1 y2
      unfold lychgateref15_Ground.j0
      repeat' first
      | (with_reducible exact ih0 _ _ _)
      | (with_reducible exact lychgateref02_Check.mono _ _ _)
      | (with_reducible exact lychgateref02_Ground.mono _ _ _)
      | (with_reducible exact lychgateref02_Same.mono _ _ _ _ _)
      | (with_reducible exact LeO.refl _)
      | (with_reducible exact LeO.none _)
      | (with_reducible refine LeO.ite ?_ ?_)
      | (with_reducible refine LeO.bind ?_ (fun _ => ?_))
      | exact ih0 _ _ _
      | exact lychgateref02_Check.mono _ _ _
      | exact lychgateref02_Ground.mono _ _ _
      | exact lychgateref02_Same.mono _ _ _ _ _
      | exact LeO.none _
      | refine LeO.ite ?_ ?_
      | refine LeO.bind ?_ (fun _ => ?_)
theorem lychgateref15_Ground.mono : ∀ a0 a1 k, LeO (lychgateref15_Ground.f k a0 a1) (lychgateref15_Ground.f (k + 1) a0 a1) := by
  intro a0 a1 k
  have ih0 := lychgateref15_Ground.mono_l k
  unfold lychgateref15_Ground.f
  repeat' first
      | (with_reducible exact ih0 _ _ _)
      | (with_reducible exact lychgateref02_Check.mono _ _ _)
      | (with_reducible exact lychgateref02_Ground.mono _ _ _)
      | (with_reducible exact lychgateref02_Same.mono _ _ _ _ _)
      | (with_reducible exact LeO.refl _)
      | (with_reducible exact LeO.none _)
      | (with_reducible refine LeO.ite ?_ ?_)
      | (with_reducible refine LeO.bind ?_ (fun _ => ?_))
      | exact ih0 _ _ _
      | exact lychgateref02_Check.mono _ _ _
      | exact lychgateref02_Ground.mono _ _ _
      | exact lychgateref02_Same.mono _ _ _ _ _
      | exact LeO.none _
      | refine LeO.ite ?_ ?_
      | refine LeO.bind ?_ (fun _ => ?_)
set_option maxHeartbeats 8000000 in
set_option maxRecDepth 100000 in
theorem lychgateref15_Ground.calls (k : Nat) (a0_0 : Int) (A0_1 : Option Addr) (c0_1 : Nat) (l0_1 : List (S35)) (r : Bool) (w : World) (hr0_1 : Kd.C k35 w A0_1 l0_1.length l0_1) (hc0_1 : l0_1.length ≤ c0_1) (h : lychgateref15_Ground.f k a0_0 l0_1 = some r) :
    Calls Try.prog 72 #[.agg #[.int .i8 a0_0, .slice A0_1 l0_1.length c0_1]] w fun e w' => e = .returned (.bool r) ∧ Below w.heap.size w w' := by
  have hu35 := Try.underlying35
  have HR0_1 := Aside0.mk hr0_1
  have HC0_1 := Aside0.mk hc0_1
  clear hr0_1 hc0_1
  have HB := Aside0.mk (Below.refl w.heap.size w)
  have H : ((lychgateref02_Check.f k a0_0 l0_1).bind fun t296 => (if t296 = 0 then (lychgateref15_Ground.j0 k (a0_0 == 0) a0_0 l0_1) else (lychgateref15_Ground.j0 k true a0_0 l0_1))) = some r := h
  clear h
  have HC2 := Aside0.mk H
  clear H
  go_enter Try.func72, Try.ntmps72
  go_upto_region 1 with (first | ((with_reducible refine gate_dst (N := 1) rfl ?_); refine box_event ?hg (N := 1) ?hd (cs := #[.int .i8 a0_0, .slice A0_1 l0_1.length c0_1]) (t := 35) ?hr ?_; (case hd => rfl); (case hg => rfl); (case hr => go_simp <;> rfl); intro gb295 hg w3 hbox hb; have n0_ := Aside0.mk (below_step (by repeat (first | (with_reducible first | exact HB.out | apply below_alloc | apply pw_below_drewN | apply below_drew1) | exact HB.out)) hb); have n1_ := Aside0.mk (hbox); have n2_ := Aside0.mk ((by rw [hg]; exact (below_size (by repeat (first | (with_reducible first | exact HB.out | apply below_alloc | apply pw_below_drewN | apply below_drew1) | exact HB.out))) : w.heap.size ≤ gb295)); have n3_ := Aside0.mk ((by rw [hg]; exact (below_size (by repeat (first | (with_reducible first | exact HB.out | apply below_alloc | apply pw_below_drewN | apply below_drew1) | exact HB.out))) : w.heap.size ≤ gb295)); clear HB; have HB := n0_; have BK295 := n1_; have GW295 := n2_; have GE295 := n3_; clear n0_ n1_ n2_ n3_; clear hb hbox hg))
  (try simp only [Act.put, List.setIfInBounds_toArray, List.set_cons_zero, List.set_cons_succ])
  go_cut [12] (fun v12 wc => ∃ (kq : Nat) (x12_1 : Bool), v12 = .bool x12_1 ∧ Aside0 (lychgateref15_Ground.j0 kq x12_1 a0_0 l0_1 = some r) ∧ Aside0 (kq ≤ k) ∧ Aside0 (wc.heap[gb295]? = some (.cells #[.int .i8 a0_0, (.slice A0_1 l0_1.length c0_1)] 35 (0, 0))) ∧ Aside0 (Below w.heap.size w wc))
  case first =>
    have H := HC2.out
    clear HC2
    replace H := Option.bind_eq_some_iff.mp H
    obtain ⟨t296, A40, H⟩ := H
    replace H : (if t296 = 0 then (lychgateref15_Ground.j0 k (a0_0 == 0) a0_0 l0_1) else (lychgateref15_Ground.j0 k true a0_0 l0_1)) = some r := H
    have A4 := Aside0.mk A40
    clear A40
    by_cases c5 : t296 = 0
    · rw [if_pos c5] at H
      have c5b0 : (t296 == 0) = true := beq_iff_eq.mpr c5
      have c5b1 : (t296 != 0) = false := bne_eq_false_iff_eq.mpr c5
      clear c5
      (first | rw [c5b0] | (simp only [i64_w, i32_w]; rw [c5b0]) | skip)
      have H' := Aside0.mk H
      clear H
      have hcz6_0 : w3.cell? ⟨gb295, 0, none⟩ = some (.int .i8 a0_0) := (blk_cell BK295.out 0).trans rfl
      have hcz6_1 : w3.cell? ⟨gb295, 1, none⟩ = some (.slice A0_1 l0_1.length c0_1) := (blk_cell BK295.out 1).trans rfl
      have hfz6_0 := blk_frozen BK295.out 0
      have hfz6_1 := blk_frozen BK295.out 1
      go_wp2_with (first | ((with_reducible refine gate_callee (f := 66) rfl ?_); refine goesL_ (some 6) rfl rfl Try.func66 (by kernel_rfl) rfl #[.agg #[.int .i8 a0_0, .slice A0_1 l0_1.length c0_1]] rfl (by (try simp only [List.map_toArray, List.map_cons, List.map_nil]); first | done | rfl | (simp only [List.length_drop, List.length_take]; rfl)) ?_; (with_reducible refine (lychgateref02_Check.calls k a0_0 _ _ l0_1 t296 _ ?side1 ?side2 A4.out).mono ?_); (case side1 => repeat (first | exact (Kd.C_below HR0_1.out HB.out) | (with_reducible refine Kd.C_alloc ?_ _) | (with_reducible refine Kd.C_drewN ?_ _) | (with_reducible refine Kd.C_drew ?_))); (case side2 => exact HC0_1.out); rintro e w7 ⟨rfl, hb⟩; refine ⟨_, rfl, ?_⟩; have n0_ := Aside0.mk (blk_below (g := gb295) (o := .cells #[.int .i8 a0_0, .slice A0_1 l0_1.length c0_1] 35 (0, 0)) BK295.out hb); have n1_ := Aside0.mk (below_step (by repeat (first | (with_reducible first | exact HB.out | apply below_alloc | apply pw_below_drewN | apply below_drew1 | refine below_set ?_ GE295.out) | exact HB.out)) hb); clear BK295; clear HB; have BK295 := n0_; have HB := n1_; clear n0_ n1_; (try clear hb); (try clear hb2); (try clear hk); (try clear hi); have hcz8_0 : w7.cell? ⟨gb295, 0, none⟩ = some (.int .i8 a0_0) := (blk_cell BK295.out 0).trans rfl; have hcz8_1 : w7.cell? ⟨gb295, 1, none⟩ = some (.slice A0_1 l0_1.length c0_1) := (blk_cell BK295.out 1).trans rfl; have hfz8_0 := blk_frozen BK295.out 0; have hfz8_1 := blk_frozen BK295.out 1))
      go_meet
      case rel => exact ⟨_, ((a0_0 == 0)), (by first | rfl | simp [*]), H', ⟨by first | omega | exact Nat.le_refl _⟩, ⟨BK295.out⟩, ⟨by repeat (first | (with_reducible first | exact HB.out | apply below_alloc | apply pw_below_drewN | apply below_drew1 | refine below_set ?_ GE295.out) | exact HB.out)⟩⟩
    · rw [if_neg c5] at H
      have c5b0 : (t296 == 0) = false := beq_eq_false_iff_ne.mpr c5
      have c5b1 : (t296 != 0) = true := bne_iff_ne.mpr c5
      (first | rw [c5b0] | (simp only [i64_w, i32_w]; rw [c5b0]) | skip)
      have H' := Aside0.mk H
      clear H
      have hcz9_0 : w3.cell? ⟨gb295, 0, none⟩ = some (.int .i8 a0_0) := (blk_cell BK295.out 0).trans rfl
      have hcz9_1 : w3.cell? ⟨gb295, 1, none⟩ = some (.slice A0_1 l0_1.length c0_1) := (blk_cell BK295.out 1).trans rfl
      have hfz9_0 := blk_frozen BK295.out 0
      have hfz9_1 := blk_frozen BK295.out 1
      go_wp2_with (first | ((with_reducible refine gate_callee (f := 66) rfl ?_); refine goesL_ (some 6) rfl rfl Try.func66 (by kernel_rfl) rfl #[.agg #[.int .i8 a0_0, .slice A0_1 l0_1.length c0_1]] rfl (by (try simp only [List.map_toArray, List.map_cons, List.map_nil]); first | done | rfl | (simp only [List.length_drop, List.length_take]; rfl)) ?_; (with_reducible refine (lychgateref02_Check.calls k a0_0 _ _ l0_1 t296 _ ?side1 ?side2 A4.out).mono ?_); (case side1 => repeat (first | exact (Kd.C_below HR0_1.out HB.out) | (with_reducible refine Kd.C_alloc ?_ _) | (with_reducible refine Kd.C_drewN ?_ _) | (with_reducible refine Kd.C_drew ?_))); (case side2 => exact HC0_1.out); rintro e w10 ⟨rfl, hb⟩; refine ⟨_, rfl, ?_⟩; have n0_ := Aside0.mk (blk_below (g := gb295) (o := .cells #[.int .i8 a0_0, .slice A0_1 l0_1.length c0_1] 35 (0, 0)) BK295.out hb); have n1_ := Aside0.mk (below_step (by repeat (first | (with_reducible first | exact HB.out | apply below_alloc | apply pw_below_drewN | apply below_drew1 | refine below_set ?_ GE295.out) | exact HB.out)) hb); clear BK295; clear HB; have BK295 := n0_; have HB := n1_; clear n0_ n1_; (try clear hb); (try clear hb2); (try clear hk); (try clear hi)))
      go_meet
      case rel => exact ⟨_, (true), (by first | rfl | simp [*]), H', ⟨by first | omega | exact Nat.le_refl _⟩, ⟨BK295.out⟩, ⟨by repeat (first | (with_reducible first | exact HB.out | apply below_alloc | apply pw_below_drewN | apply below_drew1 | refine below_set ?_ GE295.out) | exact HB.out)⟩⟩
  case rest =>
    clear HC2
    try clear p2
    try clear c5
    try clear c5b0
    try clear c5b1
    try clear c6
    try clear c7
    try clear hcz6_0 hcz6_1
    try clear hcz8_0 hcz8_1
    try clear hcz9_0 hcz9_1
    try clear hfz6_0
    try clear hfz6_1
    try clear hfz8_0
    try clear hfz8_1
    try clear hfz9_0
    try clear hfz9_1
    obtain ⟨kq, x12_1, rfl, HA, HJ1, BK295, HB⟩ := hcut
    cases kq with
    | zero => exact absurd HA.out (by simp [lychgateref15_Ground.j0])
    | succ kj1 =>
      have H := HA.out
      clear HA
      simp only [lychgateref15_Ground.j0] at H
      by_cases c11 : x12_1 = true
      · subst c11
        have H1 : (some false) = some r := by rw [if_pos rfl] at H; exact H
        clear H
        have H := H1
        clear H1
        obtain rfl := Option.some.inj H
        go_wp2
        go_ret
        exact ⟨by first | rfl | simp [*], by repeat (first | (with_reducible first | exact HB.out | apply below_alloc | apply pw_below_drewN | apply below_drew1 | refine below_set ?_ GE295.out) | exact HB.out)⟩
      · replace c11 := Bool.eq_false_iff.mpr c11
        subst c11
        have H1 : ((lychgateref02_Ground.f kj1 a0_0 l0_1).bind fun bt297 => ((lychgateref02_Same.f kj1 a0_0 l0_1 bt297.1 bt297.2.1).bind fun t303 => (some t303))) = some r := by rw [if_neg (show ¬ (false = true) by decide)] at H; exact H
        clear H
        have H := H1
        clear H1
        replace H := Option.bind_eq_some_iff.mp H
        obtain ⟨⟨t297, t298, t301⟩, A120, H⟩ := H
        replace H : ((lychgateref02_Same.f kj1 a0_0 l0_1 t297 t298).bind fun t303 => (some t303)) = some r := H
        have A12 := Aside0.mk A120
        clear A120
        replace H := Option.bind_eq_some_iff.mp H
        obtain ⟨t303, A130, H⟩ := H
        replace H : (some t303) = some r := H
        have A13 := Aside0.mk A130
        clear A130
        obtain rfl := Option.some.inj H
        have hcz14_0 : wc.cell? ⟨gb295, 0, none⟩ = some (.int .i8 a0_0) := (blk_cell BK295.out 0).trans rfl
        have hcz14_1 : wc.cell? ⟨gb295, 1, none⟩ = some (.slice A0_1 l0_1.length c0_1) := (blk_cell BK295.out 1).trans rfl
        have hfz14_0 := blk_frozen BK295.out 0
        have hfz14_1 := blk_frozen BK295.out 1
        go_wp2_with (first | ((with_reducible refine gate_callee (f := 77) rfl ?_); refine goesL_ (some 15) rfl rfl Try.func77 (by kernel_rfl) rfl #[.agg #[.int .i8 a0_0, .slice A0_1 l0_1.length c0_1]] rfl (by (try simp only [List.map_toArray, List.map_cons, List.map_nil]); first | done | rfl | (simp only [List.length_drop, List.length_take]; rfl)) ?_; (with_reducible refine (lychgateref02_Ground.calls kj1 a0_0 _ _ l0_1 t297 t298 t301 _ ?side1 ?side2 A12.out).mono ?_); (case side1 => repeat (first | exact (Kd.C_below HR0_1.out HB.out) | (with_reducible refine Kd.C_alloc ?_ _) | (with_reducible refine Kd.C_drewN ?_ _) | (with_reducible refine Kd.C_drew ?_))); (case side2 => exact HC0_1.out); rintro e w15 ⟨v299, rfl, ho0, hb⟩; refine ⟨_, rfl, ?_⟩; have n0_ := Aside0.mk (Kd.N_lower (Kd.N_mono (ok' := fun k_ => k_ ≠ gb295) ho0 (fun k_ hk_ => (Kd.freshB (g := gb295) (o := .cells #[.int .i8 a0_0, .slice A0_1 l0_1.length c0_1] 35 (0, 0)) BK295.out k_ hk_))) (below_size (by repeat (first | (with_reducible first | exact HB.out | apply below_alloc | apply pw_below_drewN | apply below_drew1 | refine below_set ?_ GE295.out) | exact HB.out)))); have n1_ := Aside0.mk (blk_below (g := gb295) (o := .cells #[.int .i8 a0_0, .slice A0_1 l0_1.length c0_1] 35 (0, 0)) BK295.out hb); have n2_ := Aside0.mk (below_step (by repeat (first | (with_reducible first | exact HB.out | apply below_alloc | apply pw_below_drewN | apply below_drew1 | refine below_set ?_ GE295.out) | exact HB.out)) hb); clear BK295; clear HB; have HO300 := n0_; have BK295 := n1_; have HB := n2_; clear n0_ n1_ n2_; (try clear hb); (try clear hb2); (try clear hk); (try clear hi); (try clear ho0)) | ((with_reducible refine gate_dst (N := 3) rfl ?_); refine box_event ?hg (N := 3) ?hd (cs := #[.int .i8 0, .slice none 0 0]) (t := 35) ?hr ?_; (case hd => rfl); (case hg => rfl); (case hr => go_simp <;> rfl); intro gb302 hg w16 hbox hb; have n0_ := Aside0.mk (Kd.N_below (Kd.N_elderB (by (with_reducible repeat (first | apply Kd.N_alloc | apply Kd.N_drewN | apply Kd.N_drew)); exact HO300.out) gb302 (Nat.le_of_eq hg.symm)) hb); have n1_ := Aside0.mk (blk_below (g := gb295) (o := .cells #[.int .i8 a0_0, .slice A0_1 l0_1.length c0_1] 35 (0, 0)) BK295.out hb); have n2_ := Aside0.mk (below_step (by repeat (first | (with_reducible first | exact HB.out | apply below_alloc | apply pw_below_drewN | apply below_drew1 | refine below_set ?_ GE295.out) | exact HB.out)) hb); have n3_ := Aside0.mk (hbox); have n4_ := Aside0.mk ((by rw [hg]; exact (below_size (by repeat (first | (with_reducible first | exact HB.out | apply below_alloc | apply pw_below_drewN | apply below_drew1 | refine below_set ?_ GE295.out) | exact HB.out))) : w.heap.size ≤ gb302)); have n5_ := Aside0.mk ((by rw [hg]; exact (below_size (by repeat (first | (with_reducible first | exact HB.out | apply below_alloc | apply pw_below_drewN | apply below_drew1 | refine below_set ?_ GE295.out) | exact HB.out))) : w.heap.size ≤ gb302)); have n6_ := Aside0.mk ((by rw [hg]; exact Nat.ne_of_lt (blk_lt (g := gb295) (o := .cells #[.int .i8 a0_0, .slice A0_1 l0_1.length c0_1] 35 (0, 0)) BK295.out) : gb295 ≠ gb302)); have n7_ := Aside0.mk ((by rw [hg]; exact Nat.ne_of_gt (blk_lt (g := gb295) (o := .cells #[.int .i8 a0_0, .slice A0_1 l0_1.length c0_1] 35 (0, 0)) BK295.out) : gb302 ≠ gb295)); clear HO300; clear BK295; clear HB; have HO300 := n0_; have BK295 := n1_; have HB := n2_; have BK302 := n3_; have GW302 := n4_; have GE302 := n5_; have NB295_302 := n6_; have NB302_295 := n7_; clear n0_ n1_ n2_ n3_ n4_ n5_ n6_ n7_; clear hb hbox hg; have hnb17 := NB302_295.out; have hnc17 := NB295_302.out; have hcz18_0 : w16.cell? ⟨gb302, 0, none⟩ = some (.int .i8 0) := (blk_cell BK302.out 0).trans rfl; have hcz18_1 : w16.cell? ⟨gb302, 1, none⟩ = some (.slice none 0 0) := (blk_cell BK302.out 1).trans rfl; have hfz18_0 := blk_frozen BK302.out 0; have hfz18_1 := blk_frozen BK302.out 1; obtain ⟨Ao19, co19, eo19⟩ := Kd.N_slice HO300.out; subst eo19; have hcz20_0 : w16.cell? ⟨gb295, 0, none⟩ = some (.int .i8 a0_0) := (blk_cell BK295.out 0).trans rfl; have hcz20_1 : w16.cell? ⟨gb295, 1, none⟩ = some (.slice A0_1 l0_1.length c0_1) := (blk_cell BK295.out 1).trans rfl; have hfz20_0 := blk_frozen BK295.out 0; have hfz20_1 := blk_frozen BK295.out 1) | ((with_reducible refine gate_callee (f := 56) rfl ?_); refine goesL_ (some 20) rfl rfl Try.func56 (by kernel_rfl) rfl #[.agg #[.int .i8 a0_0, .slice A0_1 l0_1.length c0_1], .agg #[.int .i8 t297, .slice Ao19 t298.length co19]] rfl (by (try simp only [List.map_toArray, List.map_cons, List.map_nil]); first | done | rfl | (simp only [List.length_drop, List.length_take]; rfl)) ?_; (with_reducible refine (lychgateref02_Same.calls kj1 a0_0 _ _ l0_1 t297 _ _ t298 t303 _ ?side1 ?side2 ?side3 ?side4 A13.out).mono ?_); (case side1 => exact Kd.C_below HR0_1.out (by repeat (first | (with_reducible first | exact HB.out | apply below_alloc | apply pw_below_drewN | apply below_drew1 | refine below_set ?_ GE295.out | refine below_set ?_ GE302.out) | exact HB.out))); (case side2 => exact HC0_1.out); (case side3 => refine (Kd.N_reads' (e := 35) (base := w.heap.size) (ok := fun k_ => (k_ ≠ gb295 ∧ k_ ≠ gb302)) (n := t298.length) (c := co19) ?_).2.2; exact (by (with_reducible repeat (first | apply Kd.N_alloc | apply Kd.N_drewN | apply Kd.N_drew)); exact (Kd.N_mono (Kd.N_far (p := ⟨gb302, 1, none⟩) (Kd.N_far (p := ⟨gb302, 0, none⟩) (Kd.N_mono HO300.out (fun k_ hk => (⟨hk, hk.2⟩ : _ ∧ k_ ≠ gb302))) (fun _ hk => hk.2) (.int .i8 t297)) (fun _ hk => hk.2) (.slice Ao19 t298.length co19)) (fun _ h_ => h_.1)))); (case side4 => exact (Kd.N_reads' HO300.out).2.1); rintro e w21 ⟨rfl, hb⟩; refine ⟨_, rfl, ?_⟩; have n0_ := Aside0.mk (Kd.N_below (by (with_reducible repeat (first | apply Kd.N_alloc | apply Kd.N_drewN | apply Kd.N_drew)); exact (Kd.N_mono (Kd.N_far (p := ⟨gb302, 1, none⟩) (Kd.N_far (p := ⟨gb302, 0, none⟩) (Kd.N_mono HO300.out (fun k_ hk => (⟨hk, hk.2⟩ : _ ∧ k_ ≠ gb302))) (fun _ hk => hk.2) (.int .i8 t297)) (fun _ hk => hk.2) (.slice Ao19 t298.length co19)) (fun _ h_ => h_.1))) hb); have n1_ := Aside0.mk (blk_below (g := gb295) (o := .cells #[.int .i8 a0_0, .slice A0_1 l0_1.length c0_1] 35 (0, 0)) (by (with_reducible repeat (first | refine blk_drewN ?_ _ | refine blk_drew ?_ | refine blk_alloc ?_ _)); refine blk_far ?_ NB295_302.out _; (with_reducible repeat (first | refine blk_drewN ?_ _ | refine blk_drew ?_ | refine blk_alloc ?_ _)); refine blk_far ?_ NB295_302.out _; (with_reducible repeat (first | refine blk_drewN ?_ _ | refine blk_drew ?_ | refine blk_alloc ?_ _)); exact BK295.out) hb); have n2_ := Aside0.mk (blk_below (g := gb302) (o := .cells #[.int .i8 t297, .slice Ao19 t298.length co19] 35 (0, 0)) (by (with_reducible repeat (first | refine blk_drewN ?_ _ | refine blk_drew ?_ | refine blk_alloc ?_ _)); refine blk_put (cs := #[.int .i8 t297, .slice none 0 0]) ?_ 1 _ rfl; (with_reducible repeat (first | refine blk_drewN ?_ _ | refine blk_drew ?_ | refine blk_alloc ?_ _)); refine blk_put (cs := #[.int .i8 0, .slice none 0 0]) ?_ 0 _ rfl; (with_reducible repeat (first | refine blk_drewN ?_ _ | refine blk_drew ?_ | refine blk_alloc ?_ _)); exact BK302.out) hb); have n3_ := Aside0.mk (below_step (by repeat (first | (with_reducible first | exact HB.out | apply below_alloc | apply pw_below_drewN | apply below_drew1 | refine below_set ?_ GE295.out | refine below_set ?_ GE302.out) | exact HB.out)) hb); clear HO300; clear BK295; clear BK302; clear HB; have HO300 := n0_; have BK295 := n1_; have BK302 := n2_; have HB := n3_; clear n0_ n1_ n2_ n3_; (try clear hb); (try clear hb2); (try clear hk); (try clear hi)))
        go_ret
        exact ⟨by first | rfl | simp [*], by repeat (first | (with_reducible first | exact HB.out | apply below_alloc | apply pw_below_drewN | apply below_drew1 | refine below_set ?_ GE295.out | refine below_set ?_ GE302.out) | exact HB.out)⟩
end Go.Proofs.Ytjmpejbciniceaa.X
namespace Go.Proofs.Ytjmpejbciniceaa.X
open Go.RowKit Go.Proofs.YtjmpejbciniceaaW.PrintWords Go.Proofs.YtjmpejbciniceaaW.PrintLast Go.Proofs.YtjmpejbciniceaaW.PrintMore
attribute [local go_sem] max2_int min2_int max_two min_two max_three min_three max_four min_four
set_option linter.unusedVariables false
set_option linter.unusedSimpArgs false
def lychgateref15_small.f (k : Nat) (a0_0 : Int) (l0_1 : List (S35)) : Option (Bool) := (lychgateref02_Check.f k a0_0 l0_1).bind fun t311 => (some (t311 == 0))
theorem lychgateref15_small.mono : ∀ a0 a1 k, LeO (lychgateref15_small.f k a0 a1) (lychgateref15_small.f (k + 1) a0 a1) := by
  intro a0 a1 k
  unfold lychgateref15_small.f
  repeat' first
      | (with_reducible exact lychgateref02_Check.mono _ _ _)
      | (with_reducible exact LeO.refl _)
      | (with_reducible exact LeO.none _)
      | (with_reducible refine LeO.ite ?_ ?_)
      | (with_reducible refine LeO.bind ?_ (fun _ => ?_))
      | exact lychgateref02_Check.mono _ _ _
      | exact LeO.none _
      | refine LeO.ite ?_ ?_
      | refine LeO.bind ?_ (fun _ => ?_)
set_option maxHeartbeats 8000000 in
set_option maxRecDepth 100000 in
theorem lychgateref15_small.calls (k : Nat) (a0_0 : Int) (A0_1 : Option Addr) (c0_1 : Nat) (l0_1 : List (S35)) (r : Bool) (w : World) (hr0_1 : Kd.C k35 w A0_1 l0_1.length l0_1) (hc0_1 : l0_1.length ≤ c0_1) (h : lychgateref15_small.f k a0_0 l0_1 = some r) :
    Calls Try.prog 79 #[.agg #[.int .i8 a0_0, .slice A0_1 l0_1.length c0_1]] w fun e w' => e = .returned (.bool r) ∧ Below w.heap.size w w' := by
  have hu35 := Try.underlying35
  have HR0_1 := Aside0.mk hr0_1
  have HC0_1 := Aside0.mk hc0_1
  clear hr0_1 hc0_1
  have HB := Aside0.mk (Below.refl w.heap.size w)
  have H : ((lychgateref02_Check.f k a0_0 l0_1).bind fun t311 => (some (t311 == 0))) = some r := h
  clear h
  replace H := Option.bind_eq_some_iff.mp H
  obtain ⟨t311, A20, H⟩ := H
  replace H : (some (t311 == 0)) = some r := H
  have A2 := Aside0.mk A20
  clear A20
  obtain rfl := Option.some.inj H
  go_enter Try.func79, Try.ntmps79
  go_wp2_with (first | ((with_reducible refine gate_dst (N := 1) rfl ?_); refine box_event ?hg (N := 1) ?hd (cs := #[.int .i8 a0_0, .slice A0_1 l0_1.length c0_1]) (t := 35) ?hr ?_; (case hd => rfl); (case hg => rfl); (case hr => go_simp <;> rfl); intro gb310 hg w3 hbox hb; have n0_ := Aside0.mk (below_step HB.out hb); have n1_ := Aside0.mk (hbox); have n2_ := Aside0.mk ((by rw [hg]; exact (below_size HB.out) : w.heap.size ≤ gb310)); have n3_ := Aside0.mk ((by rw [hg]; exact (below_size HB.out) : w.heap.size ≤ gb310)); clear HB; have HB := n0_; have BK310 := n1_; have GW310 := n2_; have GE310 := n3_; clear n0_ n1_ n2_ n3_; clear hb hbox hg; have hcz4_0 : w3.cell? ⟨gb310, 0, none⟩ = some (.int .i8 a0_0) := (blk_cell BK310.out 0).trans rfl; have hcz4_1 : w3.cell? ⟨gb310, 1, none⟩ = some (.slice A0_1 l0_1.length c0_1) := (blk_cell BK310.out 1).trans rfl) | ((with_reducible refine gate_callee (f := 66) rfl ?_); refine goesL_ (some 4) rfl rfl Try.func66 (by kernel_rfl) rfl #[.agg #[.int .i8 a0_0, .slice A0_1 l0_1.length c0_1]] rfl (by (try simp only [List.map_toArray, List.map_cons, List.map_nil]); first | done | rfl | (simp only [List.length_drop, List.length_take]; rfl)) ?_; (with_reducible refine (lychgateref02_Check.calls k a0_0 _ _ l0_1 t311 _ ?side1 ?side2 A2.out).mono ?_); (case side1 => repeat (first | exact (Kd.C_below HR0_1.out HB.out) | (with_reducible refine Kd.C_alloc ?_ _) | (with_reducible refine Kd.C_drewN ?_ _) | (with_reducible refine Kd.C_drew ?_))); (case side2 => exact HC0_1.out); rintro e w5 ⟨rfl, hb⟩; refine ⟨_, rfl, ?_⟩; have n0_ := Aside0.mk (blk_below (g := gb310) (o := .cells #[.int .i8 a0_0, .slice A0_1 l0_1.length c0_1] 35 (0, 0)) BK310.out hb); have n1_ := Aside0.mk (below_step HB.out hb); clear BK310; clear HB; have BK310 := n0_; have HB := n1_; clear n0_ n1_; (try clear hb); (try clear hb2); (try clear hk); (try clear hi)))
  go_ret
  exact ⟨by first | rfl | simp [*], by repeat (first | (with_reducible first | exact HB.out | apply below_alloc | apply pw_below_drewN | apply below_drew1 | refine below_set ?_ GE310.out) | exact HB.out)⟩
end Go.Proofs.Ytjmpejbciniceaa.X
namespace Go.Proofs.Ytjmpejbciniceaa.X
open Go.RowKit Go.Proofs.YtjmpejbciniceaaW.PrintWords Go.Proofs.YtjmpejbciniceaaW.PrintLast Go.Proofs.YtjmpejbciniceaaW.PrintMore
set_option linter.unusedVariables false
set_option linter.unusedSimpArgs false
def leafK (k : Int) : Prop := k = 0 ∨ k = 1 ∨ k = 2
def nodeK (k : Int) : Prop := k = 3 ∨ k = 4 ∨ k = 5
theorem right_cases {t : S35} (h : rightB t = true) : (∃ k, leafK k ∧ t = ⟨k, []⟩) ∨ (∃ k a b, nodeK k ∧ rightB a = true ∧ rightB b = true ∧ t = ⟨k, [a, b]⟩) := by
  obtain ⟨k, l⟩ := t
  rw [rightB] at h
  simp only [Bool.and_eq_true, decide_eq_true_eq] at h
  obtain ⟨h1, h2⟩ := h
  by_cases hl : k = 0 ∨ k = 1 ∨ k = 2
  · have : partsI k = 0 := by unfold partsI; rw [if_pos hl]
    rw [this] at h1
    have : l = [] := List.eq_nil_of_length_eq_zero (by omega)
    exact .inl ⟨k, hl, by rw [this]⟩
  · by_cases hn : k = 3 ∨ k = 4 ∨ k = 5
    · have : partsI k = 2 := by unfold partsI; rw [if_neg hl, if_pos hn]
      rw [this] at h1
      match l, h1, h2 with
      | [a, b], _, h2 =>
        simp only [rightL, Bool.and_eq_true] at h2
        exact .inr ⟨k, a, b, hn, h2.1, h2.2.1, rfl⟩
    · have : partsI k = -1 := by unfold partsI; rw [if_neg hl, if_neg hn]
      omega
theorem nodes_two (k : Int) (a b : S35) : nodes ⟨k, [a, b]⟩ = 1 + nodes a + nodes b := by simp only [nodes, nodesL]; omega
theorem nodes_pos (t : S35) : 0 < nodes t := by rw [nodes_eq]; omega
theorem right_ind {P : S35 → Prop} (leaf : ∀ k, leafK k → P ⟨k, []⟩) (node : ∀ k a b, nodeK k → rightB a = true → rightB b = true → P a → P b → P ⟨k, [a, b]⟩) : ∀ t, rightB t = true → P t := by
  suffices h : ∀ n t, nodes t < n → rightB t = true → P t from fun t ht => h (nodes t + 1) t (by omega) ht
  intro n
  induction n with
  | zero => intro t h; omega
  | succ n ih =>
    intro t hn ht
    rcases right_cases ht with ⟨k, hk, rfl⟩ | ⟨k, a, b, hk, ha, hb, rfl⟩
    · exact leaf k hk
    · rw [nodes_two] at hn
      have := nodes_pos a
      have := nodes_pos b
      exact node k a b hk ha hb (ih a (by omega) ha) (ih b (by omega) hb)
theorem leaf_ne_node {k : Int} (h : leafK k) : ¬ nodeK k := by rcases h with rfl | rfl | rfl <;> simp [nodeK]
mutual
def likeB : S35 → S35 → Bool
  | ⟨k, l⟩, b => decide (k = b.f0) && likeL l b.f1
def likeL : List S35 → List S35 → Bool
  | [], m => match m with
    | [] => true
    | _ :: _ => false
  | x :: l, m => match m with
    | [] => false
    | y :: m => likeB x y && likeL l m
end
theorem like_two {k k' : Int} {a b a' b' : S35} : likeB ⟨k, [a, b]⟩ ⟨k', [a', b']⟩ = (decide (k = k') && (likeB a a' && likeB b b')) := by
  simp [likeB, likeL]
end Go.Proofs.Ytjmpejbciniceaa.X
namespace Go.Proofs.Ytjmpejbciniceaa.X
open Go.RowKit Go.Proofs.YtjmpejbciniceaaW.PrintWords Go.Proofs.YtjmpejbciniceaaW.PrintLast Go.Proofs.YtjmpejbciniceaaW.PrintMore
set_option linter.unusedVariables false
set_option linter.unusedSimpArgs false
def groundT (t : S35) : S35 × Bool := if checkI t = 0 ∧ t.f0 ≠ 0 then (if t.f1.length = 0 then (⟨t.f0, []⟩, true) else (⟨t.f0, [z35, z35]⟩, true)) else (z35, false)
theorem Ground_ev (t : S35) : Ev (fun f => types_Ground.f f t.f0 t.f1) ((groundT t).1.f0, (groundT t).1.f1, (groundT t).2) := by
  unfold types_Ground.f groundT
  refine Ev.bind (Ev_eq (Check_ev t.f0 t.f1) (by rw [S35.eta])) ?_
  by_cases h1 : checkI t = 0
  · simp only [h1, if_true]
    by_cases h0 : t.f0 = 0
    · simpa [h0, z35] using Ev.now _
    · rw [if_pos ⟨trivial, h0⟩]
      simp only [h0, if_false]
      refine Ev.bind (parts_ev t.f0) ?_
      have hr := (check_nodes h1).2.2
      rcases right_cases hr with ⟨k, hk, rfl⟩ | ⟨k, a, b, hk, _, _, rfl⟩
      · have : partsI k = 0 := by rcases hk with rfl | rfl | rfl <;> rfl
        simp only [this]
        simpa using Ev.now _
      · have : partsI k = 2 := by rcases hk with rfl | rfl | rfl <;> rfl
        simp only [this]
        simpa [List.replicate] using Ev.now _
  · simp only [h1, if_false, false_and]
    simpa [z35] using Ev.now _
end Go.Proofs.Ytjmpejbciniceaa.X
namespace Go.Proofs.Ytjmpejbciniceaa.X
open Go.RowKit Go.Proofs.YtjmpejbciniceaaW.PrintWords Go.Proofs.YtjmpejbciniceaaW.PrintLast Go.Proofs.YtjmpejbciniceaaW.PrintMore
set_option linter.unusedVariables false
set_option linter.unusedSimpArgs false
theorem equal_ev (n : Nat) : ∀ (a b : S35), nodes a < n → rightB a = true → rightB b = true → Ev (fun f => types_equal.f f a.f0 a.f1 b.f0 b.f1) (likeB a b) := by
  induction n with
  | zero => intro a b h; omega
  | succ n ih =>
  intro a b hn ha hb
  rcases right_cases ha with ⟨k, hk, rfl⟩ | ⟨k, a1, a2, hk, ha1, ha2, rfl⟩
  · rcases right_cases hb with ⟨k', hk', rfl⟩ | ⟨k', b1, b2, hk', hb1, hb2, rfl⟩
    · by_cases e : k = k'
      · refine Ev.step (f := fun f => types_equal.l0 f 0 0 k [] k' []) (fun f => by simp only [types_equal.f]; rw [if_pos e]; rfl) (Ev.step (f := fun _ => some true) (fun f => by simp [types_equal.l0]) (Ev_eq (Ev.now _) (by simp [likeB, likeL, e])))
      · exact Ev.step (f := fun _ => some false) (fun f => by simp only [types_equal.f]; rw [if_neg e]) (Ev_eq (Ev.now _) (by simp [likeB, e]))
    · have e : ¬ k = k' := fun e => leaf_ne_node hk (e ▸ hk')
      exact Ev.step (f := fun _ => some false) (fun f => by simp only [types_equal.f]; rw [if_neg e]) (Ev_eq (Ev.now _) (by simp [likeB, e]))
  · rcases right_cases hb with ⟨k', hk', rfl⟩ | ⟨k', b1, b2, hk', hb1, hb2, rfl⟩
    · have e : ¬ k = k' := fun e => leaf_ne_node hk' (e ▸ hk)
      exact Ev.step (f := fun _ => some false) (fun f => by simp only [types_equal.f]; rw [if_neg e]) (Ev_eq (Ev.now _) (by simp [likeB, e]))
    · rw [nodes_two] at hn
      have p1 := nodes_pos a1
      have p2 := nodes_pos a2
      by_cases e : k = k'
      · have e1 := ih a1 b1 (by omega) ha1 hb1
        have e2 := ih a2 b2 (by omega) ha2 hb2
        have w1 : wrap64 1 = 1 := w64 1 (by omega) (by omega)
        have w2 : wrap64 2 = 2 := w64 2 (by omega) (by omega)
        refine Ev.step (f := fun f => types_equal.l0 f 2 0 k [a1, a2] k' [b1, b2]) (fun f => by simp only [types_equal.f]; rw [if_pos e]; rfl) ?_
        refine Ev.step (f := fun f => (types_equal.f f a1.f0 a1.f1 b1.f0 b1.f1).bind fun t => if t = true then types_equal.l0 f 2 1 k [a1, a2] k' [b1, b2] else some false) (fun f => by simp [types_equal.l0, rd_T35, w1]) (Ev.bind e1 ?_)
        cases h1 : likeB a1 b1 with
        | false => simpa [like_two, h1] using Ev.now _
        | true =>
          simp only [if_true]
          refine Ev.step (f := fun f => (types_equal.f f a2.f0 a2.f1 b2.f0 b2.f1).bind fun t => if t = true then types_equal.l0 f 2 2 k [a1, a2] k' [b1, b2] else some false) (fun f => by simp [types_equal.l0, rd_T35, w2]) (Ev.bind e2 ?_)
          cases h2 : likeB a2 b2 with
          | false => simpa [like_two, h2] using Ev.now _
          | true => simpa using Ev.step (f := fun _ => some true) (fun f => by simp [types_equal.l0]) (Ev_eq (Ev.now _) (by simp [like_two, h1, h2, e]))
      · exact Ev.step (f := fun _ => some false) (fun f => by simp only [types_equal.f]; rw [if_neg e]) (Ev_eq (Ev.now _) (by simp [likeB, e]))
def sameB (a b : S35) : Bool := decide (checkI a = 0) && decide (checkI b = 0) && likeB a b
theorem Same_ev (a b : S35) : Ev (fun f => types_Same.f f a.f0 a.f1 b.f0 b.f1) (sameB a b) := by
  unfold types_Same.f sameB
  refine Ev.bind (Ev_eq (Check_ev a.f0 a.f1) (by rw [S35.eta])) ?_
  by_cases h1 : checkI a = 0
  · simp only [h1, if_true, decide_true, Bool.true_and]
    refine Ev.bind (Ev_eq (Check_ev b.f0 b.f1) (by rw [S35.eta])) ?_
    by_cases h2 : checkI b = 0
    · simp only [h2, if_true, decide_true, Bool.true_and]
      exact Ev.bind (equal_ev (nodes a + 1) a b (by omega) (check_nodes h1).2.2 (check_nodes h2).2.2) (Ev.now _)
    · simpa [h2] using Ev.now _
  · simpa [h1] using Ev.now _
theorem Same_calls {a b : S35} {va vb : Value} {w : World} (ha : IsT w va a) (hb : IsT w vb b) : Calls Try.prog 13 #[va, vb] w fun e w' => e = .returned (.bool (sameB a b)) ∧ Below w.heap.size w w' := by
  obtain ⟨A, c, rfl, h1, h2⟩ := ha
  obtain ⟨B, d, rfl, h3, h4⟩ := hb
  obtain ⟨k, hk⟩ := (Same_ev a b).rounds
  exact types_Same.calls k a.f0 A c a.f1 b.f0 B d b.f1 _ w h2 h1 h4 h3 hk
end Go.Proofs.Ytjmpejbciniceaa.X
namespace Go.Proofs.Ytjmpejbciniceaa.X
open Go.RowKit Go.Proofs.YtjmpejbciniceaaW.PrintWords Go.Proofs.YtjmpejbciniceaaW.PrintLast Go.Proofs.YtjmpejbciniceaaW.PrintMore
set_option linter.unusedVariables false
set_option linter.unusedSimpArgs false
theorem refequal_ev (n : Nat) : ∀ (a b : S35), nodes a < n → rightB a = true → rightB b = true → Ev (fun f => lychgateref02_Equal.f f a.f0 a.f1 b.f0 b.f1) (likeB a b) := by
  induction n with
  | zero => intro a b h; omega
  | succ n ih =>
  intro a b hn ha hb
  rcases right_cases ha with ⟨k, hk, rfl⟩ | ⟨k, a1, a2, hk, ha1, ha2, rfl⟩
  · rcases right_cases hb with ⟨k', hk', rfl⟩ | ⟨k', b1, b2, hk', hb1, hb2, rfl⟩
    · by_cases e : k = k'
      · refine Ev.step (f := fun f => lychgateref02_Equal.l0 f 0 k [] k' []) (fun f => by simp only [lychgateref02_Equal.f]; rw [if_pos e]) (Ev.step (f := fun _ => some true) (fun f => by simp [lychgateref02_Equal.l0]) (Ev_eq (Ev.now _) (by simp [likeB, likeL, e])))
      · exact Ev.step (f := fun _ => some false) (fun f => by simp only [lychgateref02_Equal.f]; rw [if_neg e]) (Ev_eq (Ev.now _) (by simp [likeB, e]))
    · have e : ¬ k = k' := fun e => leaf_ne_node hk (e ▸ hk')
      exact Ev.step (f := fun _ => some false) (fun f => by simp only [lychgateref02_Equal.f]; rw [if_neg e]) (Ev_eq (Ev.now _) (by simp [likeB, e]))
  · rcases right_cases hb with ⟨k', hk', rfl⟩ | ⟨k', b1, b2, hk', hb1, hb2, rfl⟩
    · have e : ¬ k = k' := fun e => leaf_ne_node hk' (e ▸ hk)
      exact Ev.step (f := fun _ => some false) (fun f => by simp only [lychgateref02_Equal.f]; rw [if_neg e]) (Ev_eq (Ev.now _) (by simp [likeB, e]))
    · rw [nodes_two] at hn
      have p1 := nodes_pos a1
      have p2 := nodes_pos a2
      by_cases e : k = k'
      · have e1 := ih a1 b1 (by omega) ha1 hb1
        have e2 := ih a2 b2 (by omega) ha2 hb2
        have w1 : wrap64 1 = 1 := w64 1 (by omega) (by omega)
        have w2 : wrap64 2 = 2 := w64 2 (by omega) (by omega)
        refine Ev.step (f := fun f => lychgateref02_Equal.l0 f 0 k [a1, a2] k' [b1, b2]) (fun f => by simp only [lychgateref02_Equal.f]; rw [if_pos e]) ?_
        refine Ev.step (f := fun f => (lychgateref02_Equal.f f a1.f0 a1.f1 b1.f0 b1.f1).bind fun t => if t = true then lychgateref02_Equal.l0 f 1 k [a1, a2] k' [b1, b2] else some false) (fun f => by simp [lychgateref02_Equal.l0, rd_T35, w1]) (Ev.bind e1 ?_)
        cases h1 : likeB a1 b1 with
        | false => simpa [like_two, h1] using Ev.now _
        | true =>
          simp only [if_true]
          refine Ev.step (f := fun f => (lychgateref02_Equal.f f a2.f0 a2.f1 b2.f0 b2.f1).bind fun t => if t = true then lychgateref02_Equal.l0 f 2 k [a1, a2] k' [b1, b2] else some false) (fun f => by simp [lychgateref02_Equal.l0, rd_T35, w2]) (Ev.bind e2 ?_)
          cases h2 : likeB a2 b2 with
          | false => simpa [like_two, h2] using Ev.now _
          | true => simpa using Ev.step (f := fun _ => some true) (fun f => by simp [lychgateref02_Equal.l0]) (Ev_eq (Ev.now _) (by simp [like_two, h1, h2, e]))
      · exact Ev.step (f := fun _ => some false) (fun f => by simp only [lychgateref02_Equal.f]; rw [if_neg e]) (Ev_eq (Ev.now _) (by simp [likeB, e]))
theorem refSame_ev (a b : S35) : Ev (fun f => lychgateref02_Same.f f a.f0 a.f1 b.f0 b.f1) (sameB a b) := by
  unfold lychgateref02_Same.f sameB
  refine Ev.bind (Ev_eq (refCheck_ev a.f0 a.f1) (by rw [S35.eta])) ?_
  by_cases h1 : checkI a = 0
  · simp only [h1, if_true, decide_true, Bool.true_and]
    refine Ev.bind (Ev_eq (refCheck_ev b.f0 b.f1) (by rw [S35.eta])) ?_
    by_cases h2 : checkI b = 0
    · simp only [h2, if_true, decide_true, Bool.true_and]
      exact Ev.bind (refequal_ev (nodes a + 1) a b (by omega) (check_nodes h1).2.2 (check_nodes h2).2.2) (Ev.now _)
    · simpa [h2] using Ev.now _
  · simpa [h1] using Ev.now _
theorem refSame_calls {a b : S35} {va vb : Value} {w : World} (ha : IsT w va a) (hb : IsT w vb b) : Calls Try.prog 56 #[va, vb] w fun e w' => e = .returned (.bool (sameB a b)) ∧ Below w.heap.size w w' := by
  obtain ⟨A, c, rfl, h1, h2⟩ := ha
  obtain ⟨B, d, rfl, h3, h4⟩ := hb
  obtain ⟨k, hk⟩ := (refSame_ev a b).rounds
  exact lychgateref02_Same.calls k a.f0 A c a.f1 b.f0 B d b.f1 _ w h2 h1 h4 h3 hk
end Go.Proofs.Ytjmpejbciniceaa.X
namespace Go.Proofs.Ytjmpejbciniceaa.X
open Go.RowKit Go.Proofs.YtjmpejbciniceaaW.PrintWords Go.Proofs.YtjmpejbciniceaaW.PrintLast Go.Proofs.YtjmpejbciniceaaW.PrintMore
set_option linter.unusedVariables false
set_option linter.unusedSimpArgs false
def groundB (t : S35) : Bool := (groundT t).2 && sameB t (groundT t).1
theorem coGround_ev (t : S35) : Ev (fun f => coerce_ground.f f t.f0 t.f1) (groundB t) := by
  unfold coerce_ground.f groundB
  refine Ev.bind (Ground_ev t) ?_
  cases h : (groundT t).2 with
  | true =>
    simp only [if_true, Bool.true_and]
    exact Ev.bind (Same_ev t (groundT t).1) (Ev.now _)
  | false => simpa using Ev.now _
theorem refGround_ev (t : S35) : Ev (fun f => lychgateref02_Ground.f f t.f0 t.f1) ((groundT t).1.f0, (groundT t).1.f1, (groundT t).2) := by
  unfold lychgateref02_Ground.f groundT
  refine Ev.bind (Ev_eq (refCheck_ev t.f0 t.f1) (by rw [S35.eta])) ?_
  by_cases h1 : checkI t = 0
  · simp only [h1, if_true]
    by_cases h0 : t.f0 = 0
    · exact Ev.step (f := fun _ => some (0, [], false)) (fun f => by simp [lychgateref02_Ground.j0, h0]) (Ev_eq (Ev.now _) (by simp [h0, z35]))
    · rw [if_pos ⟨trivial, h0⟩]
      by_cases hl : t.f1.length = 0
      · exact Ev.step (f := fun _ => some (t.f0, [], true)) (fun f => by simp [lychgateref02_Ground.j0, h0]; exact List.length_eq_zero_iff.1 hl |> fun h => by simp [h]) (Ev_eq (Ev.now _) (by simp [hl]))
      · have hl' : t.f1 ≠ [] := fun h => hl (by simp [h])
        exact Ev.step (f := fun _ => some (t.f0, [z35, z35], true)) (fun f => by simp [lychgateref02_Ground.j0, h0, hl', lychgateref02_Of.f, z35]) (Ev_eq (Ev.now _) (by simp [hl]))
  · simp only [h1, if_false, false_and]
    exact Ev.step (f := fun _ => some (0, [], false)) (fun f => by simp [lychgateref02_Ground.j0]) (Ev_eq (Ev.now _) (by simp [z35]))
theorem ref15Ground_ev (t : S35) : Ev (fun f => lychgateref15_Ground.f f t.f0 t.f1) (groundB t) := by
  unfold lychgateref15_Ground.f
  refine Ev.bind (Ev_eq (refCheck_ev t.f0 t.f1) (by rw [S35.eta])) ?_
  by_cases h1 : checkI t = 0
  · simp only [h1, if_true]
    by_cases h0 : t.f0 = 0
    · exact Ev.step (f := fun _ => some false) (fun f => by simp [lychgateref15_Ground.j0, h0]) (Ev_eq (Ev.now _) (by simp [groundB, groundT, h0]))
    · refine Ev.step (f := fun f => (lychgateref02_Ground.f f t.f0 t.f1).bind fun x => (lychgateref02_Same.f f t.f0 t.f1 x.1 x.2.1).bind fun y => some y) (fun f => by simp [lychgateref15_Ground.j0, h0]) (Ev.bind (refGround_ev t) (Ev_eq (Ev.bind (refSame_ev t (groundT t).1) (Ev.now _)) ?_))
      have : (groundT t).2 = true := by unfold groundT; rw [if_pos ⟨h1, h0⟩]; split <;> rfl
      simp [groundB, this]
  · simp only [h1, if_false]
    exact Ev.step (f := fun _ => some false) (fun f => by simp [lychgateref15_Ground.j0]) (Ev_eq (Ev.now _) (by simp [groundB, groundT, h1]))
theorem coGround_calls {t : S35} {v : Value} {w : World} (h : IsT w v t) : Calls Try.prog 62 #[v] w fun e w' => e = .returned (.bool (groundB t)) ∧ Below w.heap.size w w' := by
  obtain ⟨A, c, rfl, h1, h2⟩ := h
  obtain ⟨k, hk⟩ := (coGround_ev t).rounds
  exact coerce_ground.calls k t.f0 A c t.f1 _ w h2 h1 hk
theorem ref15Ground_calls {t : S35} {v : Value} {w : World} (h : IsT w v t) : Calls Try.prog 72 #[v] w fun e w' => e = .returned (.bool (groundB t)) ∧ Below w.heap.size w w' := by
  obtain ⟨A, c, rfl, h1, h2⟩ := h
  obtain ⟨k, hk⟩ := (ref15Ground_ev t).rounds
  exact lychgateref15_Ground.calls k t.f0 A c t.f1 _ w h2 h1 hk
theorem refCheck_calls {t : S35} {v : Value} {w : World} (h : IsT w v t) : Calls Try.prog 66 #[v] w fun e w' => e = .returned (.int .i64 (checkI t)) ∧ Below w.heap.size w w' := by
  obtain ⟨A, c, rfl, h1, h2⟩ := h
  obtain ⟨k, hk⟩ := (refCheck_ev t.f0 t.f1).rounds
  rw [S35.eta] at hk
  exact lychgateref02_Check.calls k t.f0 A c t.f1 _ w h2 h1 hk
theorem small_calls {t : S35} {v : Value} {w : World} (h : IsT w v t) : Calls Try.prog 79 #[v] w fun e w' => e = .returned (.bool (checkI t == 0)) ∧ Below w.heap.size w w' := by
  obtain ⟨A, c, rfl, h1, h2⟩ := h
  obtain ⟨k, hk⟩ := ((Ev.bind (Ev_eq (refCheck_ev t.f0 t.f1) (by rw [S35.eta])) (Ev.now _) : Ev (fun f => lychgateref15_small.f f t.f0 t.f1) (checkI t == 0))).rounds
  exact lychgateref15_small.calls k t.f0 A c t.f1 _ w h2 h1 hk
def IsC (w : World) (v : Value) (x : S47) : Prop := ∃ A2 c2 A4 c4 A7 c7, v = .agg #[.int .i8 x.f0, .int .i8 x.f1.f0, .slice A2 x.f1.f1.length c2, .int .i8 x.f2.f0, .slice A4 x.f2.f1.length c4, .int .i64 x.f3, .bool x.f4, .slice A7 x.f5.length c7] ∧ x.f1.f1.length ≤ c2 ∧ Kd.C k35 w A2 x.f1.f1.length x.f1.f1 ∧ x.f2.f1.length ≤ c4 ∧ Kd.C k35 w A4 x.f2.f1.length x.f2.f1 ∧ x.f5.length ≤ c7 ∧ Kd.C k47 w A7 x.f5.length x.f5
theorem IsC.below {w w' : World} {v : Value} {x : S47} (h : IsC w v x) (hb : Below w.heap.size w w') : IsC w' v x := by
  obtain ⟨A2, c2, A4, c4, A7, c7, e, h1, h2, h3, h4, h5, h6⟩ := h
  exact ⟨A2, c2, A4, c4, A7, c7, e, h1, Kd.C_below h2 hb, h3, Kd.C_below h4 hb, h5, Kd.C_below h6 hb⟩
theorem rcount_calls {x : S47} {v : Value} {w : World} (h : IsC w v x) : Calls Try.prog 63 #[v, .int .i64 0] w fun e w' => (∃ r : Int, e = .returned (.int .i64 r) ∧ (cnodes x ≤ 8192 → r ≤ 8192) ∧ (8192 < cnodes x → 8192 < r)) ∧ Below w.heap.size w w' := by
  obtain ⟨A2, c2, A4, c4, A7, c7, rfl, h1, h2, h3, h4, h5, h6⟩ := h
  obtain ⟨r, hr, a, b, _, _⟩ := rcount_ev (cnodes x + 1) x 0 (by omega) (by omega) (by omega)
  obtain ⟨k, hk⟩ := hr.rounds
  refine (lychgateref15_count.calls k x.f0 x.f1.f0 A2 c2 x.f1.f1 x.f2.f0 A4 c4 x.f2.f1 x.f3 x.f4 A7 c7 x.f5 0 r w h2 h1 h4 h3 h6 h5 hk).mono ?_
  rintro e w' ⟨rfl, hB⟩
  exact ⟨⟨r, rfl, by omega, by omega⟩, hB⟩
theorem rdeep_calls {x : S47} {v : Value} {w : World} (h : IsC w v x) (h8 : cnodes x ≤ 8192) : Calls Try.prog 64 #[v, .int .i64 201] w fun e w' => e = .returned (.int .i64 (min (cdepth x : Int) 201)) ∧ Below w.heap.size w w' := by
  obtain ⟨A2, c2, A4, c4, A7, c7, rfl, h1, h2, h3, h4, h5, h6⟩ := h
  obtain ⟨k, hk⟩ := (rdeep_ev (cnodes x + 1) x 201 (by omega) h8 (by omega) (by omega)).rounds
  exact lychgateref15_deep.calls k x.f0 x.f1.f0 A2 c2 x.f1.f1 x.f2.f0 A4 c4 x.f2.f1 x.f3 x.f4 A7 c7 x.f5 201 _ w h2 h1 h4 h3 h6 h5 hk
end Go.Proofs.Ytjmpejbciniceaa.X
namespace Go.Proofs.Ytjmpejbciniceaa.X
open Go.RowKit Go.Proofs.YtjmpejbciniceaaW.PrintWords Go.Proofs.YtjmpejbciniceaaW.PrintLast Go.Proofs.YtjmpejbciniceaaW.PrintMore
attribute [local go_sem] max2_int min2_int max_two min_two max_three min_three max_four min_four
set_option linter.unusedVariables false
set_option linter.unusedSimpArgs false
def lychgateref15_labelled.f (a0 : Int) : Option (Bool) := if a0 = 1 then (some true) else (some (a0 == 3))
set_option maxHeartbeats 8000000 in
set_option maxRecDepth 100000 in
theorem lychgateref15_labelled.calls (a0 : Int) (r : Bool) (w : World) (h : lychgateref15_labelled.f a0 = some r) :
    Calls Try.prog 58 #[.int .i8 a0] w fun e w' => e = .returned (.bool r) ∧ Drawn0 w w' := by
  have H : (if a0 = 1 then (some true) else (some (a0 == 3))) = some r := h
  clear h
  by_cases c2 : a0 = 1
  · rw [if_pos c2] at H
    have c2b0 : (a0 == 1) = true := beq_iff_eq.mpr c2
    have c2b1 : (a0 != 1) = false := bne_eq_false_iff_eq.mpr c2
    clear c2
    obtain rfl := Option.some.inj H
    go_enter Try.func58, Try.ntmps58
    go_wp2
    go_ret
    exact ⟨by first | rfl | (simp; done) | (simp [*]; done), by repeat (first | exact Drawn0.refl _ | apply Drawn0.step)⟩
  · rw [if_neg c2] at H
    have c2b0 : (a0 == 1) = false := beq_eq_false_iff_ne.mpr c2
    have c2b1 : (a0 != 1) = true := bne_iff_ne.mpr c2
    obtain rfl := Option.some.inj H
    go_enter Try.func58, Try.ntmps58
    go_wp2
    go_ret
    exact ⟨by first | rfl | (simp; done) | (simp [*]; done), by repeat (first | exact Drawn0.refl _ | apply Drawn0.step)⟩
end Go.Proofs.Ytjmpejbciniceaa.X
namespace Go.Proofs.Ytjmpejbciniceaa.X
open Go.RowKit Go.Proofs.YtjmpejbciniceaaW.PrintWords Go.Proofs.YtjmpejbciniceaaW.PrintLast Go.Proofs.YtjmpejbciniceaaW.PrintMore
set_option linter.unusedVariables false
set_option linter.unusedSimpArgs false
def labB (n : Int) : Bool := decide (1 ≤ n) && decide (n ≤ 2147483648)
def joinC (k : Int) (a b x y : S35) : Option (S35 × S35) :=
  if k = 4 then some (⟨3, [b, x]⟩, ⟨3, [a, y]⟩) else if k = 5 then some (⟨4, [a, x]⟩, ⟨4, [b, y]⟩) else if k = 6 then some (⟨5, [a, x]⟩, ⟨5, [b, y]⟩)
  else if k = 7 then (if sameB b x then some (a, y) else none) else none
def leafC (k : Int) (t u : S35) (la : Int) : Option (S35 × S35) :=
  if checkI t = 0 then (if k = 0 then some (t, t) else if k = 2 then (if groundB t then some (t, z35) else none) else if k = 3 then (if groundB t && labB la then some (z35, t) else none)
    else (if labB la && decide (t.f0 ≠ 0) && decide (checkI u = 0) then some (t, u) else none)) else none
mutual
def endsC : S47 → Option (S35 × S35)
  | ⟨k, t, u, la, _, l⟩ => if leafB k then (if l.length = 0 then leafC k t u la else none) else match endsL l with
    | [some (a, b), some (x, y)] => joinC k a b x y
    | _ => none
def endsL : List S47 → List (Option (S35 × S35))
  | [] => []
  | x :: l => endsC x :: endsL l
end
mutual
def likeC : S47 → S47 → Bool
  | ⟨k, t, u, la, ne, l⟩, ⟨k', t', u', la', ne', l'⟩ => decide (k = k') && (!leafB k || sameB t t') && (!decide (k = 1) || sameB u u') && (!(decide (k = 1) || decide (k = 3)) || (decide (la = la') && decide (ne = ne'))) && likeCL l l'
def likeCL : List S47 → List S47 → Bool
  | [], _ => true
  | _ :: _, [] => false
  | x :: l, y :: m => likeC x y && likeCL l m
end
theorem labelled_is (k : Int) : lychgateref15_labelled.f k = some (decide (k = 1) || decide (k = 3)) := by
  unfold lychgateref15_labelled.f
  by_cases h1 : k = 1
  · simp [h1]
  · simp [h1]
    rfl
theorem ends_kids {x : S47} (h : (endsC x).isSome = true) : (leafB x.f0 = true ∧ x.f5 = []) ∨ (leafB x.f0 = false ∧ ∃ p q, x.f5 = [p, q] ∧ (endsC p).isSome = true ∧ (endsC q).isSome = true) := by
  obtain ⟨k, t, u, la, ne, l⟩ := x
  rw [endsC] at h
  by_cases hk : leafB k = true
  · rw [if_pos hk] at h
    by_cases hl : l.length = 0
    · exact .inl ⟨hk, List.length_eq_zero_iff.1 hl⟩
    · rw [if_neg hl] at h
      simp at h
  · rw [if_neg hk] at h
    refine .inr ⟨by simpa using hk, ?_⟩
    match l with
    | [] => simp [endsL] at h
    | [p] => simp [endsL] at h
    | p :: q :: r :: m => simp [endsL] at h
    | [p, q] =>
      simp only [endsL] at h
      refine ⟨p, q, rfl, ?_⟩
      cases h1 : endsC p with
      | none => rw [h1] at h; simp at h
      | some v =>
        cases h2 : endsC q with
        | none => rw [h1, h2] at h; simp at h
        | some v2 => exact ⟨rfl, rfl⟩
def cocheckI (c : S47) : Int := if 8192 < cnodes c then 32 else if 200 < cdepth c then 31 else match endsC c with
  | none => 150
  | some (a, b) => if checkI a = 0 then checkI b else checkI a
def SaysB (b : Bool) (w : World) (e : Ending) (w' : World) : Prop := e = .returned (.bool b) ∧ Below w.heap.size w w'
end Go.Proofs.Ytjmpejbciniceaa.X
namespace Go.Proofs.Ytjmpejbciniceaa.X
open Go
section
variable {P : Program} {ops : Array Oper} {Q : Exit → Act → World → Prop} {md : Region.Mode} {S : World → Prop}
theorem callH {d : Option Tmp} (i : Nat) {oi : Oper} {fuel : Nat} {listed : Array Bool} {a : Act} {w : World} {f : FuncId} {args : Array Value} {R : Ending → World → Prop}
    (hi : ops[i]? = some oi) (hd : oi.dst = d) (hr : Region.ready md ops listed = [i]) (hw : Region.wanted oi (yielded ops a.tmps) = true)
    (hx : (execOp a.eval oi).run P w = .ok (.enter f args) w) (hc : Calls P f args w R)
    (h : ∀ e w', R e w' → ∃ v, e = .returned v ∧ S w' ∧ (S w' → wpAnyH P md ops Q S fuel (listed.setIfInBounds i true) (a.put d v) w')) :
    wpAnyH P md ops Q S (fuel + 1) listed a w := by
  subst hd
  refine wpAnyH_ready (rs := [i]) hr (by simp) (AllReadyH.cons hi (fun K hK => ?_) AllReadyH.nil)
  rw [if_pos hw]
  unfold Oper.wp
  rw [hx, Oper.upon_enter]
  refine hc.mono fun e w' hR => ?_
  obtain ⟨v, rfl, hS, hW⟩ := h e w' hR
  exact hK.out _ _ hS hW
end
end Go.Proofs.Ytjmpejbciniceaa.X
namespace Go.Proofs.Ytjmpejbciniceaa.X
open Go
section
variable {P : Program} {ops : Array Oper} {Q : Exit → Act → World → Prop} {md : Region.Mode} {S : World → Prop}
theorem takeH {d : Option Tmp} (i : Nat) {oi : Oper} {v : Value} {fuel : Nat} {listed : Array Bool} {a : Act} {w : World} (hi : ops[i]? = some oi) (hd : oi.dst = d)
    (hs : Region.noSelect ops = true) (hf : Region.free md ops listed i = true) (hr : (Region.ready md ops listed).contains i = true)
    (hQ : ∀ c a w, Q (.panic c) (a.put d v) w → Q (.panic c) a w) (hw : Region.wanted oi (yielded ops a.tmps) = true)
    (hy : ∀ w, S w → (execOp a.eval oi).run P w = .ok (.value v) w) (hS : S w)
    (h : wpAnyH P md ops Q S fuel (listed.setIfInBounds i true) (a.put d v) w) : wpAnyH P md ops Q S (fuel + 1) listed a w := by
  subst hd
  exact wpAnyH_take hi hs hf hr hQ (Or.inl ⟨hw, hy⟩) hS h
theorem passH {d : Option Tmp} (i : Nat) {oi : Oper} {fuel : Nat} {listed : Array Bool} {a : Act} {w : World} (hi : ops[i]? = some oi) (hd : oi.dst = d)
    (hs : Region.noSelect ops = true) (hf : Region.free md ops listed i = true) (hr : (Region.ready md ops listed).contains i = true)
    (hQ : ∀ c a w, Q (.panic c) (a.put d undef) w → Q (.panic c) a w) (hw : Region.wanted oi (yielded ops a.tmps) = false) (hS : S w)
    (h : wpAnyH P md ops Q S fuel (listed.setIfInBounds i true) (a.put d undef) w) : wpAnyH P md ops Q S (fuel + 1) listed a w := by
  subst hd
  exact wpAnyH_take hi hs hf hr hQ (Or.inr ⟨hw, rfl⟩) hS h
theorem takeA (d i : Nat) {oi : Oper} {v : Value} {fuel : Nat} {listed : Array Bool} {a : Act} {w : World} (hy : ∀ w, S w → (execOp a.eval oi).run P w = .ok (.value v) w) (hS : S w)
    (h : wpAnyH P md ops Q S fuel (listed.setIfInBounds i true) (a.put (some d) v) w) (hi : ops[i]? = some oi := by rfl) (hd : oi.dst = some d := by rfl)
    (hs : Region.noSelect ops = true := by kernel_rfl) (hf : Region.free md ops listed i = true := by kernel_rfl) (hr : (Region.ready md ops listed).contains i = true := by kernel_rfl)
    (hQ : ∀ c a w, Q (.panic c) (a.put (some d) v) w → Q (.panic c) a w := by exact fun _ _ _ h => h) (hw : Region.wanted oi (yielded ops a.tmps) = true := by rfl) : wpAnyH P md ops Q S (fuel + 1) listed a w := takeH i hi hd hs hf hr hQ hw hy hS h
end
end Go.Proofs.Ytjmpejbciniceaa.X
namespace Go.Proofs.Ytjmpejbciniceaa.X
open Go.ChangeShapes Go.WideShapes Go.ChangeAt Go.RowKit Go.Proofs.YtjmpejbciniceaaW.PrintWords
set_option linter.unusedVariables false
theorem agg_of_cells {v : Value} {cs : List Value} (h : v.cells.toList = cs) (hl : cs.length ≠ 1) : v = .agg cs.toArray := by
  subst h
  cases v <;> simp_all [Value.cells]
theorem list_of_lt {α : Type} {n : Nat} {p : Nat → α → Prop} (h : ∀ i, i < n → ∃ x, p i x) : ∃ l : List α, l.length = n ∧ ∀ i x, l[i]? = some x → p i x := by
  induction n with
  | zero => exact ⟨[], rfl, fun i x h => by simp at h⟩
  | succ n ih =>
    obtain ⟨l, hl, hp⟩ := ih (fun i hi => h i (by omega))
    obtain ⟨x, hx⟩ := h n (by omega)
    refine ⟨l ++ [x], by simp [hl], fun i y hy => ?_⟩
    rcases Nat.lt_or_ge i n with hi | hi
    · rw [List.getElem?_append_left (by omega)] at hy
      exact hp i y hy
    · have hi2 : i = n := by
        have := (List.getElem?_eq_some_iff.1 hy).1
        simp at this
        omega
      subst hi2
      rw [List.getElem?_append_right (by omega)] at hy
      simp [hl] at hy
      subst hy
      exact hx
section
variable {H : Type} {enc : TypeId × Value → H} {P : Program} {w : World} {base : Nat} {spare : Nat → Bool} {held : Bool}
theorem row_of_trod {α : Type} (d : Kd α) {t e : TypeId} (ht : P.underlying t = some (.slice e)) (hc : P.cellsOf e = d.sz) {fuel : Nat} {cs : List Value} {x : DataW H × List MemPlace}
    (ih : ∀ n, n < fuel → ∀ cs x, DataW.trod enc P w base spare held n e cs = some x → ∃ v, d.K w v cs) (h : DataW.trod enc P w base spare held fuel t cs = some x) :
    ∃ A l c, cs = [.slice A l.length c] ∧ l.length ≤ c ∧ c ≤ maxLen ∧ Kd.C d w A l.length l := by
  rcases DataW.trod_slice ht h with ⟨rfl, _⟩ | ⟨a, len, cap, elems, rest, n, rfl, rfl, _, hb, hl, hm, hlen, hel, _, _⟩
  · exact ⟨none, [], 0, rfl, Nat.le_refl _, Nat.zero_le _, rfl, by simp, fun h => absurd h (by simp)⟩
  · have key : ∀ i, i < len → ∃ v cs', cs'.length = d.sz ∧ d.K w v cs' ∧ ∀ j u, cs'[j]? = some u → w.cell? (a.add (i * d.sz + j)) = some u := fun i hi => by
      have h1 := hel i hi
      rw [List.getElem?_eq_getElem (by omega)] at h1
      obtain ⟨cs', h2, h3⟩ := Option.bind_eq_some_iff.1 h1
      obtain ⟨v, hv⟩ := ih n (Nat.lt_succ_self n) _ _ h3
      rw [hc] at h2
      obtain ⟨_, h4, h5⟩ := World.cells?_some h2
      refine ⟨v, cs', h4, hv, fun j u hu => ?_⟩
      have hj : j < d.sz := by rw [← h4]; exact (List.getElem?_eq_some_iff.1 hu).1
      rw [← hu, ← h5 j hj]
      congr 1
      unfold Addr.add
      by_cases h6 : i * d.sz = 0 <;> by_cases h7 : j = 0 <;> simp [h6, h7, Nat.add_assoc] <;> omega
    obtain ⟨l, hll, hp⟩ := list_of_lt key
    subst hll
    exact ⟨some a, l, cap, rfl, hl, hm, rfl, by simp only [maxLen] at hm; omega, fun _ => ⟨a, rfl, fun j p hj => by
      obtain ⟨c, h1, h2, h3⟩ := hp j p hj
      exact ⟨c, h1, h2, h3⟩⟩⟩
end
section
variable {H : Type} {enc : TypeId × Value → H} {w : World} {base : Nat} {spare : Nat → Bool} {held : Bool}
set_option maxRecDepth 100000 in
theorem T35_of_trod (fuel : Nat) : ∀ (cs : List Value) (x : DataW H × List MemPlace), DataW.trod enc Try.prog w base spare held fuel 35 cs = some x → ∃ v : S35, k35.K w v cs := by
  induction fuel using Nat.strongRecOn with
  | _ fuel ih =>
  intro cs x h
  obtain ⟨xs, n, rfl, rfl, hl, hx, hf⟩ := DataW.trod_struct Try.underlying35 h
  have h0 := hf 0 _ rfl
  have h1 := hf 1 _ rfl
  have hx2 : xs.length = 2 := hx
  rw [List.getElem?_eq_getElem (by omega)] at h0 h1
  obtain ⟨k, e0, _, wk⟩ := DataW.trod_int Try.underlying27 h0
  obtain ⟨A, l, c, e1, hlc, _, hC⟩ := row_of_trod k35 Try.underlying33 (by kernel_rfl) (fun m hm cs x h => ih m (by omega) cs x h) h1
  have hc2 : cs.length = 2 := hl.trans (by kernel_rfl)
  match cs, hc2 with
  | [a, b], _ =>
    simp at e0 e1
    have ha : a = .int .i8 k := by simpa using (show [a] = [Value.int .i8 k] from e0)
    have hb : b = .slice A l.length c := by simpa using (show [b] = [Value.slice A l.length c] from e1)
    subst ha hb
    exact ⟨⟨k, l⟩, k35_mk w ⟨k, l⟩ hlc hC⟩
end
end Go.Proofs.Ytjmpejbciniceaa.X
namespace Go.Proofs.Ytjmpejbciniceaa.X
open Go.ChangeShapes Go.WideShapes Go.ChangeAt Go.RowKit Go.Proofs.YtjmpejbciniceaaW.PrintWords
set_option linter.unusedVariables false
theorem IsT.leaf (w : World) (k : Int) : IsT w (.agg #[.int .i8 k, .slice none 0 0]) ⟨k, []⟩ := ⟨none, 0, rfl, Nat.le_refl _, rfl, by simp, fun h => absurd h (by simp)⟩
theorem C_four {w : World} {ad : Addr} {a b : S35} {Aa Ab : Option Addr} {ca cb : Nat} (h0 : w.cell? (ad.add 0) = some (.int .i8 a.f0)) (h1 : w.cell? (ad.add 1) = some (.slice Aa a.f1.length ca)) (h2 : w.cell? (ad.add 2) = some (.int .i8 b.f0)) (h3 : w.cell? (ad.add 3) = some (.slice Ab b.f1.length cb))
    (ha1 : a.f1.length ≤ ca) (hb1 : b.f1.length ≤ cb) (hca : Kd.C k35 w Aa a.f1.length a.f1) (hcb : Kd.C k35 w Ab b.f1.length b.f1) : Kd.C k35 w (some ad) 2 [a, b] := by
  refine ⟨rfl, by simp, fun _ => ⟨_, rfl, fun j p hj => ?_⟩⟩
  match j, hj with
  | 0, hj =>
    obtain rfl : a = p := by simpa using hj
    refine ⟨_, rfl, k35_mk w a ha1 hca, fun i u hu => ?_⟩
    match i, hu with
    | 0, hu => exact h0.trans hu
    | 1, hu => exact h1.trans hu
  | 1, hj =>
    obtain rfl : b = p := by simpa using hj
    refine ⟨_, rfl, k35_mk w b hb1 hcb, fun i u hu => ?_⟩
    match i, hu with
    | 0, hu => exact h2.trans hu
    | 1, hu => exact h3.trans hu
end Go.Proofs.Ytjmpejbciniceaa.X
namespace Go.Proofs.Ytjmpejbciniceaa.X
open Go.RowKit Go.Proofs.YtjmpejbciniceaaW.PrintWords Go.Proofs.YtjmpejbciniceaaW.PrintLast Go.Proofs.YtjmpejbciniceaaW.PrintMore
set_option linter.unusedVariables false
set_option linter.unusedSimpArgs false
theorem kept2 (w : World) (g : Nat) (a' b' : Value) : ∀ b, b ≠ g → ((w.setCell ⟨g, 0, none⟩ a').setCell ⟨g, 1, none⟩ b').heap[b]? = w.heap[b]? := fun b h => (Below.heap_setCell _ _ _ _ h).trans (Below.heap_setCell _ _ _ _ h)
theorem isT_far {w w' : World} {g : Nat} {p q : Value} {ty : TypeId} (hb : w.heap[g]? = some (.cells #[p, q] ty (0, 0))) (hk : ∀ b, b ≠ g → w'.heap[b]? = w.heap[b]?) {t : S35} (hr : rightB t = true) : ∀ {v : Value}, IsT w v t → IsT w' v t := by
  refine right_ind (P := fun t => ∀ {v : Value}, IsT w v t → IsT w' v t) (fun k hk v h => ?_) (fun k a b hk2 ha hb2 iha ihb v h => ?_) t hr
  · obtain ⟨A, c, rfl, h1, h2⟩ := h
    exact ⟨A, c, rfl, h1, ⟨rfl, by simp, fun h => absurd h (by simp)⟩⟩
  · obtain ⟨A, c, rfl, h1, h2⟩ := h
    obtain ⟨ad, B1, d1, hA, hx0, hx1, hl1, hi1⟩ := at_T35 h2 0 (by simp) (by simp)
    obtain ⟨ad', B2, d2, hA', hy0, hy1, hl2, hi2⟩ := at_T35 h2 1 (by simp) (by simp)
    obtain rfl : some ad = A := hA.symm
    obtain rfl : ad = ad' := by simpa using hA'
    have ra : rd_T35 [a, b] 0 = a := rfl
    have rb : rd_T35 [a, b] 1 = b := rfl
    simp only [ra, rb] at hx0 hx1 hy0 hy1 hl1 hl2 hi1 hi2
    have hne : ad.block ≠ g := by
      intro e
      have hc := blk_cell hb (ad.off + 3)
      simp [Addr.add] at hy1
      rw [← e] at hc
      rw [hc] at hy1
      simp at hy1
    obtain ⟨_, _, e1, _, k1⟩ := iha ⟨_, _, rfl, hl1, hi1⟩
    obtain ⟨_, _, e2, _, k2⟩ := ihb ⟨_, _, rfl, hl2, hi2⟩
    simp at e1 e2
    obtain ⟨rfl, rfl⟩ := e1
    obtain ⟨rfl, rfl⟩ := e2
    have move : ∀ n u, w.cell? (ad.add n) = some u → w'.cell? (ad.add n) = some u := fun n u h => (World.cell?_of_block (w := w) (by have e : (ad.add n).block = ad.block := (by unfold Addr.add; split <;> rfl); rw [e]; exact hk ad.block hne)).trans h
    exact ⟨some ad, c, rfl, h1, C_four (move 0 _ (by simpa [Addr.add] using hx0)) (move 1 _ (by simpa [Addr.add] using hx1)) (move 2 _ (by simpa [Addr.add] using hy0)) (move 3 _ (by simpa [Addr.add] using hy1)) hl1 hl2 k1 k2⟩
end Go.Proofs.Ytjmpejbciniceaa.X
