/- Texts of this claim, joined: GGround2, GGround15, GSmall, HTy, HGround, HSame, HRefSame, HCo2, GLabelled, HCo3, HRow. -/
import Derived.ProofKit
import Derived.OpenShut
import Derived.ChangeOld
import Derived.SizedLaws
import Derived.ChangeArms
import Derived.Test.YtjmpejbciniceaaDoorKCoerceCheck1
import Derived.Test.YtjmpejbciniceaaDoorKCoerceCheck3
import Derived.Test.YtjmpejbciniceaaDoorKCoerceCheck5
import Derived.Test.YtjmpejbciniceaaDoorKCoerceCheck6
namespace Go.Proofs.YtjmpejbciniceaaDoor.X
open Go.RowKit Go.Proofs.YtjmpejbciniceaaDoorW.PrintWords Go.Proofs.YtjmpejbciniceaaDoorW.PrintLast Go.Proofs.YtjmpejbciniceaaDoorW.PrintMore
attribute [local go_sem] max2_int min2_int max_two min_two max_three min_three max_four min_four
set_option linter.unusedVariables false
set_option linter.unusedSimpArgs false
def lychgateref02_Of.f (a0 : Int) (a1_0 : Int) (l1_1 : List (S43)) (a2_0 : Int) (l2_1 : List (S43)) : Option (Int × (List (S43))) := some (a0, (([(⟨a1_0, l1_1⟩ : S43), (⟨a2_0, l2_1⟩ : S43)] : List (S43))))
set_option maxHeartbeats 8000000 in
set_option maxRecDepth 100000 in
theorem lychgateref02_Of.calls (a0 : Int) (a1_0 : Int) (P1_1_ : Nat → Prop) (A1_1 : Option Addr) (c1_1 : Nat) (l1_1 : List (S43)) (a2_0 : Int) (P2_1_ : Nat → Prop) (A2_1 : Option Addr) (c2_1 : Nat) (l2_1 : List (S43)) (r1 : Int) (r2 : List (S43)) (w : World) (hs1_1 : Kd.V k43 43 w w.heap.size (fun k_ => P1_1_ k_) (.slice A1_1 l1_1.length c1_1) l1_1) (hs2_1 : Kd.V k43 43 w w.heap.size (fun k_ => P2_1_ k_) (.slice A2_1 l2_1.length c2_1) l2_1) (h : lychgateref02_Of.f a0 a1_0 l1_1 a2_0 l2_1 = some (r1, r2)) :
    Calls Tryd.prog 30 #[.int .i8 a0, .agg #[.int .i8 a1_0, .slice A1_1 l1_1.length c1_1], .agg #[.int .i8 a2_0, .slice A2_1 l2_1.length c2_1]] w fun e w' => ∃ v1_ : Value, e = .returned (.agg #[.int .i8 r1, v1_]) ∧ Kd.N k43 43 w' w.heap.size (fun k_ => ((P1_1_ k_ ∨ P2_1_ k_) ∨ w.heap.size ≤ k_)) v1_ r2 ∧ Below w.heap.size w w' := by
  have hu43 := Tryd.underlying43
  have HO1_1 := Aside0.mk (show Kd.V k43 43 w w.heap.size (fun k_ => ((P1_1_ k_ ∨ P2_1_ k_) ∨ w.heap.size ≤ k_)) (.slice A1_1 l1_1.length c1_1) l1_1 from Kd.V_mono hs1_1 (fun k_ hk => .inl (.inl hk)))
  have HO2_1 := Aside0.mk (show Kd.V k43 43 w w.heap.size (fun k_ => ((P1_1_ k_ ∨ P2_1_ k_) ∨ w.heap.size ≤ k_)) (.slice A2_1 l2_1.length c2_1) l2_1 from Kd.V_mono hs2_1 (fun k_ hk => .inl (.inr hk)))
  have HB := Aside0.mk (Below.refl w.heap.size w)
  have H : (some (a0, (([(⟨a1_0, l1_1⟩ : S43), (⟨a2_0, l2_1⟩ : S43)] : List (S43))))) = some (r1, r2) := h
  clear h
  obtain ⟨y195, hy195⟩ : ∃ y_ : List (S43), y_ = (([(⟨a1_0, l1_1⟩ : S43), (⟨a2_0, l2_1⟩ : S43)] : List (S43))) := ⟨_, rfl⟩
  replace H : (some (a0, y195)) = some (r1, r2) := by first | (rw [hy195]; with_reducible exact H) | (have H2_ := (Option.bind_some _ _).symm.trans H; rw [hy195]; with_reducible exact H2_) | (have H2_ := (Option.bind_some _ _).symm.trans H; with_reducible exact H2_) | with_reducible exact H | (rw [hy195]; exact H) | exact H
  have Ny195 := Aside0.mk hy195
  clear hy195
  simp only [Option.some.injEq, Prod.mk.injEq] at H
  obtain ⟨rfl, rfl⟩ := H
  go_enter Tryd.func30, Tryd.ntmps30
  go_wp2_with (first | ((with_reducible refine gate_dst (N := 4) rfl ?_); refine box_event ?hg (N := 4) ?hd (cs := #[.int .i8 a1_0, .slice A1_1 l1_1.length c1_1]) (t := 43) ?hr ?_; (case hd => rfl); (case hg => rfl); (case hr => go_simp <;> rfl); intro gb192 hg w4 hbox hb; have n0_ := Aside0.mk (Kd.V_below (Kd.V_elderB (by (with_reducible repeat (first | apply Kd.V_alloc | apply Kd.V_drewN | apply Kd.V_drew)); exact HO1_1.out) gb192 (Nat.le_of_eq hg.symm)) hb); have n1_ := Aside0.mk (Kd.V_below (Kd.V_elderB (by (with_reducible repeat (first | apply Kd.V_alloc | apply Kd.V_drewN | apply Kd.V_drew)); exact HO2_1.out) gb192 (Nat.le_of_eq hg.symm)) hb); have n2_ := Aside0.mk (below_step HB.out hb); have n3_ := Aside0.mk (hbox); have n4_ := Aside0.mk ((by rw [hg]; exact (below_size HB.out) : w.heap.size ≤ gb192)); have n5_ := Aside0.mk ((by rw [hg]; exact (below_size HB.out) : w.heap.size ≤ gb192)); clear HO1_1; clear HO2_1; clear HB; have HO1_1 := n0_; have HO2_1 := n1_; have HB := n2_; have BK192 := n3_; have GW192 := n4_; have GE192 := n5_; clear n0_ n1_ n2_ n3_ n4_ n5_; clear hb hbox hg) | ((with_reducible refine gate_dst (N := 5) rfl ?_); refine box_event ?hg (N := 5) ?hd (cs := #[.int .i8 a2_0, .slice A2_1 l2_1.length c2_1]) (t := 43) ?hr ?_; (case hd => rfl); (case hg => rfl); (case hr => go_simp <;> rfl); intro gb193 hg w5 hbox hb; have n0_ := Aside0.mk (Kd.V_below (Kd.V_elderB (by (with_reducible repeat (first | apply Kd.V_alloc | apply Kd.V_drewN | apply Kd.V_drew)); exact HO1_1.out) gb193 (Nat.le_of_eq hg.symm)) hb); have n1_ := Aside0.mk (Kd.V_below (Kd.V_elderB (by (with_reducible repeat (first | apply Kd.V_alloc | apply Kd.V_drewN | apply Kd.V_drew)); exact HO2_1.out) gb193 (Nat.le_of_eq hg.symm)) hb); have n2_ := Aside0.mk (blk_below (g := gb192) (o := .cells #[.int .i8 a1_0, .slice A1_1 l1_1.length c1_1] 43 (0, 0)) BK192.out hb); have n3_ := Aside0.mk (below_step HB.out hb); have n4_ := Aside0.mk (hbox); have n5_ := Aside0.mk ((by rw [hg]; exact (below_size HB.out) : w.heap.size ≤ gb193)); have n6_ := Aside0.mk ((by rw [hg]; exact (below_size HB.out) : w.heap.size ≤ gb193)); have n7_ := Aside0.mk ((by rw [hg]; exact Nat.ne_of_lt (blk_lt (g := gb192) (o := .cells #[.int .i8 a1_0, .slice A1_1 l1_1.length c1_1] 43 (0, 0)) BK192.out) : gb192 ≠ gb193)); have n8_ := Aside0.mk ((by rw [hg]; exact Nat.ne_of_gt (blk_lt (g := gb192) (o := .cells #[.int .i8 a1_0, .slice A1_1 l1_1.length c1_1] 43 (0, 0)) BK192.out) : gb193 ≠ gb192)); clear HO1_1; clear HO2_1; clear BK192; clear HB; have HO1_1 := n0_; have HO2_1 := n1_; have BK192 := n2_; have HB := n3_; have BK193 := n4_; have GW193 := n5_; have GE193 := n6_; have NB192_193 := n7_; have NB193_192 := n8_; clear n0_ n1_ n2_ n3_ n4_ n5_ n6_ n7_ n8_; clear hb hbox hg) | ((with_reducible refine gate_dst (N := 6) rfl ?_); refine box_event ?hg (N := 6) ?hd (cs := #[.int .i8 0, .slice none 0 0]) (t := 43) ?hr ?_; (case hd => rfl); (case hg => rfl); (case hr => go_simp <;> rfl); intro gb194 hg w6 hbox hb; have n0_ := Aside0.mk (Kd.V_below (Kd.V_elderB (by (with_reducible repeat (first | apply Kd.V_alloc | apply Kd.V_drewN | apply Kd.V_drew)); exact HO1_1.out) gb194 (Nat.le_of_eq hg.symm)) hb); have n1_ := Aside0.mk (Kd.V_below (Kd.V_elderB (by (with_reducible repeat (first | apply Kd.V_alloc | apply Kd.V_drewN | apply Kd.V_drew)); exact HO2_1.out) gb194 (Nat.le_of_eq hg.symm)) hb); have n2_ := Aside0.mk (blk_below (g := gb192) (o := .cells #[.int .i8 a1_0, .slice A1_1 l1_1.length c1_1] 43 (0, 0)) BK192.out hb); have n3_ := Aside0.mk (blk_below (g := gb193) (o := .cells #[.int .i8 a2_0, .slice A2_1 l2_1.length c2_1] 43 (0, 0)) BK193.out hb); have n4_ := Aside0.mk (below_step HB.out hb); have n5_ := Aside0.mk (hbox); have n6_ := Aside0.mk ((by rw [hg]; exact (below_size HB.out) : w.heap.size ≤ gb194)); have n7_ := Aside0.mk ((by rw [hg]; exact (below_size HB.out) : w.heap.size ≤ gb194)); have n8_ := Aside0.mk ((by rw [hg]; exact Nat.ne_of_lt (blk_lt (g := gb192) (o := .cells #[.int .i8 a1_0, .slice A1_1 l1_1.length c1_1] 43 (0, 0)) BK192.out) : gb192 ≠ gb194)); have n9_ := Aside0.mk ((by rw [hg]; exact Nat.ne_of_gt (blk_lt (g := gb192) (o := .cells #[.int .i8 a1_0, .slice A1_1 l1_1.length c1_1] 43 (0, 0)) BK192.out) : gb194 ≠ gb192)); have n10_ := Aside0.mk ((by rw [hg]; exact Nat.ne_of_lt (blk_lt (g := gb193) (o := .cells #[.int .i8 a2_0, .slice A2_1 l2_1.length c2_1] 43 (0, 0)) BK193.out) : gb193 ≠ gb194)); have n11_ := Aside0.mk ((by rw [hg]; exact Nat.ne_of_gt (blk_lt (g := gb193) (o := .cells #[.int .i8 a2_0, .slice A2_1 l2_1.length c2_1] 43 (0, 0)) BK193.out) : gb194 ≠ gb193)); clear HO1_1; clear HO2_1; clear BK192; clear BK193; clear HB; have HO1_1 := n0_; have HO2_1 := n1_; have BK192 := n2_; have BK193 := n3_; have HB := n4_; have BK194 := n5_; have GW194 := n6_; have GE194 := n7_; have NB192_194 := n8_; have NB194_192 := n9_; have NB193_194 := n10_; have NB194_193 := n11_; clear n0_ n1_ n2_ n3_ n4_ n5_ n6_ n7_ n8_ n9_ n10_ n11_; clear hb hbox hg; have hnb7 := NB192_193.out; have hnc7 := NB193_192.out; have hnb8 := NB192_194.out; have hnc8 := NB194_192.out; have hcz9_0 : w6.cell? ⟨gb192, 0, none⟩ = some (.int .i8 a1_0) := (blk_cell BK192.out 0).trans rfl; have hcz9_1 : w6.cell? ⟨gb192, 1, none⟩ = some (.slice A1_1 l1_1.length c1_1) := (blk_cell BK192.out 1).trans rfl; have hfz9_0 := blk_frozen BK192.out 0; have hfz9_1 := blk_frozen BK192.out 1; have hnb10 := NB193_194.out; have hnc10 := NB194_193.out; have hcz11_0 : w6.cell? ⟨gb193, 0, none⟩ = some (.int .i8 a2_0) := (blk_cell BK193.out 0).trans rfl; have hcz11_1 : w6.cell? ⟨gb193, 1, none⟩ = some (.slice A2_1 l2_1.length c2_1) := (blk_cell BK193.out 1).trans rfl; have hfz11_0 := blk_frozen BK193.out 0; have hfz11_1 := blk_frozen BK193.out 1) | ((with_reducible refine gate_dst (N := 10) rfl ?_); refine Kd.N_lit k43 _ 43 ?hg (N' := 10) ?hd (xs := ([(⟨a1_0, l1_1⟩ : S43), (⟨a2_0, l2_1⟩ : S43)] : List (S43))) (inner := [.int .i8 a1_0, .slice A1_1 l1_1.length c1_1, .int .i8 a2_0, .slice A2_1 l2_1.length c2_1]) (ok := (fun k_ => ((P1_1_ k_ ∨ P2_1_ k_) ∨ w.heap.size ≤ k_) ∧ k_ ≠ gb192 ∧ k_ ≠ gb193 ∧ k_ ≠ gb194)) (okp := (fun k_ => ((P1_1_ k_ ∨ P2_1_ k_) ∨ w.heap.size ≤ k_) ∧ k_ ≠ gb192 ∧ k_ ≠ gb193 ∧ k_ ≠ gb194)) ?hr ?hp (fun _ hk => hk) ((show ∀ k_, w6.heap.size ≤ k_ → (fun k_ => ((P1_1_ k_ ∨ P2_1_ k_) ∨ w.heap.size ≤ k_) ∧ k_ ≠ gb192 ∧ k_ ≠ gb193 ∧ k_ ≠ gb194) k_ from fun k_ hk => ⟨(.inr (Nat.le_trans (below_size HB.out) hk)), Kd.freshB (g := gb192) (o := .cells #[.int .i8 a1_0, .slice A1_1 l1_1.length c1_1] 43 (0, 0)) BK192.out k_ hk, Kd.freshB (g := gb193) (o := .cells #[.int .i8 a2_0, .slice A2_1 l2_1.length c2_1] 43 (0, 0)) BK193.out k_ hk, Kd.freshB (g := gb194) (o := .cells #[.int .i8 0, .slice none 0 0] 43 (0, 0)) BK194.out k_ hk⟩) _ (Nat.le_refl _)) (Below.refl _ _) (Nat.le_refl _) (by simp) ?_; (case hd => rfl); (case hg => rfl); (case hr => go_simp <;> rfl); (case hp => exact (Reps.c2 (show Kd.FK k43 _ _ (⟨a1_0, l1_1⟩ : S43) [.int .i8 a1_0, .slice A1_1 l1_1.length c1_1] from (k43_mkF _ _ (⟨a1_0, l1_1⟩ : S43) (Kd.V_reads' (Kd.V_mono (ok' := (fun k_ => ((P1_1_ k_ ∨ P2_1_ k_) ∨ w.heap.size ≤ k_) ∧ k_ ≠ gb192 ∧ k_ ≠ gb193 ∧ k_ ≠ gb194)) (HO1_1.out) (fun k_ hk => ⟨hk.1.1.1, ⟨hk.1.1.2, ⟨hk.1.2, hk.2⟩⟩⟩))).2.1 (Kd.V_F (Kd.V_mono (ok' := (fun k_ => ((P1_1_ k_ ∨ P2_1_ k_) ∨ w.heap.size ≤ k_) ∧ k_ ≠ gb192 ∧ k_ ≠ gb193 ∧ k_ ≠ gb194)) (HO1_1.out) (fun k_ hk => ⟨hk.1.1.1, ⟨hk.1.1.2, ⟨hk.1.2, hk.2⟩⟩⟩))))) (Reps.c2 (show Kd.FK k43 _ _ (⟨a2_0, l2_1⟩ : S43) [.int .i8 a2_0, .slice A2_1 l2_1.length c2_1] from (k43_mkF _ _ (⟨a2_0, l2_1⟩ : S43) (Kd.V_reads' (Kd.V_mono (ok' := (fun k_ => ((P1_1_ k_ ∨ P2_1_ k_) ∨ w.heap.size ≤ k_) ∧ k_ ≠ gb192 ∧ k_ ≠ gb193 ∧ k_ ≠ gb194)) (HO2_1.out) (fun k_ hk => ⟨hk.1.1.1, ⟨hk.1.1.2, ⟨hk.1.2, hk.2⟩⟩⟩))).2.1 (Kd.V_F (Kd.V_mono (ok' := (fun k_ => ((P1_1_ k_ ∨ P2_1_ k_) ∨ w.heap.size ≤ k_) ∧ k_ ≠ gb192 ∧ k_ ≠ gb193 ∧ k_ ≠ gb194)) (HO2_1.out) (fun k_ hk => ⟨hk.1.1.1, ⟨hk.1.1.2, ⟨hk.1.2, hk.2⟩⟩⟩))))) (Reps.none _ _)))); intro v196 w12 ho13 hb hg_ hnew_; clear hg_ hnew_; (first | rw [← Ny195.out] at ho13 | (simp only [Int.reduceToNat] at ho13; rw [← Ny195.out] at ho13)); have n0_ := Aside0.mk (Kd.V_elder' (by (with_reducible repeat (first | apply Kd.V_alloc | apply Kd.V_drewN | apply Kd.V_drew)); exact HO1_1.out) (Kd.N_base ho13) hb); have n1_ := Aside0.mk (Kd.V_elder' (by (with_reducible repeat (first | apply Kd.V_alloc | apply Kd.V_drewN | apply Kd.V_drew)); exact HO2_1.out) (Kd.N_base ho13) hb); have n2_ := Aside0.mk (Kd.N_lower ho13 (below_size HB.out)); have n3_ := Aside0.mk (blk_below (g := gb192) (o := .cells #[.int .i8 a1_0, .slice A1_1 l1_1.length c1_1] 43 (0, 0)) BK192.out hb); have n4_ := Aside0.mk (blk_below (g := gb193) (o := .cells #[.int .i8 a2_0, .slice A2_1 l2_1.length c2_1] 43 (0, 0)) BK193.out hb); have n5_ := Aside0.mk (blk_below (g := gb194) (o := .cells #[.int .i8 0, .slice none 0 0] 43 (0, 0)) BK194.out hb); have n6_ := Aside0.mk (below_step HB.out hb); clear HO1_1; clear HO2_1; clear BK192; clear BK193; clear BK194; clear HB; have HO1_1 := n0_; have HO2_1 := n1_; have HO197 := n2_; have BK192 := n3_; have BK193 := n4_; have BK194 := n5_; have HB := n6_; clear n0_ n1_ n2_ n3_ n4_ n5_ n6_; clear hb ho13; obtain ⟨Ao14, co14, eo14⟩ := Kd.N_slice HO197.out; subst eo14; have hcz15_0 : w12.cell? ⟨gb194, 0, none⟩ = some (.int .i8 0) := (blk_cell BK194.out 0).trans rfl; have hcz15_1 : w12.cell? ⟨gb194, 1, none⟩ = some (.slice none 0 0) := (blk_cell BK194.out 1).trans rfl; have hfz15_0 := blk_frozen BK194.out 0; have hfz15_1 := blk_frozen BK194.out 1))
  refine bodyPost_ret (results_cell_row rfl _ _ gb194 43 #[.int .i8 a0, .slice Ao14 y195.length co14] (0, 0) _ rfl (by (with_reducible repeat (first | refine blk_drewN ?_ _ | refine blk_drew ?_ | refine blk_alloc ?_ _)); refine blk_put (cs := #[.int .i8 a0, .slice none 0 0]) ?_ 1 _ rfl; (with_reducible repeat (first | refine blk_drewN ?_ _ | refine blk_drew ?_ | refine blk_alloc ?_ _)); refine blk_put (cs := #[.int .i8 0, .slice none 0 0]) ?_ 0 _ rfl; (with_reducible repeat (first | refine blk_drewN ?_ _ | refine blk_drew ?_ | refine blk_alloc ?_ _)); exact BK194.out) Tryd.underlying43 rfl (by kernel_rfl)) rfl ?_
  exact ⟨_, by first | rfl | simp [*], by (with_reducible repeat (first | apply Kd.N_alloc | apply Kd.N_drewN | apply Kd.N_drew)); exact Kd.N_mono (Kd.N_far (p := ⟨gb194, 1, none⟩) (Kd.N_far (p := ⟨gb194, 0, none⟩) (Kd.N_mono HO197.out (fun k_ hk => (⟨hk, hk.2.2.2⟩ : _ ∧ k_ ≠ gb194))) (fun _ hk => hk.2) (.int .i8 a0)) (fun _ hk => hk.2) (.slice Ao14 y195.length co14)) (fun _ hk => hk.1.1), by repeat (first | (with_reducible first | exact HB.out | apply below_alloc | apply pw_below_drewN | apply below_drew1 | refine below_set ?_ GE192.out | refine below_set ?_ GE193.out | refine below_set ?_ GE194.out) | exact HB.out)⟩
def lychgateref02_Ground.j0 : Nat → Bool → Int → List (S43) → Option (Int × (List (S43)) × Bool)
  | 0, _, _, _ => none
  | k + 1, x11, x199000, x199001 => if x11 = true then (some (0, ([] : List (S43)), false)) else (if (x199001.length : Int) = 0 then (some (x199000, ([] : List (S43)), true)) else ((lychgateref02_Of.f x199000 0 ([] : List (S43)) 0 ([] : List (S43))).bind fun bt201 => (some (bt201.1, bt201.2, true))))
def lychgateref02_Ground.f (k : Nat) (a0_0 : Int) (l0_1 : List (S43)) : Option (Int × (List (S43)) × Bool) := (lychgateref02_Check.f k a0_0 l0_1).bind fun t200 => (if t200 = 0 then (lychgateref02_Ground.j0 k (a0_0 == 0) a0_0 l0_1) else (lychgateref02_Ground.j0 k true a0_0 l0_1))
theorem lychgateref02_Ground.mono_l : ∀ k, (∀ y0 y1 y2, LeO (lychgateref02_Ground.j0 k y0 y1 y2) (lychgateref02_Ground.j0 (k + 1) y0 y1 y2))
  | 0 => fun _ _ _ r h => by simp [lychgateref02_Ground.j0] at h
  | k + 1 => by
    have ih0 := lychgateref02_Ground.mono_l k
    · intro y0 y1 y2
      unfold lychgateref02_Ground.j0
      repeat' first
      | (with_reducible exact ih0 _ _ _)
      | (with_reducible exact lychgateref02_Check.mono _ _ _)
      | (with_reducible exact LeO.refl _)
      | (with_reducible exact LeO.none _)
      | (with_reducible refine LeO.ite ?_ ?_)
      | (with_reducible refine LeO.bind ?_ (fun _ => ?_))
      | exact ih0 _ _ _
      | exact lychgateref02_Check.mono _ _ _
      | exact LeO.none _
      | refine LeO.ite ?_ ?_
      | refine LeO.bind ?_ (fun _ => ?_)
theorem lychgateref02_Ground.mono : ∀ a0 a1 k, LeO (lychgateref02_Ground.f k a0 a1) (lychgateref02_Ground.f (k + 1) a0 a1) := by
  intro a0 a1 k
  have ih0 := lychgateref02_Ground.mono_l k
  unfold lychgateref02_Ground.f
  repeat' first
      | (with_reducible exact ih0 _ _ _)
      | (with_reducible exact lychgateref02_Check.mono _ _ _)
      | (with_reducible exact LeO.refl _)
      | (with_reducible exact LeO.none _)
      | (with_reducible refine LeO.ite ?_ ?_)
      | (with_reducible refine LeO.bind ?_ (fun _ => ?_))
      | exact ih0 _ _ _
      | exact lychgateref02_Check.mono _ _ _
      | exact LeO.none _
      | refine LeO.ite ?_ ?_
      | refine LeO.bind ?_ (fun _ => ?_)
set_option maxHeartbeats 8000000 in
set_option maxRecDepth 100000 in
theorem lychgateref02_Ground.calls (k : Nat) (a0_0 : Int) (A0_1 : Option Addr) (c0_1 : Nat) (l0_1 : List (S43)) (r1 : Int) (r2 : List (S43)) (r3 : Bool) (w : World) (hr0_1 : Kd.C k43 w A0_1 l0_1.length l0_1) (hc0_1 : l0_1.length ≤ c0_1) (h : lychgateref02_Ground.f k a0_0 l0_1 = some (r1, r2, r3)) :
    Calls Tryd.prog 124 #[.agg #[.int .i8 a0_0, .slice A0_1 l0_1.length c0_1]] w fun e w' => ∃ v1_ : Value, e = .returned (.tuple #[.agg #[.int .i8 r1, v1_], .bool r3]) ∧ Kd.N k43 43 w' w.heap.size (fun k_ => (w.heap.size ≤ k_)) v1_ r2 ∧ Below w.heap.size w w' := by
  have hu43 := Tryd.underlying43
  have HR0_1 := Aside0.mk hr0_1
  have HC0_1 := Aside0.mk hc0_1
  clear hr0_1 hc0_1
  have HB := Aside0.mk (Below.refl w.heap.size w)
  have H : ((lychgateref02_Check.f k a0_0 l0_1).bind fun t200 => (if t200 = 0 then (lychgateref02_Ground.j0 k (a0_0 == 0) a0_0 l0_1) else (lychgateref02_Ground.j0 k true a0_0 l0_1))) = some (r1, r2, r3) := h
  clear h
  have HC2 := Aside0.mk H
  clear H
  go_enter Tryd.func124, Tryd.ntmps124
  go_upto_region 1 with (first | ((with_reducible refine gate_dst (N := 1) rfl ?_); refine box_event ?hg (N := 1) ?hd (cs := #[.int .i8 a0_0, .slice A0_1 l0_1.length c0_1]) (t := 43) ?hr ?_; (case hd => rfl); (case hg => rfl); (case hr => go_simp <;> rfl); intro gb198 hg w3 hbox hb; have n0_ := Aside0.mk (below_step HB.out hb); have n1_ := Aside0.mk (hbox); have n2_ := Aside0.mk ((by rw [hg]; exact (below_size HB.out) : w.heap.size ≤ gb198)); have n3_ := Aside0.mk ((by rw [hg]; exact (below_size HB.out) : w.heap.size ≤ gb198)); clear HB; have HB := n0_; have BK198 := n1_; have GW198 := n2_; have GE198 := n3_; clear n0_ n1_ n2_ n3_; clear hb hbox hg) | ((with_reducible refine gate_dst (N := 2) rfl ?_); refine box_event ?hg (N := 2) ?hd (cs := #[.int .i8 0, .slice none 0 0]) (t := 43) ?hr ?_; (case hd => rfl); (case hg => rfl); (case hr => go_simp <;> rfl); intro gb199 hg w4 hbox hb; have n0_ := Aside0.mk (blk_below (g := gb198) (o := .cells #[.int .i8 a0_0, .slice A0_1 l0_1.length c0_1] 43 (0, 0)) BK198.out hb); have n1_ := Aside0.mk (below_step HB.out hb); have n2_ := Aside0.mk (hbox); have n3_ := Aside0.mk ((by rw [hg]; exact (below_size HB.out) : w.heap.size ≤ gb199)); have n4_ := Aside0.mk ((by rw [hg]; exact (below_size HB.out) : w.heap.size ≤ gb199)); have n5_ := Aside0.mk ((by rw [hg]; exact Nat.ne_of_lt (blk_lt (g := gb198) (o := .cells #[.int .i8 a0_0, .slice A0_1 l0_1.length c0_1] 43 (0, 0)) BK198.out) : gb198 ≠ gb199)); have n6_ := Aside0.mk ((by rw [hg]; exact Nat.ne_of_gt (blk_lt (g := gb198) (o := .cells #[.int .i8 a0_0, .slice A0_1 l0_1.length c0_1] 43 (0, 0)) BK198.out) : gb199 ≠ gb198)); clear BK198; clear HB; have BK198 := n0_; have HB := n1_; have BK199 := n2_; have GW199 := n3_; have GE199 := n4_; have NB198_199 := n5_; have NB199_198 := n6_; clear n0_ n1_ n2_ n3_ n4_ n5_ n6_; clear hb hbox hg))
  (try simp only [Act.put, List.setIfInBounds_toArray, List.set_cons_zero, List.set_cons_succ])
  go_cut [11] (fun v11 wc => ∃ (kq : Nat) (x11_1 : Bool), v11 = .bool x11_1 ∧ Aside0 (lychgateref02_Ground.j0 kq x11_1 a0_0 l0_1 = some (r1, r2, r3)) ∧ Aside0 (kq ≤ k) ∧ Aside0 (wc.heap[gb198]? = some (.cells #[.int .i8 a0_0, (.slice A0_1 l0_1.length c0_1)] 43 (0, 0))) ∧ Aside0 (wc.heap[gb199]? = some (.cells #[.int .i8 0, (.slice none 0 0)] 43 (0, 0))) ∧ Aside0 (Below w.heap.size w wc))
  case first =>
    have H := HC2.out
    clear HC2
    replace H := Option.bind_eq_some_iff.mp H
    obtain ⟨t200, A50, H⟩ := H
    replace H : (if t200 = 0 then (lychgateref02_Ground.j0 k (a0_0 == 0) a0_0 l0_1) else (lychgateref02_Ground.j0 k true a0_0 l0_1)) = some (r1, r2, r3) := H
    have A5 := Aside0.mk A50
    clear A50
    by_cases c6 : t200 = 0
    · rw [if_pos c6] at H
      have c6b0 : (t200 == 0) = true := beq_iff_eq.mpr c6
      have c6b1 : (t200 != 0) = false := bne_eq_false_iff_eq.mpr c6
      clear c6
      (first | rw [c6b0] | (simp only [i64_w, i32_w]; rw [c6b0]) | skip)
      have H' := Aside0.mk H
      clear H
      have hnb7 := NB198_199.out
      have hnc7 := NB199_198.out
      have hcz8_0 : w4.cell? ⟨gb198, 0, none⟩ = some (.int .i8 a0_0) := (blk_cell BK198.out 0).trans rfl
      have hcz8_1 : w4.cell? ⟨gb198, 1, none⟩ = some (.slice A0_1 l0_1.length c0_1) := (blk_cell BK198.out 1).trans rfl
      have hfz8_0 := blk_frozen BK198.out 0
      have hfz8_1 := blk_frozen BK198.out 1
      go_wp2_with (first | ((with_reducible refine gate_callee (f := 42) rfl ?_); refine goesL_ (some 5) rfl rfl Tryd.func42 (by kernel_rfl) rfl #[.agg #[.int .i8 a0_0, .slice A0_1 l0_1.length c0_1]] rfl (by (try simp only [List.map_toArray, List.map_cons, List.map_nil]); first | done | rfl | (simp only [List.length_drop, List.length_take]; rfl)) ?_; (with_reducible refine (lychgateref02_Check.calls k a0_0 _ _ l0_1 t200 _ ?side1 ?side2 A5.out).mono ?_); (case side1 => repeat (first | exact (Kd.C_below HR0_1.out HB.out) | (with_reducible refine Kd.C_alloc ?_ _) | (with_reducible refine Kd.C_drewN ?_ _) | (with_reducible refine Kd.C_drew ?_))); (case side2 => exact HC0_1.out); rintro e w9 ⟨rfl, hb⟩; refine ⟨_, rfl, ?_⟩; have n0_ := Aside0.mk (blk_below (g := gb198) (o := .cells #[.int .i8 a0_0, .slice A0_1 l0_1.length c0_1] 43 (0, 0)) BK198.out hb); have n1_ := Aside0.mk (blk_below (g := gb199) (o := .cells #[.int .i8 0, .slice none 0 0] 43 (0, 0)) BK199.out hb); have n2_ := Aside0.mk (below_step HB.out hb); clear BK198; clear BK199; clear HB; have BK198 := n0_; have BK199 := n1_; have HB := n2_; clear n0_ n1_ n2_; (try clear hb); (try clear hb2); (try clear hk); (try clear hi); have hcz10_0 : w9.cell? ⟨gb198, 0, none⟩ = some (.int .i8 a0_0) := (blk_cell BK198.out 0).trans rfl; have hcz10_1 : w9.cell? ⟨gb198, 1, none⟩ = some (.slice A0_1 l0_1.length c0_1) := (blk_cell BK198.out 1).trans rfl; have hfz10_0 := blk_frozen BK198.out 0; have hfz10_1 := blk_frozen BK198.out 1))
      go_meet
      case rel => exact ⟨_, ((a0_0 == 0)), (by first | rfl | simp [*]), H', ⟨by first | omega | exact Nat.le_refl _⟩, ⟨BK198.out⟩, ⟨BK199.out⟩, ⟨by repeat (first | (with_reducible first | exact HB.out | apply below_alloc | apply pw_below_drewN | apply below_drew1 | refine below_set ?_ GE198.out | refine below_set ?_ GE199.out) | exact HB.out)⟩⟩
    · rw [if_neg c6] at H
      have c6b0 : (t200 == 0) = false := beq_eq_false_iff_ne.mpr c6
      have c6b1 : (t200 != 0) = true := bne_iff_ne.mpr c6
      (first | rw [c6b0] | (simp only [i64_w, i32_w]; rw [c6b0]) | skip)
      have H' := Aside0.mk H
      clear H
      have hnb11 := NB198_199.out
      have hnc11 := NB199_198.out
      have hcz12_0 : w4.cell? ⟨gb198, 0, none⟩ = some (.int .i8 a0_0) := (blk_cell BK198.out 0).trans rfl
      have hcz12_1 : w4.cell? ⟨gb198, 1, none⟩ = some (.slice A0_1 l0_1.length c0_1) := (blk_cell BK198.out 1).trans rfl
      have hfz12_0 := blk_frozen BK198.out 0
      have hfz12_1 := blk_frozen BK198.out 1
      go_wp2_with (first | ((with_reducible refine gate_callee (f := 42) rfl ?_); refine goesL_ (some 5) rfl rfl Tryd.func42 (by kernel_rfl) rfl #[.agg #[.int .i8 a0_0, .slice A0_1 l0_1.length c0_1]] rfl (by (try simp only [List.map_toArray, List.map_cons, List.map_nil]); first | done | rfl | (simp only [List.length_drop, List.length_take]; rfl)) ?_; (with_reducible refine (lychgateref02_Check.calls k a0_0 _ _ l0_1 t200 _ ?side1 ?side2 A5.out).mono ?_); (case side1 => repeat (first | exact (Kd.C_below HR0_1.out HB.out) | (with_reducible refine Kd.C_alloc ?_ _) | (with_reducible refine Kd.C_drewN ?_ _) | (with_reducible refine Kd.C_drew ?_))); (case side2 => exact HC0_1.out); rintro e w13 ⟨rfl, hb⟩; refine ⟨_, rfl, ?_⟩; have n0_ := Aside0.mk (blk_below (g := gb198) (o := .cells #[.int .i8 a0_0, .slice A0_1 l0_1.length c0_1] 43 (0, 0)) BK198.out hb); have n1_ := Aside0.mk (blk_below (g := gb199) (o := .cells #[.int .i8 0, .slice none 0 0] 43 (0, 0)) BK199.out hb); have n2_ := Aside0.mk (below_step HB.out hb); clear BK198; clear BK199; clear HB; have BK198 := n0_; have BK199 := n1_; have HB := n2_; clear n0_ n1_ n2_; (try clear hb); (try clear hb2); (try clear hk); (try clear hi)))
      go_meet
      case rel => exact ⟨_, (true), (by first | rfl | simp [*]), H', ⟨by first | omega | exact Nat.le_refl _⟩, ⟨BK198.out⟩, ⟨BK199.out⟩, ⟨by repeat (first | (with_reducible first | exact HB.out | apply below_alloc | apply pw_below_drewN | apply below_drew1 | refine below_set ?_ GE198.out | refine below_set ?_ GE199.out) | exact HB.out)⟩⟩
  case rest =>
    clear HC2
    try clear c1
    try clear p2
    try clear c4
    try clear c6
    try clear c6b0
    try clear c6b1
    try clear c7
    try clear c11
    try clear c12
    try clear hcz10_0 hcz10_1
    try clear hcz12_0 hcz12_1
    try clear hcz8_0 hcz8_1
    try clear hfz10_0
    try clear hfz10_1
    try clear hfz12_0
    try clear hfz12_1
    try clear hfz8_0
    try clear hfz8_1
    obtain ⟨kq, x11_1, rfl, HA, HJ1, BK198, BK199, HB⟩ := hcut
    cases kq with
    | zero => exact absurd HA.out (by simp [lychgateref02_Ground.j0])
    | succ kj1 =>
      have H := HA.out
      clear HA
      simp only [lychgateref02_Ground.j0] at H
      by_cases c14 : x11_1 = true
      · subst c14
        have H1 : (some (0, ([] : List (S43)), false)) = some (r1, r2, r3) := by rw [if_pos rfl] at H; exact H
        clear H
        have H := H1
        clear H1
        simp only [Option.some.injEq, Prod.mk.injEq] at H
        obtain ⟨rfl, rfl, rfl⟩ := H
        have hnb15 := NB199_198.out
        have hnc15 := NB198_199.out
        have hcz16_0 : wc.cell? ⟨gb199, 0, none⟩ = some (.int .i8 0) := (blk_cell BK199.out 0).trans rfl
        have hcz16_1 : wc.cell? ⟨gb199, 1, none⟩ = some (.slice none 0 0) := (blk_cell BK199.out 1).trans rfl
        have hfz16_0 := blk_frozen BK199.out 0
        have hfz16_1 := blk_frozen BK199.out 1
        go_wp2
        refine bodyPost_ret (results_ct rfl _ _ gb199 43 #[.int .i8 0, .slice none 0 0] (0, 0) _ rfl (by (with_reducible repeat (first | refine blk_drewN ?_ _ | refine blk_drew ?_ | refine blk_alloc ?_ _)); refine blk_put (cs := #[.int .i8 0, .slice none 0 0]) ?_ 1 _ rfl; (with_reducible repeat (first | refine blk_drewN ?_ _ | refine blk_drew ?_ | refine blk_alloc ?_ _)); refine blk_put (cs := #[.int .i8 0, .slice none 0 0]) ?_ 0 _ rfl; (with_reducible repeat (first | refine blk_drewN ?_ _ | refine blk_drew ?_ | refine blk_alloc ?_ _)); exact BK199.out) Tryd.underlying43 rfl (by kernel_rfl)) rfl ?_
        exact ⟨_, by first | rfl | simp [*], by first | exact Kd.R_nil _ _ _ _ _ | exact Kd.N_nil _ _ _ _ _ | exact Kd.V_nil _ _ _ _ _ | exact Kd.Q_nil _ _ _ _ _ | exact Kd.S_nil _ _ _ _ _, by repeat (first | (with_reducible first | exact HB.out | apply below_alloc | apply pw_below_drewN | apply below_drew1 | refine below_set ?_ GE198.out | refine below_set ?_ GE199.out) | exact HB.out)⟩
      · replace c14 := Bool.eq_false_iff.mpr c14
        subst c14
        have H1 : (if (l0_1.length : Int) = 0 then (some (a0_0, ([] : List (S43)), true)) else ((lychgateref02_Of.f a0_0 0 ([] : List (S43)) 0 ([] : List (S43))).bind fun bt201 => (some (bt201.1, bt201.2, true)))) = some (r1, r2, r3) := by rw [if_neg (show ¬ (false = true) by decide)] at H; exact H
        clear H
        have H := H1
        clear H1
        by_cases c17 : (l0_1.length : Int) = 0
        · rw [if_pos c17] at H
          have c17b0 : ((l0_1.length : Int) == 0) = true := beq_iff_eq.mpr c17
          have c17b1 : ((l0_1.length : Int) != 0) = false := bne_eq_false_iff_eq.mpr c17
          clear c17
          simp only [Option.some.injEq, Prod.mk.injEq] at H
          obtain ⟨rfl, rfl, rfl⟩ := H
          have hnb18 := NB198_199.out
          have hnc18 := NB199_198.out
          have hcz19_0 : wc.cell? ⟨gb198, 0, none⟩ = some (.int .i8 a0_0) := (blk_cell BK198.out 0).trans rfl
          have hcz19_1 : wc.cell? ⟨gb198, 1, none⟩ = some (.slice A0_1 l0_1.length c0_1) := (blk_cell BK198.out 1).trans rfl
          have hfz19_0 := blk_frozen BK198.out 0
          have hfz19_1 := blk_frozen BK198.out 1
          have hcz20_0 : wc.cell? ⟨gb199, 0, none⟩ = some (.int .i8 0) := (blk_cell BK199.out 0).trans rfl
          have hcz20_1 : wc.cell? ⟨gb199, 1, none⟩ = some (.slice none 0 0) := (blk_cell BK199.out 1).trans rfl
          have hfz20_0 := blk_frozen BK199.out 0
          have hfz20_1 := blk_frozen BK199.out 1
          go_wp2
          refine bodyPost_ret (results_ct rfl _ _ gb199 43 #[.int .i8 a0_0, .slice none 0 0] (0, 0) _ rfl (by (with_reducible repeat (first | refine blk_drewN ?_ _ | refine blk_drew ?_ | refine blk_alloc ?_ _)); refine blk_put (cs := #[.int .i8 a0_0, .slice none 0 0]) ?_ 1 _ rfl; (with_reducible repeat (first | refine blk_drewN ?_ _ | refine blk_drew ?_ | refine blk_alloc ?_ _)); refine blk_put (cs := #[.int .i8 0, .slice none 0 0]) ?_ 0 _ rfl; (with_reducible repeat (first | refine blk_drewN ?_ _ | refine blk_drew ?_ | refine blk_alloc ?_ _)); exact BK199.out) Tryd.underlying43 rfl (by kernel_rfl)) rfl ?_
          exact ⟨_, by first | rfl | simp [*], by first | exact Kd.R_nil _ _ _ _ _ | exact Kd.N_nil _ _ _ _ _ | exact Kd.V_nil _ _ _ _ _ | exact Kd.Q_nil _ _ _ _ _ | exact Kd.S_nil _ _ _ _ _, by repeat (first | (with_reducible first | exact HB.out | apply below_alloc | apply pw_below_drewN | apply below_drew1 | refine below_set ?_ GE198.out | refine below_set ?_ GE199.out) | exact HB.out)⟩
        · rw [if_neg c17] at H
          have c17b0 : ((l0_1.length : Int) == 0) = false := beq_eq_false_iff_ne.mpr c17
          have c17b1 : ((l0_1.length : Int) != 0) = true := bne_iff_ne.mpr c17
          have c17b2 : ¬ (l0_1 = []) := fun h_ => c17 (by rw [h_]; rfl)
          replace H := Option.bind_eq_some_iff.mp H
          obtain ⟨⟨t201, t202⟩, A210, H⟩ := H
          replace H : (some (t201, t202, true)) = some (r1, r2, r3) := H
          have A21 := Aside0.mk A210
          clear A210
          simp only [Option.some.injEq, Prod.mk.injEq] at H
          obtain ⟨rfl, rfl, rfl⟩ := H
          have hnb22 := NB198_199.out
          have hnc22 := NB199_198.out
          have hcz23_0 : wc.cell? ⟨gb198, 0, none⟩ = some (.int .i8 a0_0) := (blk_cell BK198.out 0).trans rfl
          have hcz23_1 : wc.cell? ⟨gb198, 1, none⟩ = some (.slice A0_1 l0_1.length c0_1) := (blk_cell BK198.out 1).trans rfl
          have hfz23_0 := blk_frozen BK198.out 0
          have hfz23_1 := blk_frozen BK198.out 1
          go_wp2_with (first | ((with_reducible refine gate_callee (f := 30) rfl ?_); refine goesL_ (some 24) rfl rfl Tryd.func30 (by kernel_rfl) rfl #[.int .i8 a0_0, .agg #[.int .i8 0, .slice none 0 0], .agg #[.int .i8 0, .slice none 0 0]] rfl (by (try simp only [List.map_toArray, List.map_cons, List.map_nil]); first | done | rfl | (simp only [List.length_drop, List.length_take]; rfl)) ?_; (refine (lychgateref02_Of.calls a0_0 0 (fun k_ => False) _ _ ([] : List (S43)) 0 (fun k_ => False) _ _ ([] : List (S43)) t201 t202 _ ?side1 ?side2 A21.out).mono ?_); (case side1 => exact Kd.V_nil _ _ _ _ _); (case side2 => exact Kd.V_nil _ _ _ _ _); rintro e w24 ⟨v203, rfl, ho0, hb⟩; refine ⟨_, rfl, ?_⟩; have n0_ := Aside0.mk (Kd.N_lower (Kd.N_mono (ok' := fun k_ => (w.heap.size ≤ k_) ∧ k_ ≠ gb198 ∧ k_ ≠ gb199) ho0 (fun k_ hk_ => ⟨Or.elim hk_ (fun hs_ => Or.elim hs_ (fun hs_ => (hs_).elim) (fun hs_ => (hs_).elim)) (fun hn_ => (Nat.le_trans (below_size HB.out) hn_)), Or.elim hk_ (fun hs_ => Or.elim hs_ (fun hs_ => (hs_).elim) (fun hs_ => (hs_).elim)) (fun hn_ => (Kd.freshB (g := gb198) (o := .cells #[.int .i8 a0_0, .slice A0_1 l0_1.length c0_1] 43 (0, 0)) BK198.out k_ hn_)), Or.elim hk_ (fun hs_ => Or.elim hs_ (fun hs_ => (hs_).elim) (fun hs_ => (hs_).elim)) (fun hn_ => (Kd.freshB (g := gb199) (o := .cells #[.int .i8 0, .slice none 0 0] 43 (0, 0)) BK199.out k_ hn_))⟩)) (below_size HB.out)); have n1_ := Aside0.mk (blk_below (g := gb198) (o := .cells #[.int .i8 a0_0, .slice A0_1 l0_1.length c0_1] 43 (0, 0)) BK198.out hb); have n2_ := Aside0.mk (blk_below (g := gb199) (o := .cells #[.int .i8 0, .slice none 0 0] 43 (0, 0)) BK199.out hb); have n3_ := Aside0.mk (below_step HB.out hb); clear BK198; clear BK199; clear HB; have HO204 := n0_; have BK198 := n1_; have BK199 := n2_; have HB := n3_; clear n0_ n1_ n2_ n3_; (try clear hb); (try clear hb2); (try clear hk); (try clear hi); (try clear ho0); have hcz25_0 : w24.cell? ⟨gb199, 0, none⟩ = some (.int .i8 0) := (blk_cell BK199.out 0).trans rfl; have hcz25_1 : w24.cell? ⟨gb199, 1, none⟩ = some (.slice none 0 0) := (blk_cell BK199.out 1).trans rfl; have hfz25_0 := blk_frozen BK199.out 0; have hfz25_1 := blk_frozen BK199.out 1; obtain ⟨Ao26, co26, eo26⟩ := Kd.N_slice HO204.out; subst eo26))
          refine bodyPost_ret (results_ct rfl _ _ gb199 43 #[.int .i8 t201, .slice Ao26 t202.length co26] (0, 0) _ rfl (by (with_reducible repeat (first | refine blk_drewN ?_ _ | refine blk_drew ?_ | refine blk_alloc ?_ _)); refine blk_put (cs := #[.int .i8 t201, .slice none 0 0]) ?_ 1 _ rfl; (with_reducible repeat (first | refine blk_drewN ?_ _ | refine blk_drew ?_ | refine blk_alloc ?_ _)); refine blk_put (cs := #[.int .i8 0, .slice none 0 0]) ?_ 0 _ rfl; (with_reducible repeat (first | refine blk_drewN ?_ _ | refine blk_drew ?_ | refine blk_alloc ?_ _)); exact BK199.out) Tryd.underlying43 rfl (by kernel_rfl)) rfl ?_
          exact ⟨_, by first | rfl | simp [*], by (with_reducible repeat (first | apply Kd.N_alloc | apply Kd.N_drewN | apply Kd.N_drew)); exact Kd.N_mono (Kd.N_far (p := ⟨gb199, 1, none⟩) (Kd.N_far (p := ⟨gb199, 0, none⟩) (Kd.N_mono HO204.out (fun k_ hk => (⟨hk, hk.2.2⟩ : _ ∧ k_ ≠ gb199))) (fun _ hk => hk.2) (.int .i8 t201)) (fun _ hk => hk.2) (.slice Ao26 t202.length co26)) (fun _ hk => hk.1.1), by repeat (first | (with_reducible first | exact HB.out | apply below_alloc | apply pw_below_drewN | apply below_drew1 | refine below_set ?_ GE198.out | refine below_set ?_ GE199.out) | exact HB.out)⟩
end Go.Proofs.YtjmpejbciniceaaDoor.X
namespace Go.Proofs.YtjmpejbciniceaaDoor.X
open Go.RowKit Go.Proofs.YtjmpejbciniceaaDoorW.PrintWords Go.Proofs.YtjmpejbciniceaaDoorW.PrintLast Go.Proofs.YtjmpejbciniceaaDoorW.PrintMore
attribute [local go_sem] max2_int min2_int max_two min_two max_three min_three max_four min_four
set_option linter.unusedVariables false
set_option linter.unusedSimpArgs false
def lychgateref15_Ground.j0 : Nat → Bool → Int → List (S43) → Option (Bool)
  | 0, _, _, _ => none
  | k + 1, x12, x216000, x216001 => if x12 = true then (some false) else ((lychgateref02_Ground.f k x216000 x216001).bind fun bt217 => ((lychgateref02_Same.f k x216000 x216001 bt217.1 bt217.2.1).bind fun t223 => (some t223)))
def lychgateref15_Ground.f (k : Nat) (a0_0 : Int) (l0_1 : List (S43)) : Option (Bool) := (lychgateref02_Check.f k a0_0 l0_1).bind fun t216 => (if t216 = 0 then (lychgateref15_Ground.j0 k (a0_0 == 0) a0_0 l0_1) else (lychgateref15_Ground.j0 k true a0_0 l0_1))
theorem lychgateref15_Ground.mono_l : ∀ k, (∀ y0 y1 y2, LeO (lychgateref15_Ground.j0 k y0 y1 y2) (lychgateref15_Ground.j0 (k + 1) y0 y1 y2))
  | 0 => fun _ _ _ r h => by simp [lychgateref15_Ground.j0] at h
  | k + 1 => by
    have ih0 := lychgateref15_Ground.mono_l k
    · intro y0 y1 y2
      unfold lychgateref15_Ground.j0
      repeat' first
      | (with_reducible exact ih0 _ _ _)
      | (with_reducible exact lychgateref02_Check.mono _ _ _)
      | (with_reducible exact lychgateref02_Ground.mono _ _ _)
      | (with_reducible exact lychgateref02_Same.mono _ _ _ _ _)
      | (with_reducible exact LeO.refl _)
      | (with_reducible exact LeO.none _)
      | (with_reducible refine LeO.ite ?_ ?_)
      | (with_reducible refine LeO.bind ?_ (fun _ => ?_))
      | exact ih0 _ _ _
      | exact lychgateref02_Check.mono _ _ _
      | exact lychgateref02_Ground.mono _ _ _
      | exact lychgateref02_Same.mono _ _ _ _ _
      | exact LeO.none _
      | refine LeO.ite ?_ ?_
      | refine LeO.bind ?_ (fun _ => ?_)
theorem lychgateref15_Ground.mono : ∀ a0 a1 k, LeO (lychgateref15_Ground.f k a0 a1) (lychgateref15_Ground.f (k + 1) a0 a1) := by
  intro a0 a1 k
  have ih0 := lychgateref15_Ground.mono_l k
  unfold lychgateref15_Ground.f
  repeat' first
      | (with_reducible exact ih0 _ _ _)
      | (with_reducible exact lychgateref02_Check.mono _ _ _)
      | (with_reducible exact lychgateref02_Ground.mono _ _ _)
      | (with_reducible exact lychgateref02_Same.mono _ _ _ _ _)
      | (with_reducible exact LeO.refl _)
      | (with_reducible exact LeO.none _)
      | (with_reducible refine LeO.ite ?_ ?_)
      | (with_reducible refine LeO.bind ?_ (fun _ => ?_))
      | exact ih0 _ _ _
      | exact lychgateref02_Check.mono _ _ _
      | exact lychgateref02_Ground.mono _ _ _
      | exact lychgateref02_Same.mono _ _ _ _ _
      | exact LeO.none _
      | refine LeO.ite ?_ ?_
      | refine LeO.bind ?_ (fun _ => ?_)
set_option maxHeartbeats 8000000 in
set_option maxRecDepth 100000 in
theorem lychgateref15_Ground.calls (k : Nat) (a0_0 : Int) (A0_1 : Option Addr) (c0_1 : Nat) (l0_1 : List (S43)) (r : Bool) (w : World) (hr0_1 : Kd.C k43 w A0_1 l0_1.length l0_1) (hc0_1 : l0_1.length ≤ c0_1) (h : lychgateref15_Ground.f k a0_0 l0_1 = some r) :
    Calls Tryd.prog 100 #[.agg #[.int .i8 a0_0, .slice A0_1 l0_1.length c0_1]] w fun e w' => e = .returned (.bool r) ∧ Below w.heap.size w w' := by
  have hu43 := Tryd.underlying43
  have HR0_1 := Aside0.mk hr0_1
  have HC0_1 := Aside0.mk hc0_1
  clear hr0_1 hc0_1
  have HB := Aside0.mk (Below.refl w.heap.size w)
  have H : ((lychgateref02_Check.f k a0_0 l0_1).bind fun t216 => (if t216 = 0 then (lychgateref15_Ground.j0 k (a0_0 == 0) a0_0 l0_1) else (lychgateref15_Ground.j0 k true a0_0 l0_1))) = some r := h
  clear h
  have HC2 := Aside0.mk H
  clear H
  go_enter Tryd.func100, Tryd.ntmps100
  go_upto_region 1 with (first | ((with_reducible refine gate_dst (N := 1) rfl ?_); refine box_event ?hg (N := 1) ?hd (cs := #[.int .i8 a0_0, .slice A0_1 l0_1.length c0_1]) (t := 43) ?hr ?_; (case hd => rfl); (case hg => rfl); (case hr => go_simp <;> rfl); intro gb215 hg w3 hbox hb; have n0_ := Aside0.mk (below_step (by repeat (first | (with_reducible first | exact HB.out | apply below_alloc | apply pw_below_drewN | apply below_drew1) | exact HB.out)) hb); have n1_ := Aside0.mk (hbox); have n2_ := Aside0.mk ((by rw [hg]; exact (below_size (by repeat (first | (with_reducible first | exact HB.out | apply below_alloc | apply pw_below_drewN | apply below_drew1) | exact HB.out))) : w.heap.size ≤ gb215)); have n3_ := Aside0.mk ((by rw [hg]; exact (below_size (by repeat (first | (with_reducible first | exact HB.out | apply below_alloc | apply pw_below_drewN | apply below_drew1) | exact HB.out))) : w.heap.size ≤ gb215)); clear HB; have HB := n0_; have BK215 := n1_; have GW215 := n2_; have GE215 := n3_; clear n0_ n1_ n2_ n3_; clear hb hbox hg))
  (try simp only [Act.put, List.setIfInBounds_toArray, List.set_cons_zero, List.set_cons_succ])
  go_cut [12] (fun v12 wc => ∃ (kq : Nat) (x12_1 : Bool), v12 = .bool x12_1 ∧ Aside0 (lychgateref15_Ground.j0 kq x12_1 a0_0 l0_1 = some r) ∧ Aside0 (kq ≤ k) ∧ Aside0 (wc.heap[gb215]? = some (.cells #[.int .i8 a0_0, (.slice A0_1 l0_1.length c0_1)] 43 (0, 0))) ∧ Aside0 (Below w.heap.size w wc))
  case first =>
    have H := HC2.out
    clear HC2
    replace H := Option.bind_eq_some_iff.mp H
    obtain ⟨t216, A40, H⟩ := H
    replace H : (if t216 = 0 then (lychgateref15_Ground.j0 k (a0_0 == 0) a0_0 l0_1) else (lychgateref15_Ground.j0 k true a0_0 l0_1)) = some r := H
    have A4 := Aside0.mk A40
    clear A40
    by_cases c5 : t216 = 0
    · rw [if_pos c5] at H
      have c5b0 : (t216 == 0) = true := beq_iff_eq.mpr c5
      have c5b1 : (t216 != 0) = false := bne_eq_false_iff_eq.mpr c5
      clear c5
      (first | rw [c5b0] | (simp only [i64_w, i32_w]; rw [c5b0]) | skip)
      have H' := Aside0.mk H
      clear H
      have hcz6_0 : w3.cell? ⟨gb215, 0, none⟩ = some (.int .i8 a0_0) := (blk_cell BK215.out 0).trans rfl
      have hcz6_1 : w3.cell? ⟨gb215, 1, none⟩ = some (.slice A0_1 l0_1.length c0_1) := (blk_cell BK215.out 1).trans rfl
      have hfz6_0 := blk_frozen BK215.out 0
      have hfz6_1 := blk_frozen BK215.out 1
      go_wp2_with (first | ((with_reducible refine gate_callee (f := 42) rfl ?_); refine goesL_ (some 6) rfl rfl Tryd.func42 (by kernel_rfl) rfl #[.agg #[.int .i8 a0_0, .slice A0_1 l0_1.length c0_1]] rfl (by (try simp only [List.map_toArray, List.map_cons, List.map_nil]); first | done | rfl | (simp only [List.length_drop, List.length_take]; rfl)) ?_; (with_reducible refine (lychgateref02_Check.calls k a0_0 _ _ l0_1 t216 _ ?side1 ?side2 A4.out).mono ?_); (case side1 => repeat (first | exact (Kd.C_below HR0_1.out HB.out) | (with_reducible refine Kd.C_alloc ?_ _) | (with_reducible refine Kd.C_drewN ?_ _) | (with_reducible refine Kd.C_drew ?_))); (case side2 => exact HC0_1.out); rintro e w7 ⟨rfl, hb⟩; refine ⟨_, rfl, ?_⟩; have n0_ := Aside0.mk (blk_below (g := gb215) (o := .cells #[.int .i8 a0_0, .slice A0_1 l0_1.length c0_1] 43 (0, 0)) BK215.out hb); have n1_ := Aside0.mk (below_step (by repeat (first | (with_reducible first | exact HB.out | apply below_alloc | apply pw_below_drewN | apply below_drew1 | refine below_set ?_ GE215.out) | exact HB.out)) hb); clear BK215; clear HB; have BK215 := n0_; have HB := n1_; clear n0_ n1_; (try clear hb); (try clear hb2); (try clear hk); (try clear hi); have hcz8_0 : w7.cell? ⟨gb215, 0, none⟩ = some (.int .i8 a0_0) := (blk_cell BK215.out 0).trans rfl; have hcz8_1 : w7.cell? ⟨gb215, 1, none⟩ = some (.slice A0_1 l0_1.length c0_1) := (blk_cell BK215.out 1).trans rfl; have hfz8_0 := blk_frozen BK215.out 0; have hfz8_1 := blk_frozen BK215.out 1))
      go_meet
      case rel => exact ⟨_, ((a0_0 == 0)), (by first | rfl | simp [*]), H', ⟨by first | omega | exact Nat.le_refl _⟩, ⟨BK215.out⟩, ⟨by repeat (first | (with_reducible first | exact HB.out | apply below_alloc | apply pw_below_drewN | apply below_drew1 | refine below_set ?_ GE215.out) | exact HB.out)⟩⟩
    · rw [if_neg c5] at H
      have c5b0 : (t216 == 0) = false := beq_eq_false_iff_ne.mpr c5
      have c5b1 : (t216 != 0) = true := bne_iff_ne.mpr c5
      (first | rw [c5b0] | (simp only [i64_w, i32_w]; rw [c5b0]) | skip)
      have H' := Aside0.mk H
      clear H
      have hcz9_0 : w3.cell? ⟨gb215, 0, none⟩ = some (.int .i8 a0_0) := (blk_cell BK215.out 0).trans rfl
      have hcz9_1 : w3.cell? ⟨gb215, 1, none⟩ = some (.slice A0_1 l0_1.length c0_1) := (blk_cell BK215.out 1).trans rfl
      have hfz9_0 := blk_frozen BK215.out 0
      have hfz9_1 := blk_frozen BK215.out 1
      go_wp2_with (first | ((with_reducible refine gate_callee (f := 42) rfl ?_); refine goesL_ (some 6) rfl rfl Tryd.func42 (by kernel_rfl) rfl #[.agg #[.int .i8 a0_0, .slice A0_1 l0_1.length c0_1]] rfl (by (try simp only [List.map_toArray, List.map_cons, List.map_nil]); first | done | rfl | (simp only [List.length_drop, List.length_take]; rfl)) ?_; (with_reducible refine (lychgateref02_Check.calls k a0_0 _ _ l0_1 t216 _ ?side1 ?side2 A4.out).mono ?_); (case side1 => repeat (first | exact (Kd.C_below HR0_1.out HB.out) | (with_reducible refine Kd.C_alloc ?_ _) | (with_reducible refine Kd.C_drewN ?_ _) | (with_reducible refine Kd.C_drew ?_))); (case side2 => exact HC0_1.out); rintro e w10 ⟨rfl, hb⟩; refine ⟨_, rfl, ?_⟩; have n0_ := Aside0.mk (blk_below (g := gb215) (o := .cells #[.int .i8 a0_0, .slice A0_1 l0_1.length c0_1] 43 (0, 0)) BK215.out hb); have n1_ := Aside0.mk (below_step (by repeat (first | (with_reducible first | exact HB.out | apply below_alloc | apply pw_below_drewN | apply below_drew1 | refine below_set ?_ GE215.out) | exact HB.out)) hb); clear BK215; clear HB; have BK215 := n0_; have HB := n1_; clear n0_ n1_; (try clear hb); (try clear hb2); (try clear hk); (try clear hi)))
      go_meet
      case rel => exact ⟨_, (true), (by first | rfl | simp [*]), H', ⟨by first | omega | exact Nat.le_refl _⟩, ⟨BK215.out⟩, ⟨by repeat (first | (with_reducible first | exact HB.out | apply below_alloc | apply pw_below_drewN | apply below_drew1 | refine below_set ?_ GE215.out) | exact HB.out)⟩⟩
  case rest =>
    clear HC2
    try clear c1
    try clear p2
    try clear c4
    try clear c5
    try clear c5b0
    try clear c5b1
    try clear c10
    try clear hcz6_0 hcz6_1
    try clear hcz8_0 hcz8_1
    try clear hcz9_0 hcz9_1
    try clear hfz6_0
    try clear hfz6_1
    try clear hfz8_0
    try clear hfz8_1
    try clear hfz9_0
    try clear hfz9_1
    obtain ⟨kq, x12_1, rfl, HA, HJ1, BK215, HB⟩ := hcut
    cases kq with
    | zero => exact absurd HA.out (by simp [lychgateref15_Ground.j0])
    | succ kj1 =>
      have H := HA.out
      clear HA
      simp only [lychgateref15_Ground.j0] at H
      by_cases c11 : x12_1 = true
      · subst c11
        have H1 : (some false) = some r := by rw [if_pos rfl] at H; exact H
        clear H
        have H := H1
        clear H1
        obtain rfl := Option.some.inj H
        go_wp2
        go_ret
        exact ⟨by first | rfl | simp [*], by repeat (first | (with_reducible first | exact HB.out | apply below_alloc | apply pw_below_drewN | apply below_drew1 | refine below_set ?_ GE215.out) | exact HB.out)⟩
      · replace c11 := Bool.eq_false_iff.mpr c11
        subst c11
        have H1 : ((lychgateref02_Ground.f kj1 a0_0 l0_1).bind fun bt217 => ((lychgateref02_Same.f kj1 a0_0 l0_1 bt217.1 bt217.2.1).bind fun t223 => (some t223))) = some r := by rw [if_neg (show ¬ (false = true) by decide)] at H; exact H
        clear H
        have H := H1
        clear H1
        replace H := Option.bind_eq_some_iff.mp H
        obtain ⟨⟨t217, t218, t221⟩, A120, H⟩ := H
        replace H : ((lychgateref02_Same.f kj1 a0_0 l0_1 t217 t218).bind fun t223 => (some t223)) = some r := H
        have A12 := Aside0.mk A120
        clear A120
        replace H := Option.bind_eq_some_iff.mp H
        obtain ⟨t223, A130, H⟩ := H
        replace H : (some t223) = some r := H
        have A13 := Aside0.mk A130
        clear A130
        obtain rfl := Option.some.inj H
        have hcz14_0 : wc.cell? ⟨gb215, 0, none⟩ = some (.int .i8 a0_0) := (blk_cell BK215.out 0).trans rfl
        have hcz14_1 : wc.cell? ⟨gb215, 1, none⟩ = some (.slice A0_1 l0_1.length c0_1) := (blk_cell BK215.out 1).trans rfl
        have hfz14_0 := blk_frozen BK215.out 0
        have hfz14_1 := blk_frozen BK215.out 1
        go_wp2_with (first | ((with_reducible refine gate_callee (f := 124) rfl ?_); refine goesL_ (some 15) rfl rfl Tryd.func124 (by kernel_rfl) rfl #[.agg #[.int .i8 a0_0, .slice A0_1 l0_1.length c0_1]] rfl (by (try simp only [List.map_toArray, List.map_cons, List.map_nil]); first | done | rfl | (simp only [List.length_drop, List.length_take]; rfl)) ?_; (with_reducible refine (lychgateref02_Ground.calls kj1 a0_0 _ _ l0_1 t217 t218 t221 _ ?side1 ?side2 A12.out).mono ?_); (case side1 => repeat (first | exact (Kd.C_below HR0_1.out HB.out) | (with_reducible refine Kd.C_alloc ?_ _) | (with_reducible refine Kd.C_drewN ?_ _) | (with_reducible refine Kd.C_drew ?_))); (case side2 => exact HC0_1.out); rintro e w15 ⟨v219, rfl, ho0, hb⟩; refine ⟨_, rfl, ?_⟩; have n0_ := Aside0.mk (Kd.N_lower (Kd.N_mono (ok' := fun k_ => k_ ≠ gb215) ho0 (fun k_ hk_ => (Kd.freshB (g := gb215) (o := .cells #[.int .i8 a0_0, .slice A0_1 l0_1.length c0_1] 43 (0, 0)) BK215.out k_ hk_))) (below_size (by repeat (first | (with_reducible first | exact HB.out | apply below_alloc | apply pw_below_drewN | apply below_drew1 | refine below_set ?_ GE215.out) | exact HB.out)))); have n1_ := Aside0.mk (blk_below (g := gb215) (o := .cells #[.int .i8 a0_0, .slice A0_1 l0_1.length c0_1] 43 (0, 0)) BK215.out hb); have n2_ := Aside0.mk (below_step (by repeat (first | (with_reducible first | exact HB.out | apply below_alloc | apply pw_below_drewN | apply below_drew1 | refine below_set ?_ GE215.out) | exact HB.out)) hb); clear BK215; clear HB; have HO220 := n0_; have BK215 := n1_; have HB := n2_; clear n0_ n1_ n2_; (try clear hb); (try clear hb2); (try clear hk); (try clear hi); (try clear ho0)) | ((with_reducible refine gate_dst (N := 3) rfl ?_); refine box_event ?hg (N := 3) ?hd (cs := #[.int .i8 0, .slice none 0 0]) (t := 43) ?hr ?_; (case hd => rfl); (case hg => rfl); (case hr => go_simp <;> rfl); intro gb222 hg w16 hbox hb; have n0_ := Aside0.mk (Kd.N_below (Kd.N_elderB (by (with_reducible repeat (first | apply Kd.N_alloc | apply Kd.N_drewN | apply Kd.N_drew)); exact HO220.out) gb222 (Nat.le_of_eq hg.symm)) hb); have n1_ := Aside0.mk (blk_below (g := gb215) (o := .cells #[.int .i8 a0_0, .slice A0_1 l0_1.length c0_1] 43 (0, 0)) BK215.out hb); have n2_ := Aside0.mk (below_step (by repeat (first | (with_reducible first | exact HB.out | apply below_alloc | apply pw_below_drewN | apply below_drew1 | refine below_set ?_ GE215.out) | exact HB.out)) hb); have n3_ := Aside0.mk (hbox); have n4_ := Aside0.mk ((by rw [hg]; exact (below_size (by repeat (first | (with_reducible first | exact HB.out | apply below_alloc | apply pw_below_drewN | apply below_drew1 | refine below_set ?_ GE215.out) | exact HB.out))) : w.heap.size ≤ gb222)); have n5_ := Aside0.mk ((by rw [hg]; exact (below_size (by repeat (first | (with_reducible first | exact HB.out | apply below_alloc | apply pw_below_drewN | apply below_drew1 | refine below_set ?_ GE215.out) | exact HB.out))) : w.heap.size ≤ gb222)); have n6_ := Aside0.mk ((by rw [hg]; exact Nat.ne_of_lt (blk_lt (g := gb215) (o := .cells #[.int .i8 a0_0, .slice A0_1 l0_1.length c0_1] 43 (0, 0)) BK215.out) : gb215 ≠ gb222)); have n7_ := Aside0.mk ((by rw [hg]; exact Nat.ne_of_gt (blk_lt (g := gb215) (o := .cells #[.int .i8 a0_0, .slice A0_1 l0_1.length c0_1] 43 (0, 0)) BK215.out) : gb222 ≠ gb215)); clear HO220; clear BK215; clear HB; have HO220 := n0_; have BK215 := n1_; have HB := n2_; have BK222 := n3_; have GW222 := n4_; have GE222 := n5_; have NB215_222 := n6_; have NB222_215 := n7_; clear n0_ n1_ n2_ n3_ n4_ n5_ n6_ n7_; clear hb hbox hg; have hnb17 := NB222_215.out; have hnc17 := NB215_222.out; have hcz18_0 : w16.cell? ⟨gb222, 0, none⟩ = some (.int .i8 0) := (blk_cell BK222.out 0).trans rfl; have hcz18_1 : w16.cell? ⟨gb222, 1, none⟩ = some (.slice none 0 0) := (blk_cell BK222.out 1).trans rfl; have hfz18_0 := blk_frozen BK222.out 0; have hfz18_1 := blk_frozen BK222.out 1; obtain ⟨Ao19, co19, eo19⟩ := Kd.N_slice HO220.out; subst eo19; have hcz20_0 : w16.cell? ⟨gb215, 0, none⟩ = some (.int .i8 a0_0) := (blk_cell BK215.out 0).trans rfl; have hcz20_1 : w16.cell? ⟨gb215, 1, none⟩ = some (.slice A0_1 l0_1.length c0_1) := (blk_cell BK215.out 1).trans rfl; have hfz20_0 := blk_frozen BK215.out 0; have hfz20_1 := blk_frozen BK215.out 1) | ((with_reducible refine gate_callee (f := 125) rfl ?_); refine goesL_ (some 20) rfl rfl Tryd.func125 (by kernel_rfl) rfl #[.agg #[.int .i8 a0_0, .slice A0_1 l0_1.length c0_1], .agg #[.int .i8 t217, .slice Ao19 t218.length co19]] rfl (by (try simp only [List.map_toArray, List.map_cons, List.map_nil]); first | done | rfl | (simp only [List.length_drop, List.length_take]; rfl)) ?_; (with_reducible refine (lychgateref02_Same.calls kj1 a0_0 _ _ l0_1 t217 _ _ t218 t223 _ ?side1 ?side2 ?side3 ?side4 A13.out).mono ?_); (case side1 => exact Kd.C_below HR0_1.out (by repeat (first | (with_reducible first | exact HB.out | apply below_alloc | apply pw_below_drewN | apply below_drew1 | refine below_set ?_ GE215.out | refine below_set ?_ GE222.out) | exact HB.out))); (case side2 => exact HC0_1.out); (case side3 => refine (Kd.N_reads' (e := 43) (base := w.heap.size) (ok := fun k_ => (k_ ≠ gb215 ∧ k_ ≠ gb222)) (n := t218.length) (c := co19) ?_).2.2; exact (by (with_reducible repeat (first | apply Kd.N_alloc | apply Kd.N_drewN | apply Kd.N_drew)); exact (Kd.N_mono (Kd.N_far (p := ⟨gb222, 1, none⟩) (Kd.N_far (p := ⟨gb222, 0, none⟩) (Kd.N_mono HO220.out (fun k_ hk => (⟨hk, hk.2⟩ : _ ∧ k_ ≠ gb222))) (fun _ hk => hk.2) (.int .i8 t217)) (fun _ hk => hk.2) (.slice Ao19 t218.length co19)) (fun _ h_ => h_.1)))); (case side4 => exact (Kd.N_reads' HO220.out).2.1); rintro e w21 ⟨rfl, hb⟩; refine ⟨_, rfl, ?_⟩; have n0_ := Aside0.mk (Kd.N_below (by (with_reducible repeat (first | apply Kd.N_alloc | apply Kd.N_drewN | apply Kd.N_drew)); exact (Kd.N_mono (Kd.N_far (p := ⟨gb222, 1, none⟩) (Kd.N_far (p := ⟨gb222, 0, none⟩) (Kd.N_mono HO220.out (fun k_ hk => (⟨hk, hk.2⟩ : _ ∧ k_ ≠ gb222))) (fun _ hk => hk.2) (.int .i8 t217)) (fun _ hk => hk.2) (.slice Ao19 t218.length co19)) (fun _ h_ => h_.1))) hb); have n1_ := Aside0.mk (blk_below (g := gb215) (o := .cells #[.int .i8 a0_0, .slice A0_1 l0_1.length c0_1] 43 (0, 0)) (by (with_reducible repeat (first | refine blk_drewN ?_ _ | refine blk_drew ?_ | refine blk_alloc ?_ _)); refine blk_far ?_ NB215_222.out _; (with_reducible repeat (first | refine blk_drewN ?_ _ | refine blk_drew ?_ | refine blk_alloc ?_ _)); refine blk_far ?_ NB215_222.out _; (with_reducible repeat (first | refine blk_drewN ?_ _ | refine blk_drew ?_ | refine blk_alloc ?_ _)); exact BK215.out) hb); have n2_ := Aside0.mk (blk_below (g := gb222) (o := .cells #[.int .i8 t217, .slice Ao19 t218.length co19] 43 (0, 0)) (by (with_reducible repeat (first | refine blk_drewN ?_ _ | refine blk_drew ?_ | refine blk_alloc ?_ _)); refine blk_put (cs := #[.int .i8 t217, .slice none 0 0]) ?_ 1 _ rfl; (with_reducible repeat (first | refine blk_drewN ?_ _ | refine blk_drew ?_ | refine blk_alloc ?_ _)); refine blk_put (cs := #[.int .i8 0, .slice none 0 0]) ?_ 0 _ rfl; (with_reducible repeat (first | refine blk_drewN ?_ _ | refine blk_drew ?_ | refine blk_alloc ?_ _)); exact BK222.out) hb); have n3_ := Aside0.mk (below_step (by repeat (first | (with_reducible first | exact HB.out | apply below_alloc | apply pw_below_drewN | apply below_drew1 | refine below_set ?_ GE215.out | refine below_set ?_ GE222.out) | exact HB.out)) hb); clear HO220; clear BK215; clear BK222; clear HB; have HO220 := n0_; have BK215 := n1_; have BK222 := n2_; have HB := n3_; clear n0_ n1_ n2_ n3_; (try clear hb); (try clear hb2); (try clear hk); (try clear hi)))
        go_ret
        exact ⟨by first | rfl | simp [*], by repeat (first | (with_reducible first | exact HB.out | apply below_alloc | apply pw_below_drewN | apply below_drew1 | refine below_set ?_ GE215.out | refine below_set ?_ GE222.out) | exact HB.out)⟩
end Go.Proofs.YtjmpejbciniceaaDoor.X
namespace Go.Proofs.YtjmpejbciniceaaDoor.X
open Go.RowKit Go.Proofs.YtjmpejbciniceaaDoorW.PrintWords Go.Proofs.YtjmpejbciniceaaDoorW.PrintLast Go.Proofs.YtjmpejbciniceaaDoorW.PrintMore
attribute [local go_sem] max2_int min2_int max_two min_two max_three min_three max_four min_four
set_option linter.unusedVariables false
set_option linter.unusedSimpArgs false
def lychgateref15_small.f (k : Nat) (a0_0 : Int) (l0_1 : List (S43)) : Option (Bool) := (lychgateref02_Check.f k a0_0 l0_1).bind fun t231 => (some (t231 == 0))
theorem lychgateref15_small.mono : ∀ a0 a1 k, LeO (lychgateref15_small.f k a0 a1) (lychgateref15_small.f (k + 1) a0 a1) := by
  intro a0 a1 k
  unfold lychgateref15_small.f
  repeat' first
      | (with_reducible exact lychgateref02_Check.mono _ _ _)
      | (with_reducible exact LeO.refl _)
      | (with_reducible exact LeO.none _)
      | (with_reducible refine LeO.ite ?_ ?_)
      | (with_reducible refine LeO.bind ?_ (fun _ => ?_))
      | exact lychgateref02_Check.mono _ _ _
      | exact LeO.none _
      | refine LeO.ite ?_ ?_
      | refine LeO.bind ?_ (fun _ => ?_)
set_option maxHeartbeats 8000000 in
set_option maxRecDepth 100000 in
theorem lychgateref15_small.calls (k : Nat) (a0_0 : Int) (A0_1 : Option Addr) (c0_1 : Nat) (l0_1 : List (S43)) (r : Bool) (w : World) (hr0_1 : Kd.C k43 w A0_1 l0_1.length l0_1) (hc0_1 : l0_1.length ≤ c0_1) (h : lychgateref15_small.f k a0_0 l0_1 = some r) :
    Calls Tryd.prog 127 #[.agg #[.int .i8 a0_0, .slice A0_1 l0_1.length c0_1]] w fun e w' => e = .returned (.bool r) ∧ Below w.heap.size w w' := by
  have hu43 := Tryd.underlying43
  have HR0_1 := Aside0.mk hr0_1
  have HC0_1 := Aside0.mk hc0_1
  clear hr0_1 hc0_1
  have HB := Aside0.mk (Below.refl w.heap.size w)
  have H : ((lychgateref02_Check.f k a0_0 l0_1).bind fun t231 => (some (t231 == 0))) = some r := h
  clear h
  replace H := Option.bind_eq_some_iff.mp H
  obtain ⟨t231, A20, H⟩ := H
  replace H : (some (t231 == 0)) = some r := H
  have A2 := Aside0.mk A20
  clear A20
  obtain rfl := Option.some.inj H
  go_enter Tryd.func127, Tryd.ntmps127
  go_wp2_with (first | ((with_reducible refine gate_dst (N := 1) rfl ?_); refine box_event ?hg (N := 1) ?hd (cs := #[.int .i8 a0_0, .slice A0_1 l0_1.length c0_1]) (t := 43) ?hr ?_; (case hd => rfl); (case hg => rfl); (case hr => go_simp <;> rfl); intro gb230 hg w3 hbox hb; have n0_ := Aside0.mk (below_step HB.out hb); have n1_ := Aside0.mk (hbox); have n2_ := Aside0.mk ((by rw [hg]; exact (below_size HB.out) : w.heap.size ≤ gb230)); have n3_ := Aside0.mk ((by rw [hg]; exact (below_size HB.out) : w.heap.size ≤ gb230)); clear HB; have HB := n0_; have BK230 := n1_; have GW230 := n2_; have GE230 := n3_; clear n0_ n1_ n2_ n3_; clear hb hbox hg; have hcz4_0 : w3.cell? ⟨gb230, 0, none⟩ = some (.int .i8 a0_0) := (blk_cell BK230.out 0).trans rfl; have hcz4_1 : w3.cell? ⟨gb230, 1, none⟩ = some (.slice A0_1 l0_1.length c0_1) := (blk_cell BK230.out 1).trans rfl) | ((with_reducible refine gate_callee (f := 42) rfl ?_); refine goesL_ (some 4) rfl rfl Tryd.func42 (by kernel_rfl) rfl #[.agg #[.int .i8 a0_0, .slice A0_1 l0_1.length c0_1]] rfl (by (try simp only [List.map_toArray, List.map_cons, List.map_nil]); first | done | rfl | (simp only [List.length_drop, List.length_take]; rfl)) ?_; (with_reducible refine (lychgateref02_Check.calls k a0_0 _ _ l0_1 t231 _ ?side1 ?side2 A2.out).mono ?_); (case side1 => repeat (first | exact (Kd.C_below HR0_1.out HB.out) | (with_reducible refine Kd.C_alloc ?_ _) | (with_reducible refine Kd.C_drewN ?_ _) | (with_reducible refine Kd.C_drew ?_))); (case side2 => exact HC0_1.out); rintro e w5 ⟨rfl, hb⟩; refine ⟨_, rfl, ?_⟩; have n0_ := Aside0.mk (blk_below (g := gb230) (o := .cells #[.int .i8 a0_0, .slice A0_1 l0_1.length c0_1] 43 (0, 0)) BK230.out hb); have n1_ := Aside0.mk (below_step HB.out hb); clear BK230; clear HB; have BK230 := n0_; have HB := n1_; clear n0_ n1_; (try clear hb); (try clear hb2); (try clear hk); (try clear hi)))
  go_ret
  exact ⟨by first | rfl | simp [*], by repeat (first | (with_reducible first | exact HB.out | apply below_alloc | apply pw_below_drewN | apply below_drew1 | refine below_set ?_ GE230.out) | exact HB.out)⟩
end Go.Proofs.YtjmpejbciniceaaDoor.X
namespace Go.Proofs.YtjmpejbciniceaaDoor.X
open Go.RowKit Go.Proofs.YtjmpejbciniceaaDoorW.PrintWords Go.Proofs.YtjmpejbciniceaaDoorW.PrintLast Go.Proofs.YtjmpejbciniceaaDoorW.PrintMore
set_option linter.unusedVariables false
set_option linter.unusedSimpArgs false
def leafK (k : Int) : Prop := k = 0 ∨ k = 1 ∨ k = 2
def nodeK (k : Int) : Prop := k = 3 ∨ k = 4 ∨ k = 5
theorem right_cases {t : S43} (h : rightB t = true) : (∃ k, leafK k ∧ t = ⟨k, []⟩) ∨ (∃ k a b, nodeK k ∧ rightB a = true ∧ rightB b = true ∧ t = ⟨k, [a, b]⟩) := by
  obtain ⟨k, l⟩ := t
  rw [rightB] at h
  simp only [Bool.and_eq_true, decide_eq_true_eq] at h
  obtain ⟨h1, h2⟩ := h
  by_cases hl : k = 0 ∨ k = 1 ∨ k = 2
  · have : partsI k = 0 := by unfold partsI; rw [if_pos hl]
    rw [this] at h1
    have : l = [] := List.eq_nil_of_length_eq_zero (by omega)
    exact .inl ⟨k, hl, by rw [this]⟩
  · by_cases hn : k = 3 ∨ k = 4 ∨ k = 5
    · have : partsI k = 2 := by unfold partsI; rw [if_neg hl, if_pos hn]
      rw [this] at h1
      match l, h1, h2 with
      | [a, b], _, h2 =>
        simp only [rightL, Bool.and_eq_true] at h2
        exact .inr ⟨k, a, b, hn, h2.1, h2.2.1, rfl⟩
    · have : partsI k = -1 := by unfold partsI; rw [if_neg hl, if_neg hn]
      omega
theorem nodes_two (k : Int) (a b : S43) : nodes ⟨k, [a, b]⟩ = 1 + nodes a + nodes b := by simp only [nodes, nodesL]; omega
theorem nodes_leaf (k : Int) : nodes ⟨k, []⟩ = 1 := by simp only [nodes, nodesL]
theorem nodes_pos (t : S43) : 0 < nodes t := by rw [nodes_eq]; omega
theorem right_ind {P : S43 → Prop} (leaf : ∀ k, leafK k → P ⟨k, []⟩) (node : ∀ k a b, nodeK k → rightB a = true → rightB b = true → P a → P b → P ⟨k, [a, b]⟩) : ∀ t, rightB t = true → P t := by
  suffices h : ∀ n t, nodes t < n → rightB t = true → P t from fun t ht => h (nodes t + 1) t (by omega) ht
  intro n
  induction n with
  | zero => intro t h; omega
  | succ n ih =>
    intro t hn ht
    rcases right_cases ht with ⟨k, hk, rfl⟩ | ⟨k, a, b, hk, ha, hb, rfl⟩
    · exact leaf k hk
    · rw [nodes_two] at hn
      have := nodes_pos a
      have := nodes_pos b
      exact node k a b hk ha hb (ih a (by omega) ha) (ih b (by omega) hb)
theorem leaf_ne_node {k : Int} (h : leafK k) : ¬ nodeK k := by rcases h with rfl | rfl | rfl <;> simp [nodeK]
mutual
def likeB : S43 → S43 → Bool
  | ⟨k, l⟩, b => decide (k = b.f0) && likeL l b.f1
def likeL : List S43 → List S43 → Bool
  | [], m => match m with
    | [] => true
    | _ :: _ => false
  | x :: l, m => match m with
    | [] => false
    | y :: m => likeB x y && likeL l m
end
theorem like_two {k k' : Int} {a b a' b' : S43} : likeB ⟨k, [a, b]⟩ ⟨k', [a', b']⟩ = (decide (k = k') && (likeB a a' && likeB b b')) := by
  simp [likeB, likeL]
end Go.Proofs.YtjmpejbciniceaaDoor.X
namespace Go.Proofs.YtjmpejbciniceaaDoor.X
open Go.RowKit Go.Proofs.YtjmpejbciniceaaDoorW.PrintWords Go.Proofs.YtjmpejbciniceaaDoorW.PrintLast Go.Proofs.YtjmpejbciniceaaDoorW.PrintMore
set_option linter.unusedVariables false
set_option linter.unusedSimpArgs false
def groundT (t : S43) : S43 × Bool := if checkI t = 0 ∧ t.f0 ≠ 0 then (if t.f1.length = 0 then (⟨t.f0, []⟩, true) else (⟨t.f0, [z43, z43]⟩, true)) else (z43, false)
theorem Ground_ev (t : S43) : Ev (fun f => types_Ground.f f t.f0 t.f1) ((groundT t).1.f0, (groundT t).1.f1, (groundT t).2) := by
  unfold types_Ground.f groundT
  refine Ev.bind (Ev_eq (Check_ev t.f0 t.f1) (by rw [S43.eta])) ?_
  by_cases h1 : checkI t = 0
  · simp only [h1, if_true]
    by_cases h0 : t.f0 = 0
    · simpa [h0, z43] using Ev.now _
    · rw [if_pos ⟨trivial, h0⟩]
      simp only [h0, if_false]
      refine Ev.bind (parts_ev t.f0) ?_
      have hr := (check_nodes h1).2.2
      rcases right_cases hr with ⟨k, hk, rfl⟩ | ⟨k, a, b, hk, _, _, rfl⟩
      · have : partsI k = 0 := by rcases hk with rfl | rfl | rfl <;> rfl
        simp only [this]
        simpa using Ev.now _
      · have : partsI k = 2 := by rcases hk with rfl | rfl | rfl <;> rfl
        simp only [this]
        simpa [List.replicate] using Ev.now _
  · simp only [h1, if_false, false_and]
    simpa [z43] using Ev.now _
end Go.Proofs.YtjmpejbciniceaaDoor.X
namespace Go.Proofs.YtjmpejbciniceaaDoor.X
open Go.RowKit Go.Proofs.YtjmpejbciniceaaDoorW.PrintWords Go.Proofs.YtjmpejbciniceaaDoorW.PrintLast Go.Proofs.YtjmpejbciniceaaDoorW.PrintMore
set_option linter.unusedVariables false
set_option linter.unusedSimpArgs false
theorem equal_ev (n : Nat) : ∀ (a b : S43), nodes a < n → rightB a = true → rightB b = true → Ev (fun f => types_equal.f f a.f0 a.f1 b.f0 b.f1) (likeB a b) := by
  induction n with
  | zero => intro a b h; omega
  | succ n ih =>
  intro a b hn ha hb
  rcases right_cases ha with ⟨k, hk, rfl⟩ | ⟨k, a1, a2, hk, ha1, ha2, rfl⟩
  · rcases right_cases hb with ⟨k', hk', rfl⟩ | ⟨k', b1, b2, hk', hb1, hb2, rfl⟩
    · by_cases e : k = k'
      · refine Ev.step (f := fun f => types_equal.l0 f 0 0 k [] k' []) (fun f => by simp only [types_equal.f]; rw [if_pos e]; rfl) (Ev.step (f := fun _ => some true) (fun f => by simp [types_equal.l0]) (Ev_eq (Ev.now _) (by simp [likeB, likeL, e])))
      · exact Ev.step (f := fun _ => some false) (fun f => by simp only [types_equal.f]; rw [if_neg e]) (Ev_eq (Ev.now _) (by simp [likeB, e]))
    · have e : ¬ k = k' := fun e => leaf_ne_node hk (e ▸ hk')
      exact Ev.step (f := fun _ => some false) (fun f => by simp only [types_equal.f]; rw [if_neg e]) (Ev_eq (Ev.now _) (by simp [likeB, e]))
  · rcases right_cases hb with ⟨k', hk', rfl⟩ | ⟨k', b1, b2, hk', hb1, hb2, rfl⟩
    · have e : ¬ k = k' := fun e => leaf_ne_node hk' (e ▸ hk)
      exact Ev.step (f := fun _ => some false) (fun f => by simp only [types_equal.f]; rw [if_neg e]) (Ev_eq (Ev.now _) (by simp [likeB, e]))
    · rw [nodes_two] at hn
      have p1 := nodes_pos a1
      have p2 := nodes_pos a2
      by_cases e : k = k'
      · have e1 := ih a1 b1 (by omega) ha1 hb1
        have e2 := ih a2 b2 (by omega) ha2 hb2
        have w1 : wrap64 1 = 1 := w64 1 (by omega) (by omega)
        have w2 : wrap64 2 = 2 := w64 2 (by omega) (by omega)
        refine Ev.step (f := fun f => types_equal.l0 f 2 0 k [a1, a2] k' [b1, b2]) (fun f => by simp only [types_equal.f]; rw [if_pos e]; rfl) ?_
        refine Ev.step (f := fun f => (types_equal.f f a1.f0 a1.f1 b1.f0 b1.f1).bind fun t => if t = true then types_equal.l0 f 2 1 k [a1, a2] k' [b1, b2] else some false) (fun f => by simp [types_equal.l0, rd_T43, w1]) (Ev.bind e1 ?_)
        cases h1 : likeB a1 b1 with
        | false => simpa [like_two, h1] using Ev.now _
        | true =>
          simp only [if_true]
          refine Ev.step (f := fun f => (types_equal.f f a2.f0 a2.f1 b2.f0 b2.f1).bind fun t => if t = true then types_equal.l0 f 2 2 k [a1, a2] k' [b1, b2] else some false) (fun f => by simp [types_equal.l0, rd_T43, w2]) (Ev.bind e2 ?_)
          cases h2 : likeB a2 b2 with
          | false => simpa [like_two, h2] using Ev.now _
          | true => simpa using Ev.step (f := fun _ => some true) (fun f => by simp [types_equal.l0]) (Ev_eq (Ev.now _) (by simp [like_two, h1, h2, e]))
      · exact Ev.step (f := fun _ => some false) (fun f => by simp only [types_equal.f]; rw [if_neg e]) (Ev_eq (Ev.now _) (by simp [likeB, e]))
def sameB (a b : S43) : Bool := decide (checkI a = 0) && decide (checkI b = 0) && likeB a b
theorem Same_ev (a b : S43) : Ev (fun f => types_Same.f f a.f0 a.f1 b.f0 b.f1) (sameB a b) := by
  unfold types_Same.f sameB
  refine Ev.bind (Ev_eq (Check_ev a.f0 a.f1) (by rw [S43.eta])) ?_
  by_cases h1 : checkI a = 0
  · simp only [h1, if_true, decide_true, Bool.true_and]
    refine Ev.bind (Ev_eq (Check_ev b.f0 b.f1) (by rw [S43.eta])) ?_
    by_cases h2 : checkI b = 0
    · simp only [h2, if_true, decide_true, Bool.true_and]
      exact Ev.bind (equal_ev (nodes a + 1) a b (by omega) (check_nodes h1).2.2 (check_nodes h2).2.2) (Ev.now _)
    · simpa [h2] using Ev.now _
  · simpa [h1] using Ev.now _
theorem Same_calls {a b : S43} {va vb : Value} {w : World} (ha : IsT w va a) (hb : IsT w vb b) : Calls Tryd.prog 33 #[va, vb] w fun e w' => e = .returned (.bool (sameB a b)) ∧ Below w.heap.size w w' := by
  obtain ⟨A, c, rfl, h1, h2⟩ := ha
  obtain ⟨B, d, rfl, h3, h4⟩ := hb
  obtain ⟨k, hk⟩ := (Same_ev a b).rounds
  exact types_Same.calls k a.f0 A c a.f1 b.f0 B d b.f1 _ w h2 h1 h4 h3 hk
end Go.Proofs.YtjmpejbciniceaaDoor.X
namespace Go.Proofs.YtjmpejbciniceaaDoor.X
open Go.RowKit Go.Proofs.YtjmpejbciniceaaDoorW.PrintWords Go.Proofs.YtjmpejbciniceaaDoorW.PrintLast Go.Proofs.YtjmpejbciniceaaDoorW.PrintMore
set_option linter.unusedVariables false
set_option linter.unusedSimpArgs false
theorem refequal_ev (n : Nat) : ∀ (a b : S43), nodes a < n → rightB a = true → rightB b = true → Ev (fun f => lychgateref02_Equal.f f a.f0 a.f1 b.f0 b.f1) (likeB a b) := by
  induction n with
  | zero => intro a b h; omega
  | succ n ih =>
  intro a b hn ha hb
  rcases right_cases ha with ⟨k, hk, rfl⟩ | ⟨k, a1, a2, hk, ha1, ha2, rfl⟩
  · rcases right_cases hb with ⟨k', hk', rfl⟩ | ⟨k', b1, b2, hk', hb1, hb2, rfl⟩
    · by_cases e : k = k'
      · refine Ev.step (f := fun f => lychgateref02_Equal.l0 f 0 k [] k' []) (fun f => by simp only [lychgateref02_Equal.f]; rw [if_pos e]) (Ev.step (f := fun _ => some true) (fun f => by simp [lychgateref02_Equal.l0]) (Ev_eq (Ev.now _) (by simp [likeB, likeL, e])))
      · exact Ev.step (f := fun _ => some false) (fun f => by simp only [lychgateref02_Equal.f]; rw [if_neg e]) (Ev_eq (Ev.now _) (by simp [likeB, e]))
    · have e : ¬ k = k' := fun e => leaf_ne_node hk (e ▸ hk')
      exact Ev.step (f := fun _ => some false) (fun f => by simp only [lychgateref02_Equal.f]; rw [if_neg e]) (Ev_eq (Ev.now _) (by simp [likeB, e]))
  · rcases right_cases hb with ⟨k', hk', rfl⟩ | ⟨k', b1, b2, hk', hb1, hb2, rfl⟩
    · have e : ¬ k = k' := fun e => leaf_ne_node hk' (e ▸ hk)
      exact Ev.step (f := fun _ => some false) (fun f => by simp only [lychgateref02_Equal.f]; rw [if_neg e]) (Ev_eq (Ev.now _) (by simp [likeB, e]))
    · rw [nodes_two] at hn
      have p1 := nodes_pos a1
      have p2 := nodes_pos a2
      by_cases e : k = k'
      · have e1 := ih a1 b1 (by omega) ha1 hb1
        have e2 := ih a2 b2 (by omega) ha2 hb2
        have w1 : wrap64 1 = 1 := w64 1 (by omega) (by omega)
        have w2 : wrap64 2 = 2 := w64 2 (by omega) (by omega)
        refine Ev.step (f := fun f => lychgateref02_Equal.l0 f 0 k [a1, a2] k' [b1, b2]) (fun f => by simp only [lychgateref02_Equal.f]; rw [if_pos e]) ?_
        refine Ev.step (f := fun f => (lychgateref02_Equal.f f a1.f0 a1.f1 b1.f0 b1.f1).bind fun t => if t = true then lychgateref02_Equal.l0 f 1 k [a1, a2] k' [b1, b2] else some false) (fun f => by simp [lychgateref02_Equal.l0, rd_T43, w1]) (Ev.bind e1 ?_)
        cases h1 : likeB a1 b1 with
        | false => simpa [like_two, h1] using Ev.now _
        | true =>
          simp only [if_true]
          refine Ev.step (f := fun f => (lychgateref02_Equal.f f a2.f0 a2.f1 b2.f0 b2.f1).bind fun t => if t = true then lychgateref02_Equal.l0 f 2 k [a1, a2] k' [b1, b2] else some false) (fun f => by simp [lychgateref02_Equal.l0, rd_T43, w2]) (Ev.bind e2 ?_)
          cases h2 : likeB a2 b2 with
          | false => simpa [like_two, h2] using Ev.now _
          | true => simpa using Ev.step (f := fun _ => some true) (fun f => by simp [lychgateref02_Equal.l0]) (Ev_eq (Ev.now _) (by simp [like_two, h1, h2, e]))
      · exact Ev.step (f := fun _ => some false) (fun f => by simp only [lychgateref02_Equal.f]; rw [if_neg e]) (Ev_eq (Ev.now _) (by simp [likeB, e]))
theorem refSame_ev (a b : S43) : Ev (fun f => lychgateref02_Same.f f a.f0 a.f1 b.f0 b.f1) (sameB a b) := by
  unfold lychgateref02_Same.f sameB
  refine Ev.bind (Ev_eq (refCheck_ev a.f0 a.f1) (by rw [S43.eta])) ?_
  by_cases h1 : checkI a = 0
  · simp only [h1, if_true, decide_true, Bool.true_and]
    refine Ev.bind (Ev_eq (refCheck_ev b.f0 b.f1) (by rw [S43.eta])) ?_
    by_cases h2 : checkI b = 0
    · simp only [h2, if_true, decide_true, Bool.true_and]
      exact Ev.bind (refequal_ev (nodes a + 1) a b (by omega) (check_nodes h1).2.2 (check_nodes h2).2.2) (Ev.now _)
    · simpa [h2] using Ev.now _
  · simpa [h1] using Ev.now _
theorem refSame_calls {a b : S43} {va vb : Value} {w : World} (ha : IsT w va a) (hb : IsT w vb b) : Calls Tryd.prog 125 #[va, vb] w fun e w' => e = .returned (.bool (sameB a b)) ∧ Below w.heap.size w w' := by
  obtain ⟨A, c, rfl, h1, h2⟩ := ha
  obtain ⟨B, d, rfl, h3, h4⟩ := hb
  obtain ⟨k, hk⟩ := (refSame_ev a b).rounds
  exact lychgateref02_Same.calls k a.f0 A c a.f1 b.f0 B d b.f1 _ w h2 h1 h4 h3 hk
end Go.Proofs.YtjmpejbciniceaaDoor.X
namespace Go.Proofs.YtjmpejbciniceaaDoor.X
open Go.RowKit Go.Proofs.YtjmpejbciniceaaDoorW.PrintWords Go.Proofs.YtjmpejbciniceaaDoorW.PrintLast Go.Proofs.YtjmpejbciniceaaDoorW.PrintMore
set_option linter.unusedVariables false
set_option linter.unusedSimpArgs false
def groundB (t : S43) : Bool := (groundT t).2 && sameB t (groundT t).1
theorem coGround_ev (t : S43) : Ev (fun f => coerce_ground.f f t.f0 t.f1) (groundB t) := by
  unfold coerce_ground.f groundB
  refine Ev.bind (Ground_ev t) ?_
  cases h : (groundT t).2 with
  | true =>
    simp only [if_true, Bool.true_and]
    exact Ev.bind (Same_ev t (groundT t).1) (Ev.now _)
  | false => simpa using Ev.now _
theorem refGround_ev (t : S43) : Ev (fun f => lychgateref02_Ground.f f t.f0 t.f1) ((groundT t).1.f0, (groundT t).1.f1, (groundT t).2) := by
  unfold lychgateref02_Ground.f groundT
  refine Ev.bind (Ev_eq (refCheck_ev t.f0 t.f1) (by rw [S43.eta])) ?_
  by_cases h1 : checkI t = 0
  · simp only [h1, if_true]
    by_cases h0 : t.f0 = 0
    · exact Ev.step (f := fun _ => some (0, [], false)) (fun f => by simp [lychgateref02_Ground.j0, h0]) (Ev_eq (Ev.now _) (by simp [h0, z43]))
    · rw [if_pos ⟨trivial, h0⟩]
      by_cases hl : t.f1.length = 0
      · exact Ev.step (f := fun _ => some (t.f0, [], true)) (fun f => by simp [lychgateref02_Ground.j0, h0]; exact List.length_eq_zero_iff.1 hl |> fun h => by simp [h]) (Ev_eq (Ev.now _) (by simp [hl]))
      · have hl' : t.f1 ≠ [] := fun h => hl (by simp [h])
        exact Ev.step (f := fun _ => some (t.f0, [z43, z43], true)) (fun f => by simp [lychgateref02_Ground.j0, h0, hl', lychgateref02_Of.f, z43]) (Ev_eq (Ev.now _) (by simp [hl]))
  · simp only [h1, if_false, false_and]
    exact Ev.step (f := fun _ => some (0, [], false)) (fun f => by simp [lychgateref02_Ground.j0]) (Ev_eq (Ev.now _) (by simp [z43]))
theorem ref15Ground_ev (t : S43) : Ev (fun f => lychgateref15_Ground.f f t.f0 t.f1) (groundB t) := by
  unfold lychgateref15_Ground.f
  refine Ev.bind (Ev_eq (refCheck_ev t.f0 t.f1) (by rw [S43.eta])) ?_
  by_cases h1 : checkI t = 0
  · simp only [h1, if_true]
    by_cases h0 : t.f0 = 0
    · exact Ev.step (f := fun _ => some false) (fun f => by simp [lychgateref15_Ground.j0, h0]) (Ev_eq (Ev.now _) (by simp [groundB, groundT, h0]))
    · refine Ev.step (f := fun f => (lychgateref02_Ground.f f t.f0 t.f1).bind fun x => (lychgateref02_Same.f f t.f0 t.f1 x.1 x.2.1).bind fun y => some y) (fun f => by simp [lychgateref15_Ground.j0, h0]) (Ev.bind (refGround_ev t) (Ev_eq (Ev.bind (refSame_ev t (groundT t).1) (Ev.now _)) ?_))
      have : (groundT t).2 = true := by unfold groundT; rw [if_pos ⟨h1, h0⟩]; split <;> rfl
      simp [groundB, this]
  · simp only [h1, if_false]
    exact Ev.step (f := fun _ => some false) (fun f => by simp [lychgateref15_Ground.j0]) (Ev_eq (Ev.now _) (by simp [groundB, groundT, h1]))
theorem coGround_calls {t : S43} {v : Value} {w : World} (h : IsT w v t) : Calls Tryd.prog 96 #[v] w fun e w' => e = .returned (.bool (groundB t)) ∧ Below w.heap.size w w' := by
  obtain ⟨A, c, rfl, h1, h2⟩ := h
  obtain ⟨k, hk⟩ := (coGround_ev t).rounds
  exact coerce_ground.calls k t.f0 A c t.f1 _ w h2 h1 hk
theorem ref15Ground_calls {t : S43} {v : Value} {w : World} (h : IsT w v t) : Calls Tryd.prog 100 #[v] w fun e w' => e = .returned (.bool (groundB t)) ∧ Below w.heap.size w w' := by
  obtain ⟨A, c, rfl, h1, h2⟩ := h
  obtain ⟨k, hk⟩ := (ref15Ground_ev t).rounds
  exact lychgateref15_Ground.calls k t.f0 A c t.f1 _ w h2 h1 hk
theorem refCheck_calls {t : S43} {v : Value} {w : World} (h : IsT w v t) : Calls Tryd.prog 42 #[v] w fun e w' => e = .returned (.int .i64 (checkI t)) ∧ Below w.heap.size w w' := by
  obtain ⟨A, c, rfl, h1, h2⟩ := h
  obtain ⟨k, hk⟩ := (refCheck_ev t.f0 t.f1).rounds
  rw [S43.eta] at hk
  exact lychgateref02_Check.calls k t.f0 A c t.f1 _ w h2 h1 hk
theorem small_calls {t : S43} {v : Value} {w : World} (h : IsT w v t) : Calls Tryd.prog 127 #[v] w fun e w' => e = .returned (.bool (checkI t == 0)) ∧ Below w.heap.size w w' := by
  obtain ⟨A, c, rfl, h1, h2⟩ := h
  obtain ⟨k, hk⟩ := ((Ev.bind (Ev_eq (refCheck_ev t.f0 t.f1) (by rw [S43.eta])) (Ev.now _) : Ev (fun f => lychgateref15_small.f f t.f0 t.f1) (checkI t == 0))).rounds
  exact lychgateref15_small.calls k t.f0 A c t.f1 _ w h2 h1 hk
def IsC (w : World) (v : Value) (x : S54) : Prop := ∃ A2 c2 A4 c4 A7 c7, v = .agg #[.int .i8 x.f0, .int .i8 x.f1.f0, .slice A2 x.f1.f1.length c2, .int .i8 x.f2.f0, .slice A4 x.f2.f1.length c4, .int .i64 x.f3, .bool x.f4, .slice A7 x.f5.length c7] ∧ x.f1.f1.length ≤ c2 ∧ Kd.C k43 w A2 x.f1.f1.length x.f1.f1 ∧ x.f2.f1.length ≤ c4 ∧ Kd.C k43 w A4 x.f2.f1.length x.f2.f1 ∧ x.f5.length ≤ c7 ∧ Kd.C k54 w A7 x.f5.length x.f5
theorem IsC.below {w w' : World} {v : Value} {x : S54} (h : IsC w v x) (hb : Below w.heap.size w w') : IsC w' v x := by
  obtain ⟨A2, c2, A4, c4, A7, c7, e, h1, h2, h3, h4, h5, h6⟩ := h
  exact ⟨A2, c2, A4, c4, A7, c7, e, h1, Kd.C_below h2 hb, h3, Kd.C_below h4 hb, h5, Kd.C_below h6 hb⟩
theorem rcount_calls {x : S54} {v : Value} {w : World} (h : IsC w v x) : Calls Tryd.prog 48 #[v, .int .i64 0] w fun e w' => (∃ r : Int, e = .returned (.int .i64 r) ∧ (cnodes x ≤ 8192 → r ≤ 8192) ∧ (8192 < cnodes x → 8192 < r)) ∧ Below w.heap.size w w' := by
  obtain ⟨A2, c2, A4, c4, A7, c7, rfl, h1, h2, h3, h4, h5, h6⟩ := h
  obtain ⟨r, hr, a, b, _, _⟩ := rcount_ev (cnodes x + 1) x 0 (by omega) (by omega) (by omega)
  obtain ⟨k, hk⟩ := hr.rounds
  refine (lychgateref15_count.calls k x.f0 x.f1.f0 A2 c2 x.f1.f1 x.f2.f0 A4 c4 x.f2.f1 x.f3 x.f4 A7 c7 x.f5 0 r w h2 h1 h4 h3 h6 h5 hk).mono ?_
  rintro e w' ⟨rfl, hB⟩
  exact ⟨⟨r, rfl, by omega, by omega⟩, hB⟩
theorem rdeep_calls {x : S54} {v : Value} {w : World} (h : IsC w v x) (h8 : cnodes x ≤ 8192) : Calls Tryd.prog 49 #[v, .int .i64 201] w fun e w' => e = .returned (.int .i64 (min (cdepth x : Int) 201)) ∧ Below w.heap.size w w' := by
  obtain ⟨A2, c2, A4, c4, A7, c7, rfl, h1, h2, h3, h4, h5, h6⟩ := h
  obtain ⟨k, hk⟩ := (rdeep_ev (cnodes x + 1) x 201 (by omega) h8 (by omega) (by omega)).rounds
  exact lychgateref15_deep.calls k x.f0 x.f1.f0 A2 c2 x.f1.f1 x.f2.f0 A4 c4 x.f2.f1 x.f3 x.f4 A7 c7 x.f5 201 _ w h2 h1 h4 h3 h6 h5 hk
end Go.Proofs.YtjmpejbciniceaaDoor.X
namespace Go.Proofs.YtjmpejbciniceaaDoor.X
open Go.RowKit Go.Proofs.YtjmpejbciniceaaDoorW.PrintWords Go.Proofs.YtjmpejbciniceaaDoorW.PrintLast Go.Proofs.YtjmpejbciniceaaDoorW.PrintMore
attribute [local go_sem] max2_int min2_int max_two min_two max_three min_three max_four min_four
set_option linter.unusedVariables false
set_option linter.unusedSimpArgs false
def lychgateref15_labelled.f (a0 : Int) : Option (Bool) := if a0 = 1 then (some true) else (some (a0 == 3))
set_option maxHeartbeats 8000000 in
set_option maxRecDepth 100000 in
theorem lychgateref15_labelled.calls (a0 : Int) (r : Bool) (w : World) (h : lychgateref15_labelled.f a0 = some r) :
    Calls Tryd.prog 99 #[.int .i8 a0] w fun e w' => e = .returned (.bool r) ∧ Drawn0 w w' := by
  have H : (if a0 = 1 then (some true) else (some (a0 == 3))) = some r := h
  clear h
  by_cases c2 : a0 = 1
  · rw [if_pos c2] at H
    have c2b0 : (a0 == 1) = true := beq_iff_eq.mpr c2
    have c2b1 : (a0 != 1) = false := bne_eq_false_iff_eq.mpr c2
    clear c2
    obtain rfl := Option.some.inj H
    go_enter Tryd.func99, Tryd.ntmps99
    go_wp2
    go_ret
    exact ⟨by first | rfl | (simp; done) | (simp [*]; done), by repeat (first | exact Drawn0.refl _ | apply Drawn0.step)⟩
  · rw [if_neg c2] at H
    have c2b0 : (a0 == 1) = false := beq_eq_false_iff_ne.mpr c2
    have c2b1 : (a0 != 1) = true := bne_iff_ne.mpr c2
    obtain rfl := Option.some.inj H
    go_enter Tryd.func99, Tryd.ntmps99
    go_wp2
    go_ret
    exact ⟨by first | rfl | (simp; done) | (simp [*]; done), by repeat (first | exact Drawn0.refl _ | apply Drawn0.step)⟩
end Go.Proofs.YtjmpejbciniceaaDoor.X
namespace Go.Proofs.YtjmpejbciniceaaDoor.X
open Go.RowKit Go.Proofs.YtjmpejbciniceaaDoorW.PrintWords Go.Proofs.YtjmpejbciniceaaDoorW.PrintLast Go.Proofs.YtjmpejbciniceaaDoorW.PrintMore
set_option linter.unusedVariables false
set_option linter.unusedSimpArgs false
def labB (n : Int) : Bool := decide (1 ≤ n) && decide (n ≤ 2147483648)
def joinC (k : Int) (a b x y : S43) : Option (S43 × S43) :=
  if k = 4 then some (⟨3, [b, x]⟩, ⟨3, [a, y]⟩) else if k = 5 then some (⟨4, [a, x]⟩, ⟨4, [b, y]⟩) else if k = 6 then some (⟨5, [a, x]⟩, ⟨5, [b, y]⟩)
  else if k = 7 then (if sameB b x then some (a, y) else none) else none
def leafC (k : Int) (t u : S43) (la : Int) : Option (S43 × S43) :=
  if checkI t = 0 then (if k = 0 then some (t, t) else if k = 2 then (if groundB t then some (t, z43) else none) else if k = 3 then (if groundB t && labB la then some (z43, t) else none)
    else (if labB la && decide (t.f0 ≠ 0) && decide (checkI u = 0) then some (t, u) else none)) else none
mutual
def endsC : S54 → Option (S43 × S43)
  | ⟨k, t, u, la, _, l⟩ => if leafB k then (if l.length = 0 then leafC k t u la else none) else match endsL l with
    | [some (a, b), some (x, y)] => joinC k a b x y
    | _ => none
def endsL : List S54 → List (Option (S43 × S43))
  | [] => []
  | x :: l => endsC x :: endsL l
end
theorem labelled_is (k : Int) : lychgateref15_labelled.f k = some (decide (k = 1) || decide (k = 3)) := by
  unfold lychgateref15_labelled.f
  by_cases h1 : k = 1
  · simp [h1]
  · simp [h1]
    rfl
theorem ends_kids {x : S54} (h : (endsC x).isSome = true) : (leafB x.f0 = true ∧ x.f5 = []) ∨ (leafB x.f0 = false ∧ ∃ p q, x.f5 = [p, q] ∧ (endsC p).isSome = true ∧ (endsC q).isSome = true) := by
  obtain ⟨k, t, u, la, ne, l⟩ := x
  rw [endsC] at h
  by_cases hk : leafB k = true
  · rw [if_pos hk] at h
    by_cases hl : l.length = 0
    · exact .inl ⟨hk, List.length_eq_zero_iff.1 hl⟩
    · rw [if_neg hl] at h
      simp at h
  · rw [if_neg hk] at h
    refine .inr ⟨by simpa using hk, ?_⟩
    match l with
    | [] => simp [endsL] at h
    | [p] => simp [endsL] at h
    | p :: q :: r :: m => simp [endsL] at h
    | [p, q] =>
      simp only [endsL] at h
      refine ⟨p, q, rfl, ?_⟩
      cases h1 : endsC p with
      | none => rw [h1] at h; simp at h
      | some v =>
        cases h2 : endsC q with
        | none => rw [h1, h2] at h; simp at h
        | some v2 => exact ⟨rfl, rfl⟩
def cocheckI (c : S54) : Int := if 8192 < cnodes c then 32 else if 200 < cdepth c then 31 else match endsC c with
  | none => 150
  | some (a, b) => if checkI a = 0 then checkI b else checkI a
def SaysB (b : Bool) (w : World) (e : Ending) (w' : World) : Prop := e = .returned (.bool b) ∧ Below w.heap.size w w'
end Go.Proofs.YtjmpejbciniceaaDoor.X
namespace Go.Proofs.YtjmpejbciniceaaDoor.X
open Go.ChangeShapes Go.WideShapes Go.ChangeAt Go.RowKit Go.Proofs.YtjmpejbciniceaaDoorW.PrintWords
set_option linter.unusedVariables false
theorem agg_of_cells {v : Value} {cs : List Value} (h : v.cells.toList = cs) (hl : cs.length ≠ 1) : v = .agg cs.toArray := by
  subst h
  cases v <;> simp_all [Value.cells]
theorem list_of_lt {α : Type} {n : Nat} {p : Nat → α → Prop} (h : ∀ i, i < n → ∃ x, p i x) : ∃ l : List α, l.length = n ∧ ∀ i x, l[i]? = some x → p i x := by
  induction n with
  | zero => exact ⟨[], rfl, fun i x h => by simp at h⟩
  | succ n ih =>
    obtain ⟨l, hl, hp⟩ := ih (fun i hi => h i (by omega))
    obtain ⟨x, hx⟩ := h n (by omega)
    refine ⟨l ++ [x], by simp [hl], fun i y hy => ?_⟩
    rcases Nat.lt_or_ge i n with hi | hi
    · rw [List.getElem?_append_left (by omega)] at hy
      exact hp i y hy
    · have hi2 : i = n := by
        have := (List.getElem?_eq_some_iff.1 hy).1
        simp at this
        omega
      subst hi2
      rw [List.getElem?_append_right (by omega)] at hy
      simp [hl] at hy
      subst hy
      exact hx
section
variable {H : Type} {enc : TypeId × Value → H} {P : Program} {w : World} {base : Nat} {spare : Nat → Bool} {held : Bool}
theorem row_of_trod {α : Type} (d : Kd α) {t e : TypeId} (ht : P.underlying t = some (.slice e)) (hc : P.cellsOf e = d.sz) {fuel : Nat} {cs : List Value} {x : DataW H × List MemPlace}
    (ih : ∀ n, n < fuel → ∀ cs x, DataW.trod enc P w base spare held n e cs = some x → ∃ v, d.K w v cs) (h : DataW.trod enc P w base spare held fuel t cs = some x) :
    ∃ A l c, cs = [.slice A l.length c] ∧ l.length ≤ c ∧ c ≤ maxLen ∧ Kd.C d w A l.length l := by
  rcases DataW.trod_slice ht h with ⟨rfl, _⟩ | ⟨a, len, cap, elems, rest, n, rfl, rfl, _, hb, hl, hm, hlen, hel, _, _⟩
  · exact ⟨none, [], 0, rfl, Nat.le_refl _, Nat.zero_le _, rfl, by simp, fun h => absurd h (by simp)⟩
  · have key : ∀ i, i < len → ∃ v cs', cs'.length = d.sz ∧ d.K w v cs' ∧ ∀ j u, cs'[j]? = some u → w.cell? (a.add (i * d.sz + j)) = some u := fun i hi => by
      have h1 := hel i hi
      rw [List.getElem?_eq_getElem (by omega)] at h1
      obtain ⟨cs', h2, h3⟩ := Option.bind_eq_some_iff.1 h1
      obtain ⟨v, hv⟩ := ih n (Nat.lt_succ_self n) _ _ h3
      rw [hc] at h2
      obtain ⟨_, h4, h5⟩ := World.cells?_some h2
      refine ⟨v, cs', h4, hv, fun j u hu => ?_⟩
      have hj : j < d.sz := by rw [← h4]; exact (List.getElem?_eq_some_iff.1 hu).1
      rw [← hu, ← h5 j hj]
      congr 1
      unfold Addr.add
      by_cases h6 : i * d.sz = 0 <;> by_cases h7 : j = 0 <;> simp [h6, h7, Nat.add_assoc] <;> omega
    obtain ⟨l, hll, hp⟩ := list_of_lt key
    subst hll
    exact ⟨some a, l, cap, rfl, hl, hm, rfl, by simp only [maxLen] at hm; omega, fun _ => ⟨a, rfl, fun j p hj => by
      obtain ⟨c, h1, h2, h3⟩ := hp j p hj
      exact ⟨c, h1, h2, h3⟩⟩⟩
end
section
variable {H : Type} {enc : TypeId × Value → H} {w : World} {base : Nat} {spare : Nat → Bool} {held : Bool}
set_option maxRecDepth 100000 in
theorem T35_of_trod (fuel : Nat) : ∀ (cs : List Value) (x : DataW H × List MemPlace), DataW.trod enc Tryd.prog w base spare held fuel 43 cs = some x → ∃ v : S43, k43.K w v cs := by
  induction fuel using Nat.strongRecOn with
  | _ fuel ih =>
  intro cs x h
  obtain ⟨xs, n, rfl, rfl, hl, hx, hf⟩ := DataW.trod_struct Tryd.underlying43 h
  have h0 := hf 0 _ rfl
  have h1 := hf 1 _ rfl
  have hx2 : xs.length = 2 := hx
  rw [List.getElem?_eq_getElem (by omega)] at h0 h1
  obtain ⟨k, e0, _, wk⟩ := DataW.trod_int Tryd.underlying35 h0
  obtain ⟨A, l, c, e1, hlc, _, hC⟩ := row_of_trod k43 Tryd.underlying41 (by kernel_rfl) (fun m hm cs x h => ih m (by omega) cs x h) h1
  have hc2 : cs.length = 2 := hl.trans (by kernel_rfl)
  match cs, hc2 with
  | [a, b], _ =>
    simp at e0 e1
    have ha : a = .int .i8 k := by simpa using (show [a] = [Value.int .i8 k] from e0)
    have hb : b = .slice A l.length c := by simpa using (show [b] = [Value.slice A l.length c] from e1)
    subst ha hb
    exact ⟨⟨k, l⟩, k43_mk w ⟨k, l⟩ hlc hC⟩
end
end Go.Proofs.YtjmpejbciniceaaDoor.X
