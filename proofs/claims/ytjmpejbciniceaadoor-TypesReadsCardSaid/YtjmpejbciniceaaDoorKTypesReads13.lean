/- Texts of this claim, joined: FLike, HFault, HLike, HAns. -/
import Derived.Test.YtjmpejbciniceaaDoorKTypesReads2
import Derived.Test.YtjmpejbciniceaaDoorKTypesReads3
import Derived.Test.YtjmpejbciniceaaDoorKTypesReads5
import Derived.Test.YtjmpejbciniceaaDoorKTypesReads8
import Derived.Test.YtjmpejbciniceaaDoorKTypesReads11
import Derived.Test.YtjmpejbciniceaaDoorKTypesReads12
namespace Go.Proofs.YtjmpejbciniceaaDoor.X
open Go.RowKit Go.Proofs.YtjmpejbciniceaaDoorW.PrintWords Go.Proofs.YtjmpejbciniceaaDoorW.PrintLast Go.Proofs.YtjmpejbciniceaaDoorW.PrintMore
attribute [local go_sem] max2_int min2_int max_two min_two max_three min_three max_four min_four
set_option linter.unusedVariables false
set_option linter.unusedSimpArgs false
mutual
def lychgatelaw02_LikeType.j0 : Nat → Bool → Int → List (S43) → Int → List (S43) → Option (Bool)
  | 0, _, _, _, _, _ => none
  | k + 1, x19, x277000, x277001, x278000, x278001 => if x19 = true then (some false) else (lychgatelaw02_LikeType.l0 k 0 x277000 x277001 x278000 x278001)
def lychgatelaw02_LikeType.l0 : Nat → Int → Int → List (S43) → Int → List (S43) → Option (Bool)
  | 0, _, _, _, _, _ => none
  | k + 1, x5, x277000, x277001, x278000, x278001 => if x5 < (x277001.length : Int) then (if 0 ≤ x5 then (if x5 < (x278001.length : Int) then ((lychgatelaw02_LikeType.f k ((rd_T43 x277001 x5).f0) ((rd_T43 x277001 x5).f1) ((rd_T43 x278001 x5).f0) ((rd_T43 x278001 x5).f1)).bind fun t280 => (if t280 = true then (lychgatelaw02_LikeType.l0 k (wrap64 (x5 + 1)) x277000 x277001 x278000 x278001) else (some false))) else (none)) else (none)) else (some true)
def lychgatelaw02_LikeType.f : Nat → Int → List (S43) → Int → List (S43) → Option (Bool)
  | 0, _, _, _, _ => none
  | k + 1, a0_0, l0_1, a1_0, l1_1 => if a0_0 = a1_0 then (lychgatelaw02_LikeType.j0 k ((l0_1.length : Int) != (l1_1.length : Int)) a0_0 l0_1 a1_0 l1_1) else (lychgatelaw02_LikeType.j0 k true a0_0 l0_1 a1_0 l1_1)
end
theorem lychgatelaw02_LikeType.mono_l : ∀ k, (∀ y0 y1 y2 y3, LeO (lychgatelaw02_LikeType.f k y0 y1 y2 y3) (lychgatelaw02_LikeType.f (k + 1) y0 y1 y2 y3)) ∧ (∀ y0 y1 y2 y3 y4, LeO (lychgatelaw02_LikeType.j0 k y0 y1 y2 y3 y4) (lychgatelaw02_LikeType.j0 (k + 1) y0 y1 y2 y3 y4)) ∧ (∀ y0 y1 y2 y3 y4, LeO (lychgatelaw02_LikeType.l0 k y0 y1 y2 y3 y4) (lychgatelaw02_LikeType.l0 (k + 1) y0 y1 y2 y3 y4))
  | 0 => ⟨fun _ _ _ _ r h => by simp [lychgatelaw02_LikeType.f] at h, fun _ _ _ _ _ r h => by simp [lychgatelaw02_LikeType.j0] at h, fun _ _ _ _ _ r h => by simp [lychgatelaw02_LikeType.l0] at h⟩
  | k + 1 => by
    obtain ⟨ih0, ih1, ih2⟩ := lychgatelaw02_LikeType.mono_l k
    refine ⟨?_, ?_, ?_⟩
    · intro y0 y1 y2 y3
      unfold lychgatelaw02_LikeType.f
      repeat' first
      | (with_reducible exact ih0 _ _ _ _)
      | (with_reducible exact ih1 _ _ _ _ _)
      | (with_reducible exact ih2 _ _ _ _ _)
      | (with_reducible exact LeO.refl _)
      | (with_reducible exact LeO.none _)
      | (with_reducible refine LeO.ite ?_ ?_)
      | (with_reducible refine LeO.bind ?_ (fun _ => ?_))
      | exact ih0 _ _ _ _
      | exact ih1 _ _ _ _ _
      | exact ih2 _ _ _ _ _
      | exact LeO.none _
      | refine LeO.ite ?_ ?_
      | refine LeO.bind ?_ (fun _ => ?_)
    · intro y0 y1 y2 y3 y4
      unfold lychgatelaw02_LikeType.j0
      repeat' first
      | (with_reducible exact ih0 _ _ _ _)
      | (with_reducible exact ih1 _ _ _ _ _)
      | (with_reducible exact ih2 _ _ _ _ _)
      | (with_reducible exact LeO.refl _)
      | (with_reducible exact LeO.none _)
      | (with_reducible refine LeO.ite ?_ ?_)
      | (with_reducible refine LeO.bind ?_ (fun _ => ?_))
      | exact ih0 _ _ _ _
      | exact ih1 _ _ _ _ _
      | exact ih2 _ _ _ _ _
      | exact LeO.none _
      | refine LeO.ite ?_ ?_
      | refine LeO.bind ?_ (fun _ => ?_)
    · intro y0 y1 y2 y3 y4
      unfold lychgatelaw02_LikeType.l0
      repeat' first
      | (with_reducible exact ih0 _ _ _ _)
      | (with_reducible exact ih1 _ _ _ _ _)
      | (with_reducible exact ih2 _ _ _ _ _)
      | (with_reducible exact LeO.refl _)
      | (with_reducible exact LeO.none _)
      | (with_reducible refine LeO.ite ?_ ?_)
      | (with_reducible refine LeO.bind ?_ (fun _ => ?_))
      | exact ih0 _ _ _ _
      | exact ih1 _ _ _ _ _
      | exact ih2 _ _ _ _ _
      | exact LeO.none _
      | refine LeO.ite ?_ ?_
      | refine LeO.bind ?_ (fun _ => ?_)
theorem lychgatelaw02_LikeType.mono : ∀ a0 a1 a2 a3 k, LeO (lychgatelaw02_LikeType.f k a0 a1 a2 a3) (lychgatelaw02_LikeType.f (k + 1) a0 a1 a2 a3) := by
  intro a0 a1 a2 a3 k
  obtain ⟨ih0, ih1, ih2⟩ := lychgatelaw02_LikeType.mono_l k
  exact ih0 a0 a1 a2 a3
def lychgatelaw02_LikeType.T6 : Bool × List (List Nat × List Nat) := (true, [([], []), ([0], [0]), ([], []), ([1, 2], [1, 2]), ([3], [3]), ([], []), ([5], [5]), ([], []), ([6, 7], [6, 7]), ([8], [8]), ([4, 9], [4, 9]), ([10], [10])])
def lychgatelaw02_LikeType.B6 : List Nat := [0, 1, 0, 7, 15, 0, 32, 0, 224, 480, 1023, 2047]
theorem lychgatelaw02_LikeType.tab6 : rtab .any (opsOf Tryd.f15 6) = lychgatelaw02_LikeType.T6 := by kernel_rfl
theorem lychgatelaw02_LikeType.bits6 : waitsOk lychgatelaw02_LikeType.T6.2 lychgatelaw02_LikeType.B6 = true := by kernel_rfl
set_option maxHeartbeats 8000000 in
set_option maxRecDepth 100000 in
theorem lychgatelaw02_LikeType.calls (k : Nat) : ∀ (a0_0 : Int) (A0_1 : Option Addr) (c0_1 : Nat) (l0_1 : List (S43)) (a1_0 : Int) (A1_1 : Option Addr) (c1_1 : Nat) (l1_1 : List (S43)) (r : Bool) (w : World) (hr0_1 : Kd.C k43 w A0_1 l0_1.length l0_1) (hc0_1 : l0_1.length ≤ c0_1) (hr1_1 : Kd.C k43 w A1_1 l1_1.length l1_1) (hc1_1 : l1_1.length ≤ c1_1) (h : lychgatelaw02_LikeType.f k a0_0 l0_1 a1_0 l1_1 = some r),
    Calls Tryd.prog 15 #[.agg #[.int .i8 a0_0, .slice A0_1 l0_1.length c0_1], .agg #[.int .i8 a1_0, .slice A1_1 l1_1.length c1_1]] w fun e w' => e = .returned (.bool r) ∧ Below w.heap.size w w' := by
  induction k using Nat.strongRecOn with
  | _ k ih =>
  intro a0_0 A0_1 c0_1 l0_1 a1_0 A1_1 c1_1 l1_1 r w hr0_1 hc0_1 hr1_1 hc1_1 h
  cases k with
  | zero => exact absurd h (by simp [lychgatelaw02_LikeType.f])
  | succ k =>
  simp only [lychgatelaw02_LikeType.f] at h
  have hu43 := Tryd.underlying43
  have HR0_1 := Aside0.mk hr0_1
  have HC0_1 := Aside0.mk hc0_1
  clear hr0_1 hc0_1
  have HR1_1 := Aside0.mk hr1_1
  have HC1_1 := Aside0.mk hc1_1
  clear hr1_1 hc1_1
  have HB := Aside0.mk (Below.refl w.heap.size w)
  have H : (if a0_0 = a1_0 then (lychgatelaw02_LikeType.j0 k ((l0_1.length : Int) != (l1_1.length : Int)) a0_0 l0_1 a1_0 l1_1) else (lychgatelaw02_LikeType.j0 k true a0_0 l0_1 a1_0 l1_1)) = some r := h
  clear h
  have HC3 := Aside0.mk H
  clear H
  go_enter Tryd.func15, Tryd.ntmps15
  go_upto_region 1 with (first | ((with_reducible refine gate_dst (N := 2) rfl ?_); (try (refine gate_guard (by rfl) ?_; dsimp only)); refine box_event ?hg (N := 2) ?hd (cs := #[.int .i8 a0_0, .slice A0_1 l0_1.length c0_1]) (t := 43) ?hr ?_; (case hd => rfl); (case hg => rfl); (case hr => first | (go_simp; done) | (go_simp; rfl)); intro gb276 hg w4 hbox hb; have n0_ := Aside0.mk (below_step (by repeat (first | (with_reducible first | exact HB.out | apply below_alloc | apply pw_below_drewN | apply below_drew1) | exact HB.out)) hb); have n1_ := Aside0.mk (hbox); have n2_ := Aside0.mk ((by rw [hg]; exact (below_size (by repeat (first | (with_reducible first | exact HB.out | apply below_alloc | apply pw_below_drewN | apply below_drew1) | exact HB.out))) : w.heap.size ≤ gb276)); have n3_ := Aside0.mk ((by rw [hg]; exact (below_size (by repeat (first | (with_reducible first | exact HB.out | apply below_alloc | apply pw_below_drewN | apply below_drew1) | exact HB.out))) : w.heap.size ≤ gb276)); clear HB; have HB := n0_; have BK276 := n1_; have GW276 := n2_; have GE276 := n3_; clear n0_ n1_ n2_ n3_; clear hb hbox hg) | ((with_reducible refine gate_dst (N := 3) rfl ?_); (try (refine gate_guard (by rfl) ?_; dsimp only)); refine box_event ?hg (N := 3) ?hd (cs := #[.int .i8 a1_0, .slice A1_1 l1_1.length c1_1]) (t := 43) ?hr ?_; (case hd => rfl); (case hg => rfl); (case hr => first | (go_simp; done) | (go_simp; rfl)); intro gb277 hg w5 hbox hb; have n0_ := Aside0.mk (blk_below (g := gb276) (o := .cells #[.int .i8 a0_0, .slice A0_1 l0_1.length c0_1] 43 (0, 0)) (by (with_reducible repeat (first | refine blk_drewN ?_ _ | refine blk_drew ?_ | refine blk_alloc ?_ _)); exact BK276.out) hb); have n1_ := Aside0.mk (below_step (by repeat (first | (with_reducible first | exact HB.out | apply below_alloc | apply pw_below_drewN | apply below_drew1 | refine below_set ?_ GE276.out) | exact HB.out)) hb); have n2_ := Aside0.mk (hbox); have n3_ := Aside0.mk ((by rw [hg]; exact (below_size (by repeat (first | (with_reducible first | exact HB.out | apply below_alloc | apply pw_below_drewN | apply below_drew1 | refine below_set ?_ GE276.out) | exact HB.out))) : w.heap.size ≤ gb277)); have n4_ := Aside0.mk ((by rw [hg]; exact (below_size (by repeat (first | (with_reducible first | exact HB.out | apply below_alloc | apply pw_below_drewN | apply below_drew1 | refine below_set ?_ GE276.out) | exact HB.out))) : w.heap.size ≤ gb277)); have n5_ := Aside0.mk ((by rw [hg]; exact Nat.ne_of_lt (blk_lt (g := gb276) (o := .cells #[.int .i8 a0_0, .slice A0_1 l0_1.length c0_1] 43 (0, 0)) (by (with_reducible repeat (first | refine blk_drewN ?_ _ | refine blk_drew ?_ | refine blk_alloc ?_ _)); exact BK276.out)) : gb276 ≠ gb277)); have n6_ := Aside0.mk ((by rw [hg]; exact Nat.ne_of_gt (blk_lt (g := gb276) (o := .cells #[.int .i8 a0_0, .slice A0_1 l0_1.length c0_1] 43 (0, 0)) (by (with_reducible repeat (first | refine blk_drewN ?_ _ | refine blk_drew ?_ | refine blk_alloc ?_ _)); exact BK276.out)) : gb277 ≠ gb276)); clear BK276; clear HB; have BK276 := n0_; have HB := n1_; have BK277 := n2_; have GW277 := n3_; have GE277 := n4_; have NB276_277 := n5_; have NB277_276 := n6_; clear n0_ n1_ n2_ n3_ n4_ n5_ n6_; clear hb hbox hg))
  (try simp only [Act.put, List.setIfInBounds_toArray, List.set_cons_zero, List.set_cons_succ])
  go_cut [19] (fun v19 wc => ∃ (kq : Nat) (x19_2 : Bool), v19 = .bool x19_2 ∧ Aside0 (lychgatelaw02_LikeType.j0 kq x19_2 a0_0 l0_1 a1_0 l1_1 = some r) ∧ Aside0 (kq ≤ k) ∧ Aside0 (wc.heap[gb276]? = some (.cells #[.int .i8 a0_0, (.slice A0_1 l0_1.length c0_1)] 43 (0, 0))) ∧ Aside0 (wc.heap[gb277]? = some (.cells #[.int .i8 a1_0, (.slice A1_1 l1_1.length c1_1)] 43 (0, 0))) ∧ Aside0 (Below w.heap.size w wc))
  case first =>
    have H := HC3.out
    clear HC3
    by_cases c6 : a0_0 = a1_0
    · rw [if_pos c6] at H
      have c6b0 : (a0_0 == a1_0) = true := beq_iff_eq.mpr c6
      have c6b1 : (a0_0 != a1_0) = false := bne_eq_false_iff_eq.mpr c6
      clear c6
      (first | rw [c6b0] | (simp only [i64_w, i32_w]; rw [c6b0]) | skip)
      have H' := Aside0.mk H
      clear H
      have hnb7 := NB276_277.out
      have hnc7 := NB277_276.out
      have hcz8_0 : w5.cell? ⟨gb276, 0, none⟩ = some (.int .i8 a0_0) := (blk_cell BK276.out 0).trans rfl
      have hcz8_1 : w5.cell? ⟨gb276, 1, none⟩ = some (.slice A0_1 l0_1.length c0_1) := (blk_cell BK276.out 1).trans rfl
      have hfz8_0 := blk_frozen BK276.out 0
      have hfz8_1 := blk_frozen BK276.out 1
      have hcz9_0 : w5.cell? ⟨gb277, 0, none⟩ = some (.int .i8 a1_0) := (blk_cell BK277.out 0).trans rfl
      have hcz9_1 : w5.cell? ⟨gb277, 1, none⟩ = some (.slice A1_1 l1_1.length c1_1) := (blk_cell BK277.out 1).trans rfl
      have hfz9_0 := blk_frozen BK277.out 0
      have hfz9_1 := blk_frozen BK277.out 1
      go_wp2
      go_meet
      case rel => exact ⟨_, (((l0_1.length : Int) != (l1_1.length : Int))), (by first | rfl | (simp; done) | (simp [*]; done)), H', ⟨by first | omega | exact Nat.le_refl _⟩, ⟨by (with_reducible repeat (first | refine blk_drewN ?_ _ | refine blk_drew ?_ | refine blk_alloc ?_ _)); exact BK276.out⟩, ⟨by (with_reducible repeat (first | refine blk_drewN ?_ _ | refine blk_drew ?_ | refine blk_alloc ?_ _)); exact BK277.out⟩, ⟨by repeat (first | (with_reducible first | exact HB.out | apply below_alloc | apply pw_below_drewN | apply below_drew1 | refine below_set ?_ GE276.out | refine below_set ?_ GE277.out) | exact HB.out)⟩⟩
    · rw [if_neg c6] at H
      have c6b0 : (a0_0 == a1_0) = false := beq_eq_false_iff_ne.mpr c6
      have c6b1 : (a0_0 != a1_0) = true := bne_iff_ne.mpr c6
      (first | rw [c6b0] | (simp only [i64_w, i32_w]; rw [c6b0]) | skip)
      have H' := Aside0.mk H
      clear H
      have hnb10 := NB276_277.out
      have hnc10 := NB277_276.out
      have hcz11_0 : w5.cell? ⟨gb276, 0, none⟩ = some (.int .i8 a0_0) := (blk_cell BK276.out 0).trans rfl
      have hcz11_1 : w5.cell? ⟨gb276, 1, none⟩ = some (.slice A0_1 l0_1.length c0_1) := (blk_cell BK276.out 1).trans rfl
      have hfz11_0 := blk_frozen BK276.out 0
      have hfz11_1 := blk_frozen BK276.out 1
      have hcz12_0 : w5.cell? ⟨gb277, 0, none⟩ = some (.int .i8 a1_0) := (blk_cell BK277.out 0).trans rfl
      have hcz12_1 : w5.cell? ⟨gb277, 1, none⟩ = some (.slice A1_1 l1_1.length c1_1) := (blk_cell BK277.out 1).trans rfl
      have hfz12_0 := blk_frozen BK277.out 0
      have hfz12_1 := blk_frozen BK277.out 1
      go_wp2
      go_meet
      case rel => exact ⟨_, (true), (by first | rfl | (simp; done) | (simp [*]; done)), H', ⟨by first | omega | exact Nat.le_refl _⟩, ⟨by (with_reducible repeat (first | refine blk_drewN ?_ _ | refine blk_drew ?_ | refine blk_alloc ?_ _)); exact BK276.out⟩, ⟨by (with_reducible repeat (first | refine blk_drewN ?_ _ | refine blk_drew ?_ | refine blk_alloc ?_ _)); exact BK277.out⟩, ⟨by repeat (first | (with_reducible first | exact HB.out | apply below_alloc | apply pw_below_drewN | apply below_drew1 | refine below_set ?_ GE276.out | refine below_set ?_ GE277.out) | exact HB.out)⟩⟩
  case rest =>
    clear HC3
    try clear c1
    try clear p2
    try clear c6
    try clear c6b0
    try clear c6b1
    try clear c7
    try clear c10
    try clear hcz11_0
    try clear hcz11_1
    try clear hcz12_0
    try clear hcz12_1
    try clear hcz8_0
    try clear hcz8_1
    try clear hcz9_0
    try clear hcz9_1
    try clear hfz11_0
    try clear hfz11_1
    try clear hfz12_0
    try clear hfz12_1
    try clear hfz8_0
    try clear hfz8_1
    try clear hfz9_0
    try clear hfz9_1
    obtain ⟨kq, x19_2, rfl, HA, HJ2, BK276, BK277, HB⟩ := hcut
    cases kq with
    | zero => exact absurd HA.out (by simp [lychgatelaw02_LikeType.j0])
    | succ kj2 =>
      have H := HA.out
      clear HA
      simp only [lychgatelaw02_LikeType.j0] at H
      by_cases c13 : x19_2 = true
      · subst c13
        have H1 : (some false) = some r := by rw [if_pos rfl] at H; exact H
        clear H
        have H := H1
        clear H1
        obtain rfl := Option.some.inj H
        go_wp2
        go_ret
        exact ⟨by first | rfl | (simp [errW_none, errW_some] <;> rfl) | (simp [*, errW_none, errW_some] <;> rfl), by repeat (first | (with_reducible first | exact HB.out | apply below_alloc | apply pw_below_drewN | apply below_drew1 | refine below_set ?_ GE276.out | refine below_set ?_ GE277.out) | exact HB.out)⟩
      · replace c13 := Bool.eq_false_iff.mpr c13
        subst c13
        have H1 : (lychgatelaw02_LikeType.l0 kj2 0 a0_0 l0_1 a1_0 l1_1) = some r := by rw [if_neg (show ¬ (false = true) by decide)] at H; exact H
        clear H
        have H := H1
        clear H1
        have H' := Aside0.mk H
        clear H
        go_wp2
        go_loopg [5] kj2 (fun kq v5 w' => ∃ (x5_2 : Int), v5 = .int .i64 x5_2 ∧ Aside0 (lychgatelaw02_LikeType.l0 kq x5_2 a0_0 l0_1 a1_0 l1_1 = some r) ∧ Aside0 (kq ≤ kj2) ∧ Aside0 (w'.heap[gb276]? = some (.cells #[.int .i8 a0_0, (.slice A0_1 l0_1.length c0_1)] 43 (0, 0))) ∧ Aside0 (w'.heap[gb277]? = some (.cells #[.int .i8 a1_0, (.slice A1_1 l1_1.length c1_1)] 43 (0, 0))) ∧ Aside0 (Below w.heap.size w w'))
        case atStart => exact ⟨(0), (by first | rfl | (simp; done) | (simp [*]; done)), H', ⟨Nat.le_refl _⟩, ⟨by (with_reducible repeat (first | refine blk_drewN ?_ _ | refine blk_drew ?_ | refine blk_alloc ?_ _)); exact BK276.out⟩, ⟨by (with_reducible repeat (first | refine blk_drewN ?_ _ | refine blk_drew ?_ | refine blk_alloc ?_ _)); exact BK277.out⟩, ⟨by repeat (first | (with_reducible first | exact HB.out | apply below_alloc | apply pw_below_drewN | apply below_drew1 | refine below_set ?_ GE276.out | refine below_set ?_ GE277.out) | exact HB.out)⟩⟩
        case round =>
          clear H'
          try clear c1
          try clear p2
          try clear c6
          try clear c6b0
          try clear c6b1
          try clear c7
          try clear c10
          try clear c13
          try clear hcz11_0
          try clear hcz11_1
          try clear hcz12_0
          try clear hcz12_1
          try clear hcz8_0
          try clear hcz8_1
          try clear hcz9_0
          try clear hcz9_1
          try clear hfz11_0
          try clear hfz11_1
          try clear hfz12_0
          try clear hfz12_1
          try clear hfz8_0
          try clear hfz8_1
          try clear hfz9_0
          try clear hfz9_1
          try clear p2
          obtain ⟨x5_2, rfl, HA, HK2, BK276, BK277, HB⟩ := hrel
          cases gk with
          | zero => exact absurd HA.out (by simp [lychgatelaw02_LikeType.l0])
          | succ k2 =>
            have H := HA.out
            clear HA
            simp only [lychgatelaw02_LikeType.l0] at H
            by_cases c14 : x5_2 < (l0_1.length : Int)
            · rw [if_pos c14] at H
              have c14b0 : decide (x5_2 < (l0_1.length : Int)) = true := decide_eq_true c14
              clear c14
              by_cases c15 : 0 ≤ x5_2
              · rw [if_pos c15] at H
                have c15b0 : decide (0 ≤ x5_2) = true := decide_eq_true c15
                clear c15
                by_cases c16 : x5_2 < (l1_1.length : Int)
                · rw [if_pos c16] at H
                  have c16b0 : decide (x5_2 < (l1_1.length : Int)) = true := decide_eq_true c16
                  clear c16
                  replace H := Option.bind_eq_some_iff.mp H
                  obtain ⟨t280, A170, H⟩ := H
                  replace H : (if t280 = true then (lychgatelaw02_LikeType.l0 k2 (wrap64 (x5_2 + 1)) a0_0 l0_1 a1_0 l1_1) else (some false)) = some r := H
                  have A17 := Aside0.mk A170
                  clear A170
                  by_cases c18 : t280 = true
                  · subst c18
                    have H1 : (lychgatelaw02_LikeType.l0 k2 (wrap64 (x5_2 + 1)) a0_0 l0_1 a1_0 l1_1) = some r := by rw [if_pos rfl] at H; exact H
                    clear H
                    have H := H1
                    clear H1
                    have H' := Aside0.mk H
                    clear H
                    have hnb19 := NB276_277.out
                    have hnc19 := NB277_276.out
                    have hcz20_0 : wr.cell? ⟨gb276, 0, none⟩ = some (.int .i8 a0_0) := (blk_cell BK276.out 0).trans rfl
                    have hcz20_1 : wr.cell? ⟨gb276, 1, none⟩ = some (.slice A0_1 l0_1.length c0_1) := (blk_cell BK276.out 1).trans rfl
                    have hfz20_0 := blk_frozen BK276.out 0
                    have hfz20_1 := blk_frozen BK276.out 1
                    try go_wp2
                    have n0_ := Aside0.mk (blk_drew BK276.out)
                    have n1_ := Aside0.mk (blk_drew BK277.out)
                    have n2_ := Aside0.mk (below_drew1 HB.out)
                    clear BK276
                    clear BK277
                    clear HB
                    have BK276 := n0_
                    have BK277 := n1_
                    have HB := n2_
                    clear n0_ n1_ n2_
                    have p278 : 0 ≤ (x5_2 : Int) := of_decide_eq_true (by first | (with_reducible assumption) | assumption)
                    have q278 : x5_2 < (l0_1.length : Int) := of_decide_eq_true (by first | (with_reducible assumption) | assumption)
                    obtain ⟨ad278, A278_1, c278_1, e278, hx278_0, hx278_1, hl278_1, hi278_1⟩ := at_T43 HR0_1.out x5_2 p278 q278
                    have hw278_1 := hx278_1
                    have hw278_0 := hx278_0
                    cases e278
                    replace hx278_0 := (HB.out.cell (World.block_lt_of_cell? w _ hx278_0)).trans hx278_0
                    replace hx278_1 := (HB.out.cell (World.block_lt_of_cell? w _ hx278_1)).trans hx278_1
                    have HR278_1 := Aside0.mk hi278_1
                    have HC278_1 := Aside0.mk hl278_1
                    clear hi278_1 hl278_1
                    replace p278 := eq_true p278
                    replace q278 := eq_true q278
                    have p279 : 0 ≤ (x5_2 : Int) := of_decide_eq_true (by first | (with_reducible assumption) | assumption)
                    have q279 : x5_2 < (l1_1.length : Int) := of_decide_eq_true (by first | (with_reducible assumption) | assumption)
                    obtain ⟨ad279, A279_1, c279_1, e279, hx279_0, hx279_1, hl279_1, hi279_1⟩ := at_T43 HR1_1.out x5_2 p279 q279
                    have hw279_1 := hx279_1
                    have hw279_0 := hx279_0
                    cases e279
                    replace hx279_0 := (HB.out.cell (World.block_lt_of_cell? w _ hx279_0)).trans hx279_0
                    replace hx279_1 := (HB.out.cell (World.block_lt_of_cell? w _ hx279_1)).trans hx279_1
                    have HR279_1 := Aside0.mk hi279_1
                    have HC279_1 := Aside0.mk hl279_1
                    clear hi279_1 hl279_1
                    replace p279 := eq_true p279
                    replace q279 := eq_true q279
                    refine start_ (n := 12) (S := fun w' => w'.cell? ⟨gb276, 0, none⟩ = some (.int .i8 a0_0) ∧ w'.cell? ⟨gb276, 1, none⟩ = some (.slice (some ad278) l0_1.length c0_1) ∧ w'.cell? ⟨gb277, 0, none⟩ = some (.int .i8 a1_0) ∧ w'.cell? ⟨gb277, 1, none⟩ = some (.slice (some ad279) l1_1.length c1_1) ∧ w'.cell? (ad278.add ((x5_2).toNat * 2)) = some (.int .i8 ((rd_T43 l0_1 x5_2).f0)) ∧ w'.cell? ⟨(ad278.add ((x5_2).toNat * 2)).block, (ad278.add ((x5_2).toNat * 2)).off + 1, none⟩ = some (.slice A278_1 ((rd_T43 l0_1 x5_2).f1).length c278_1) ∧ w'.cell? (ad279.add ((x5_2).toNat * 2)) = some (.int .i8 ((rd_T43 l1_1 x5_2).f0)) ∧ w'.cell? ⟨(ad279.add ((x5_2).toNat * 2)).block, (ad279.add ((x5_2).toNat * 2)).off + 1, none⟩ = some (.slice A279_1 ((rd_T43 l1_1 x5_2).f1).length c279_1)) (ds := []) #[false, false, false, false, false, false, false, false, false, false, false, false] (by kernel_rfl) rfl rfl ⟨(blk_cell BK276.out 0).trans rfl, (blk_cell BK276.out 1).trans rfl, (blk_cell BK277.out 0).trans rfl, (blk_cell BK277.out 1).trans rfl, ((HB.out.cell (World.block_lt_of_cell? w _ hw278_0)).trans hw278_0), ((HB.out.cell (World.block_lt_of_cell? w _ hw278_1)).trans hw278_1), ((HB.out.cell (World.block_lt_of_cell? w _ hw279_0)).trans hw279_0), ((HB.out.cell (World.block_lt_of_cell? w _ hw279_1)).trans hw279_1)⟩ (fun hHeld => ?_); refine with_tabW lychgatelaw02_LikeType.tab6 lychgatelaw02_LikeType.bits6 (fun HT_ HW_ => ?_)
                    generalize wr.drew = w21 at BK276 BK277 HB HR278_1 HR279_1 hx278_0 hx278_1 hx279_0 hx279_1 hHeld ⊢
                    refine pure_ (i := 0) (N := some 27) (v := ?_) (a' := ?_) #[true, false, false, false, false, false, false, false, false, false, false, false] rfl rfl (any_of HT_.out (by kernel_rfl)) (fun _ _ _ h => h) (Or.inl ⟨by rfl, ?_⟩) ?_ ?_
                    rotate_left
                    · intro w'
                      go_simp
                      with_reducible rfl
                    rotate_left
                    · simp only [Act.put, List.setIfInBounds_toArray, List.set_cons_zero, List.set_cons_succ, i64_w, i32_w]
                      rfl
                    refine pure_ (i := 2) (N := some 29) (v := ?_) (a' := ?_) #[true, false, true, false, false, false, false, false, false, false, false, false] rfl rfl (any_of HT_.out (by kernel_rfl)) (fun _ _ _ h => h) (Or.inl ⟨by rfl, ?_⟩) ?_ ?_
                    rotate_left
                    · intro w'
                      go_simp
                      with_reducible rfl
                    rotate_left
                    · simp only [Act.put, List.setIfInBounds_toArray, List.set_cons_zero, List.set_cons_succ, i64_w, i32_w]
                      rfl
                    refine pure_ (i := 5) (N := some 32) (v := ?_) (a' := ?_) #[true, false, true, false, false, true, false, false, false, false, false, false] rfl rfl (any_of HT_.out (by kernel_rfl)) (fun _ _ _ h => h) (Or.inl ⟨by rfl, ?_⟩) ?_ ?_
                    rotate_left
                    · intro w'
                      go_simp
                      with_reducible rfl
                    rotate_left
                    · simp only [Act.put, List.setIfInBounds_toArray, List.set_cons_zero, List.set_cons_succ, i64_w, i32_w]
                      rfl
                    refine pure_ (i := 7) (N := some 34) (v := ?_) (a' := ?_) #[true, false, true, false, false, true, false, true, false, false, false, false] rfl rfl (any_of HT_.out (by kernel_rfl)) (fun _ _ _ h => h) (Or.inl ⟨by rfl, ?_⟩) ?_ ?_
                    rotate_left
                    · intro w'
                      go_simp
                      with_reducible rfl
                    rotate_left
                    · simp only [Act.put, List.setIfInBounds_toArray, List.set_cons_zero, List.set_cons_succ, i64_w, i32_w]
                      rfl
                    refine take_ (i := 1) (N := some 28) (v := ?_) (a' := ?_) #[true, true, true, false, false, true, false, true, false, false, false, false] rfl rfl (take_ofW HT_.out HW_.out (by kernel_rfl)) (fun _ _ _ h => h) (Or.inl ⟨by rfl, ?_⟩) hHeld ?_ ?_
                    rotate_left
                    · rintro w' ⟨s0, s1, s2, s3, s4, s5, s6, s7⟩
                      go_simp
                      with_reducible rfl
                    rotate_left
                    · simp only [Act.put, List.setIfInBounds_toArray, List.set_cons_zero, List.set_cons_succ, i64_w, i32_w]
                      rfl
                    refine pure_ (i := 3) (N := some 30) (v := ?_) (a' := ?_) #[true, true, true, true, false, true, false, true, false, false, false, false] rfl rfl (any_of HT_.out (by kernel_rfl)) (fun _ _ _ h => h) (Or.inl ⟨by rfl, ?_⟩) ?_ ?_
                    rotate_left
                    · intro w'
                      go_simp
                      with_reducible rfl
                    rotate_left
                    · simp only [Act.put, List.setIfInBounds_toArray, List.set_cons_zero, List.set_cons_succ, i64_w, i32_w]
                      rfl
                    refine take_ (i := 4) (N := some 31) (v := ?_) (a' := ?_) #[true, true, true, true, true, true, false, true, false, false, false, false] rfl rfl (take_ofW HT_.out HW_.out (by kernel_rfl)) (fun _ _ _ h => h) (Or.inl ⟨by rfl, ?_⟩) hHeld ?_ ?_
                    rotate_left
                    · rintro w' ⟨s0, s1, s2, s3, s4, s5, s6, s7⟩
                      go_simp
                      with_reducible rfl
                    rotate_left
                    · simp only [Act.put, List.setIfInBounds_toArray, List.set_cons_zero, List.set_cons_succ, i64_w, i32_w]
                      rfl
                    refine take_ (i := 6) (N := some 33) (v := ?_) (a' := ?_) #[true, true, true, true, true, true, true, true, false, false, false, false] rfl rfl (take_ofW HT_.out HW_.out (by kernel_rfl)) (fun _ _ _ h => h) (Or.inl ⟨by rfl, ?_⟩) hHeld ?_ ?_
                    rotate_left
                    · rintro w' ⟨s0, s1, s2, s3, s4, s5, s6, s7⟩
                      go_simp
                      with_reducible rfl
                    rotate_left
                    · simp only [Act.put, List.setIfInBounds_toArray, List.set_cons_zero, List.set_cons_succ, i64_w, i32_w]
                      rfl
                    refine pure_ (i := 8) (N := some 35) (v := ?_) (a' := ?_) #[true, true, true, true, true, true, true, true, true, false, false, false] rfl rfl (any_of HT_.out (by kernel_rfl)) (fun _ _ _ h => h) (Or.inl ⟨by rfl, ?_⟩) ?_ ?_
                    rotate_left
                    · intro w'
                      go_simp
                      with_reducible rfl
                    rotate_left
                    · simp only [Act.put, List.setIfInBounds_toArray, List.set_cons_zero, List.set_cons_succ, i64_w, i32_w]
                      rfl
                    refine take_ (i := 9) (N := some 36) (v := ?_) (a' := ?_) #[true, true, true, true, true, true, true, true, true, true, false, false] rfl rfl (take_ofW HT_.out HW_.out (by kernel_rfl)) (fun _ _ _ h => h) (Or.inl ⟨by rfl, ?_⟩) hHeld ?_ ?_
                    rotate_left
                    · rintro w' ⟨s0, s1, s2, s3, s4, s5, s6, s7⟩
                      go_simp
                      with_reducible rfl
                    rotate_left
                    · simp only [Act.put, List.setIfInBounds_toArray, List.set_cons_zero, List.set_cons_succ, i64_w, i32_w]
                      rfl
                    refine one_ (i := 10) (N := some 37) #[true, true, true, true, true, true, true, true, true, true, true, false] rfl rfl (one_of HT_.out (by kernel_rfl)) (by decide) (fun K hK => ?_)
                    refine goes_ Tryd.func15 (by kernel_rfl) rfl #[.agg #[.int .i8 ((rd_T43 l0_1 x5_2).f0), .slice A278_1 ((rd_T43 l0_1 x5_2).f1).length c278_1], .agg #[.int .i8 ((rd_T43 l1_1 x5_2).f0), .slice A279_1 ((rd_T43 l1_1 x5_2).f1).length c279_1]] (by rfl) rfl rfl (by (try simp only [List.map_toArray, List.map_cons, List.map_nil]); first | done | rfl | (simp only [List.length_drop, List.length_take]; rfl)) ?_
                    with_reducible refine (ih k2 (by have := HJ2.out; have := HK2.out; omega) ((rd_T43 l0_1 x5_2).f0) _ _ ((rd_T43 l0_1 x5_2).f1) ((rd_T43 l1_1 x5_2).f0) _ _ ((rd_T43 l1_1 x5_2).f1) true _ ?side1 ?side2 ?side3 ?side4 A17.out).mono ?_
                    (case side1 => repeat (first | exact (Kd.C_below HR278_1.out HB.out) | (with_reducible refine Kd.C_alloc ?_ _) | (with_reducible refine Kd.C_drewN ?_ _) | (with_reducible refine Kd.C_drew ?_)))
                    (case side2 => exact HC278_1.out)
                    (case side3 => repeat (first | exact (Kd.C_below HR279_1.out HB.out) | (with_reducible refine Kd.C_alloc ?_ _) | (with_reducible refine Kd.C_drewN ?_ _) | (with_reducible refine Kd.C_drew ?_)))
                    (case side4 => exact HC279_1.out)
                    rintro e w22 ⟨rfl, hb⟩
                    refine ⟨_, rfl, ?_⟩
                    have n0_ := Aside0.mk (blk_below (g := gb276) (o := .cells #[.int .i8 a0_0, .slice (some ad278) l0_1.length c0_1] 43 (0, 0)) (by (with_reducible repeat (first | refine blk_drewN ?_ _ | refine blk_drew ?_ | refine blk_alloc ?_ _)); exact BK276.out) hb)
                    have n1_ := Aside0.mk (blk_below (g := gb277) (o := .cells #[.int .i8 a1_0, .slice (some ad279) l1_1.length c1_1] 43 (0, 0)) (by (with_reducible repeat (first | refine blk_drewN ?_ _ | refine blk_drew ?_ | refine blk_alloc ?_ _)); exact BK277.out) hb)
                    have n2_ := Aside0.mk (below_step (by repeat (first | (with_reducible first | exact HB.out | apply below_alloc | apply pw_below_drewN | apply below_drew1 | refine below_set ?_ GE276.out | refine below_set ?_ GE277.out) | exact HB.out)) hb)
                    clear BK276
                    clear BK277
                    clear HB
                    have BK276 := n0_
                    have BK277 := n1_
                    have HB := n2_
                    clear n0_ n1_ n2_
                    (try clear hb)
                    (try clear hb2)
                    (try clear hk)
                    (try clear hi)
                    refine hK.out _ _ ⟨(blk_cell BK276.out 0).trans rfl, (blk_cell BK276.out 1).trans rfl, (blk_cell BK277.out 0).trans rfl, (blk_cell BK277.out 1).trans rfl, ((HB.out.cell (World.block_lt_of_cell? w _ hw278_0)).trans hw278_0), ((HB.out.cell (World.block_lt_of_cell? w _ hw278_1)).trans hw278_1), ((HB.out.cell (World.block_lt_of_cell? w _ hw279_0)).trans hw279_0), ((HB.out.cell (World.block_lt_of_cell? w _ hw279_1)).trans hw279_1)⟩ (fun hHeld => ?_)
                    clear hK K
                    refine norm_ (a' := ?_) ?_ ?_
                    rotate_left
                    · show Act.put _ (some 37) _ = _
                      simp only [Act.put, List.setIfInBounds_toArray, List.set_cons_zero, List.set_cons_succ, i64_w, i32_w]
                      rfl
                    refine pure_ (i := 11) (N := some 38) (v := ?_) (a' := ?_) #[true, true, true, true, true, true, true, true, true, true, true, true] rfl rfl (any_of HT_.out (by kernel_rfl)) (fun _ _ _ h => h) (Or.inl ⟨by rfl, ?_⟩) ?_ ?_
                    rotate_left
                    · intro w'
                      go_simp
                      with_reducible rfl
                    rotate_left
                    · simp only [Act.put, List.setIfInBounds_toArray, List.set_cons_zero, List.set_cons_succ, i64_w, i32_w]
                      rfl
                    refine done_ (done_of HT_.out (by kernel_rfl)) ?_
                    try go_wp2
                    go_roundg k2
                    case measure => have := HJ2.out; have := HK2.out; omega
                    case rel => exact ⟨(wrap64 (x5_2 + 1)), (by first | rfl | (simp; done) | (simp [*]; done)), H', ⟨by have := HJ2.out; have := HK2.out; omega⟩, ⟨by (with_reducible repeat (first | refine blk_drewN ?_ _ | refine blk_drew ?_ | refine blk_alloc ?_ _)); exact BK276.out⟩, ⟨by (with_reducible repeat (first | refine blk_drewN ?_ _ | refine blk_drew ?_ | refine blk_alloc ?_ _)); exact BK277.out⟩, ⟨by repeat (first | (with_reducible first | exact HB.out | apply below_alloc | apply pw_below_drewN | apply below_drew1 | refine below_set ?_ GE276.out | refine below_set ?_ GE277.out) | exact HB.out)⟩⟩
                  · replace c18 := Bool.eq_false_iff.mpr c18
                    subst c18
                    have H1 : (some false) = some r := by rw [if_neg (show ¬ (false = true) by decide)] at H; exact H
                    clear H
                    have H := H1
                    clear H1
                    obtain rfl := Option.some.inj H
                    have hnb23 := NB276_277.out
                    have hnc23 := NB277_276.out
                    have hcz24_0 : wr.cell? ⟨gb276, 0, none⟩ = some (.int .i8 a0_0) := (blk_cell BK276.out 0).trans rfl
                    have hcz24_1 : wr.cell? ⟨gb276, 1, none⟩ = some (.slice A0_1 l0_1.length c0_1) := (blk_cell BK276.out 1).trans rfl
                    have hfz24_0 := blk_frozen BK276.out 0
                    have hfz24_1 := blk_frozen BK276.out 1
                    try go_wp2
                    have n0_ := Aside0.mk (blk_drew BK276.out)
                    have n1_ := Aside0.mk (blk_drew BK277.out)
                    have n2_ := Aside0.mk (below_drew1 HB.out)
                    clear BK276
                    clear BK277
                    clear HB
                    have BK276 := n0_
                    have BK277 := n1_
                    have HB := n2_
                    clear n0_ n1_ n2_
                    have p278 : 0 ≤ (x5_2 : Int) := of_decide_eq_true (by first | (with_reducible assumption) | assumption)
                    have q278 : x5_2 < (l0_1.length : Int) := of_decide_eq_true (by first | (with_reducible assumption) | assumption)
                    obtain ⟨ad278, A278_1, c278_1, e278, hx278_0, hx278_1, hl278_1, hi278_1⟩ := at_T43 HR0_1.out x5_2 p278 q278
                    have hw278_1 := hx278_1
                    have hw278_0 := hx278_0
                    cases e278
                    replace hx278_0 := (HB.out.cell (World.block_lt_of_cell? w _ hx278_0)).trans hx278_0
                    replace hx278_1 := (HB.out.cell (World.block_lt_of_cell? w _ hx278_1)).trans hx278_1
                    have HR278_1 := Aside0.mk hi278_1
                    have HC278_1 := Aside0.mk hl278_1
                    clear hi278_1 hl278_1
                    replace p278 := eq_true p278
                    replace q278 := eq_true q278
                    have p279 : 0 ≤ (x5_2 : Int) := of_decide_eq_true (by first | (with_reducible assumption) | assumption)
                    have q279 : x5_2 < (l1_1.length : Int) := of_decide_eq_true (by first | (with_reducible assumption) | assumption)
                    obtain ⟨ad279, A279_1, c279_1, e279, hx279_0, hx279_1, hl279_1, hi279_1⟩ := at_T43 HR1_1.out x5_2 p279 q279
                    have hw279_1 := hx279_1
                    have hw279_0 := hx279_0
                    cases e279
                    replace hx279_0 := (HB.out.cell (World.block_lt_of_cell? w _ hx279_0)).trans hx279_0
                    replace hx279_1 := (HB.out.cell (World.block_lt_of_cell? w _ hx279_1)).trans hx279_1
                    have HR279_1 := Aside0.mk hi279_1
                    have HC279_1 := Aside0.mk hl279_1
                    clear hi279_1 hl279_1
                    replace p279 := eq_true p279
                    replace q279 := eq_true q279
                    refine start_ (n := 12) (S := fun w' => w'.cell? ⟨gb276, 0, none⟩ = some (.int .i8 a0_0) ∧ w'.cell? ⟨gb276, 1, none⟩ = some (.slice (some ad278) l0_1.length c0_1) ∧ w'.cell? ⟨gb277, 0, none⟩ = some (.int .i8 a1_0) ∧ w'.cell? ⟨gb277, 1, none⟩ = some (.slice (some ad279) l1_1.length c1_1) ∧ w'.cell? (ad278.add ((x5_2).toNat * 2)) = some (.int .i8 ((rd_T43 l0_1 x5_2).f0)) ∧ w'.cell? ⟨(ad278.add ((x5_2).toNat * 2)).block, (ad278.add ((x5_2).toNat * 2)).off + 1, none⟩ = some (.slice A278_1 ((rd_T43 l0_1 x5_2).f1).length c278_1) ∧ w'.cell? (ad279.add ((x5_2).toNat * 2)) = some (.int .i8 ((rd_T43 l1_1 x5_2).f0)) ∧ w'.cell? ⟨(ad279.add ((x5_2).toNat * 2)).block, (ad279.add ((x5_2).toNat * 2)).off + 1, none⟩ = some (.slice A279_1 ((rd_T43 l1_1 x5_2).f1).length c279_1)) (ds := []) #[false, false, false, false, false, false, false, false, false, false, false, false] (by kernel_rfl) rfl rfl ⟨(blk_cell BK276.out 0).trans rfl, (blk_cell BK276.out 1).trans rfl, (blk_cell BK277.out 0).trans rfl, (blk_cell BK277.out 1).trans rfl, ((HB.out.cell (World.block_lt_of_cell? w _ hw278_0)).trans hw278_0), ((HB.out.cell (World.block_lt_of_cell? w _ hw278_1)).trans hw278_1), ((HB.out.cell (World.block_lt_of_cell? w _ hw279_0)).trans hw279_0), ((HB.out.cell (World.block_lt_of_cell? w _ hw279_1)).trans hw279_1)⟩ (fun hHeld => ?_); refine with_tabW lychgatelaw02_LikeType.tab6 lychgatelaw02_LikeType.bits6 (fun HT_ HW_ => ?_)
                    generalize wr.drew = w25 at BK276 BK277 HB HR278_1 HR279_1 hx278_0 hx278_1 hx279_0 hx279_1 hHeld ⊢
                    refine pure_ (i := 0) (N := some 27) (v := ?_) (a' := ?_) #[true, false, false, false, false, false, false, false, false, false, false, false] rfl rfl (any_of HT_.out (by kernel_rfl)) (fun _ _ _ h => h) (Or.inl ⟨by rfl, ?_⟩) ?_ ?_
                    rotate_left
                    · intro w'
                      go_simp
                      with_reducible rfl
                    rotate_left
                    · simp only [Act.put, List.setIfInBounds_toArray, List.set_cons_zero, List.set_cons_succ, i64_w, i32_w]
                      rfl
                    refine pure_ (i := 2) (N := some 29) (v := ?_) (a' := ?_) #[true, false, true, false, false, false, false, false, false, false, false, false] rfl rfl (any_of HT_.out (by kernel_rfl)) (fun _ _ _ h => h) (Or.inl ⟨by rfl, ?_⟩) ?_ ?_
                    rotate_left
                    · intro w'
                      go_simp
                      with_reducible rfl
                    rotate_left
                    · simp only [Act.put, List.setIfInBounds_toArray, List.set_cons_zero, List.set_cons_succ, i64_w, i32_w]
                      rfl
                    refine pure_ (i := 5) (N := some 32) (v := ?_) (a' := ?_) #[true, false, true, false, false, true, false, false, false, false, false, false] rfl rfl (any_of HT_.out (by kernel_rfl)) (fun _ _ _ h => h) (Or.inl ⟨by rfl, ?_⟩) ?_ ?_
                    rotate_left
                    · intro w'
                      go_simp
                      with_reducible rfl
                    rotate_left
                    · simp only [Act.put, List.setIfInBounds_toArray, List.set_cons_zero, List.set_cons_succ, i64_w, i32_w]
                      rfl
                    refine pure_ (i := 7) (N := some 34) (v := ?_) (a' := ?_) #[true, false, true, false, false, true, false, true, false, false, false, false] rfl rfl (any_of HT_.out (by kernel_rfl)) (fun _ _ _ h => h) (Or.inl ⟨by rfl, ?_⟩) ?_ ?_
                    rotate_left
                    · intro w'
                      go_simp
                      with_reducible rfl
                    rotate_left
                    · simp only [Act.put, List.setIfInBounds_toArray, List.set_cons_zero, List.set_cons_succ, i64_w, i32_w]
                      rfl
                    refine take_ (i := 1) (N := some 28) (v := ?_) (a' := ?_) #[true, true, true, false, false, true, false, true, false, false, false, false] rfl rfl (take_ofW HT_.out HW_.out (by kernel_rfl)) (fun _ _ _ h => h) (Or.inl ⟨by rfl, ?_⟩) hHeld ?_ ?_
                    rotate_left
                    · rintro w' ⟨s0, s1, s2, s3, s4, s5, s6, s7⟩
                      go_simp
                      with_reducible rfl
                    rotate_left
                    · simp only [Act.put, List.setIfInBounds_toArray, List.set_cons_zero, List.set_cons_succ, i64_w, i32_w]
                      rfl
                    refine pure_ (i := 3) (N := some 30) (v := ?_) (a' := ?_) #[true, true, true, true, false, true, false, true, false, false, false, false] rfl rfl (any_of HT_.out (by kernel_rfl)) (fun _ _ _ h => h) (Or.inl ⟨by rfl, ?_⟩) ?_ ?_
                    rotate_left
                    · intro w'
                      go_simp
                      with_reducible rfl
                    rotate_left
                    · simp only [Act.put, List.setIfInBounds_toArray, List.set_cons_zero, List.set_cons_succ, i64_w, i32_w]
                      rfl
                    refine take_ (i := 4) (N := some 31) (v := ?_) (a' := ?_) #[true, true, true, true, true, true, false, true, false, false, false, false] rfl rfl (take_ofW HT_.out HW_.out (by kernel_rfl)) (fun _ _ _ h => h) (Or.inl ⟨by rfl, ?_⟩) hHeld ?_ ?_
                    rotate_left
                    · rintro w' ⟨s0, s1, s2, s3, s4, s5, s6, s7⟩
                      go_simp
                      with_reducible rfl
                    rotate_left
                    · simp only [Act.put, List.setIfInBounds_toArray, List.set_cons_zero, List.set_cons_succ, i64_w, i32_w]
                      rfl
                    refine take_ (i := 6) (N := some 33) (v := ?_) (a' := ?_) #[true, true, true, true, true, true, true, true, false, false, false, false] rfl rfl (take_ofW HT_.out HW_.out (by kernel_rfl)) (fun _ _ _ h => h) (Or.inl ⟨by rfl, ?_⟩) hHeld ?_ ?_
                    rotate_left
                    · rintro w' ⟨s0, s1, s2, s3, s4, s5, s6, s7⟩
                      go_simp
                      with_reducible rfl
                    rotate_left
                    · simp only [Act.put, List.setIfInBounds_toArray, List.set_cons_zero, List.set_cons_succ, i64_w, i32_w]
                      rfl
                    refine pure_ (i := 8) (N := some 35) (v := ?_) (a' := ?_) #[true, true, true, true, true, true, true, true, true, false, false, false] rfl rfl (any_of HT_.out (by kernel_rfl)) (fun _ _ _ h => h) (Or.inl ⟨by rfl, ?_⟩) ?_ ?_
                    rotate_left
                    · intro w'
                      go_simp
                      with_reducible rfl
                    rotate_left
                    · simp only [Act.put, List.setIfInBounds_toArray, List.set_cons_zero, List.set_cons_succ, i64_w, i32_w]
                      rfl
                    refine take_ (i := 9) (N := some 36) (v := ?_) (a' := ?_) #[true, true, true, true, true, true, true, true, true, true, false, false] rfl rfl (take_ofW HT_.out HW_.out (by kernel_rfl)) (fun _ _ _ h => h) (Or.inl ⟨by rfl, ?_⟩) hHeld ?_ ?_
                    rotate_left
                    · rintro w' ⟨s0, s1, s2, s3, s4, s5, s6, s7⟩
                      go_simp
                      with_reducible rfl
                    rotate_left
                    · simp only [Act.put, List.setIfInBounds_toArray, List.set_cons_zero, List.set_cons_succ, i64_w, i32_w]
                      rfl
                    refine one_ (i := 10) (N := some 37) #[true, true, true, true, true, true, true, true, true, true, true, false] rfl rfl (one_of HT_.out (by kernel_rfl)) (by decide) (fun K hK => ?_)
                    refine goes_ Tryd.func15 (by kernel_rfl) rfl #[.agg #[.int .i8 ((rd_T43 l0_1 x5_2).f0), .slice A278_1 ((rd_T43 l0_1 x5_2).f1).length c278_1], .agg #[.int .i8 ((rd_T43 l1_1 x5_2).f0), .slice A279_1 ((rd_T43 l1_1 x5_2).f1).length c279_1]] (by rfl) rfl rfl (by (try simp only [List.map_toArray, List.map_cons, List.map_nil]); first | done | rfl | (simp only [List.length_drop, List.length_take]; rfl)) ?_
                    with_reducible refine (ih k2 (by have := HJ2.out; have := HK2.out; omega) ((rd_T43 l0_1 x5_2).f0) _ _ ((rd_T43 l0_1 x5_2).f1) ((rd_T43 l1_1 x5_2).f0) _ _ ((rd_T43 l1_1 x5_2).f1) false _ ?side1 ?side2 ?side3 ?side4 A17.out).mono ?_
                    (case side1 => repeat (first | exact (Kd.C_below HR278_1.out HB.out) | (with_reducible refine Kd.C_alloc ?_ _) | (with_reducible refine Kd.C_drewN ?_ _) | (with_reducible refine Kd.C_drew ?_)))
                    (case side2 => exact HC278_1.out)
                    (case side3 => repeat (first | exact (Kd.C_below HR279_1.out HB.out) | (with_reducible refine Kd.C_alloc ?_ _) | (with_reducible refine Kd.C_drewN ?_ _) | (with_reducible refine Kd.C_drew ?_)))
                    (case side4 => exact HC279_1.out)
                    rintro e w26 ⟨rfl, hb⟩
                    refine ⟨_, rfl, ?_⟩
                    have n0_ := Aside0.mk (blk_below (g := gb276) (o := .cells #[.int .i8 a0_0, .slice (some ad278) l0_1.length c0_1] 43 (0, 0)) (by (with_reducible repeat (first | refine blk_drewN ?_ _ | refine blk_drew ?_ | refine blk_alloc ?_ _)); exact BK276.out) hb)
                    have n1_ := Aside0.mk (blk_below (g := gb277) (o := .cells #[.int .i8 a1_0, .slice (some ad279) l1_1.length c1_1] 43 (0, 0)) (by (with_reducible repeat (first | refine blk_drewN ?_ _ | refine blk_drew ?_ | refine blk_alloc ?_ _)); exact BK277.out) hb)
                    have n2_ := Aside0.mk (below_step (by repeat (first | (with_reducible first | exact HB.out | apply below_alloc | apply pw_below_drewN | apply below_drew1 | refine below_set ?_ GE276.out | refine below_set ?_ GE277.out) | exact HB.out)) hb)
                    clear BK276
                    clear BK277
                    clear HB
                    have BK276 := n0_
                    have BK277 := n1_
                    have HB := n2_
                    clear n0_ n1_ n2_
                    (try clear hb)
                    (try clear hb2)
                    (try clear hk)
                    (try clear hi)
                    refine hK.out _ _ ⟨(blk_cell BK276.out 0).trans rfl, (blk_cell BK276.out 1).trans rfl, (blk_cell BK277.out 0).trans rfl, (blk_cell BK277.out 1).trans rfl, ((HB.out.cell (World.block_lt_of_cell? w _ hw278_0)).trans hw278_0), ((HB.out.cell (World.block_lt_of_cell? w _ hw278_1)).trans hw278_1), ((HB.out.cell (World.block_lt_of_cell? w _ hw279_0)).trans hw279_0), ((HB.out.cell (World.block_lt_of_cell? w _ hw279_1)).trans hw279_1)⟩ (fun hHeld => ?_)
                    clear hK K
                    refine norm_ (a' := ?_) ?_ ?_
                    rotate_left
                    · show Act.put _ (some 37) _ = _
                      simp only [Act.put, List.setIfInBounds_toArray, List.set_cons_zero, List.set_cons_succ, i64_w, i32_w]
                      rfl
                    refine pure_ (i := 11) (N := some 38) (v := ?_) (a' := ?_) #[true, true, true, true, true, true, true, true, true, true, true, true] rfl rfl (any_of HT_.out (by kernel_rfl)) (fun _ _ _ h => h) (Or.inl ⟨by rfl, ?_⟩) ?_ ?_
                    rotate_left
                    · intro w'
                      go_simp
                      with_reducible rfl
                    rotate_left
                    · simp only [Act.put, List.setIfInBounds_toArray, List.set_cons_zero, List.set_cons_succ, i64_w, i32_w]
                      rfl
                    refine done_ (done_of HT_.out (by kernel_rfl)) ?_
                    try go_wp2
                    go_ret
                    exact ⟨by first | rfl | (simp [errW_none, errW_some] <;> rfl) | (simp [*, errW_none, errW_some] <;> rfl), by repeat (first | (with_reducible first | exact HB.out | apply below_alloc | apply pw_below_drewN | apply below_drew1 | refine below_set ?_ GE276.out | refine below_set ?_ GE277.out) | exact HB.out)⟩
                · rw [if_neg c16] at H
                  exact absurd H (by simp)
              · rw [if_neg c15] at H
                exact absurd H (by simp)
            · rw [if_neg c14] at H
              have c14b0 : decide (x5_2 < (l0_1.length : Int)) = false := decide_eq_false c14
              clear c14
              obtain rfl := Option.some.inj H
              have hnb27 := NB276_277.out
              have hnc27 := NB277_276.out
              have hcz28_0 : wr.cell? ⟨gb276, 0, none⟩ = some (.int .i8 a0_0) := (blk_cell BK276.out 0).trans rfl
              have hcz28_1 : wr.cell? ⟨gb276, 1, none⟩ = some (.slice A0_1 l0_1.length c0_1) := (blk_cell BK276.out 1).trans rfl
              have hfz28_0 := blk_frozen BK276.out 0
              have hfz28_1 := blk_frozen BK276.out 1
              go_wp2
              go_ret
              exact ⟨by first | rfl | (simp [errW_none, errW_some] <;> rfl) | (simp [*, errW_none, errW_some] <;> rfl), by repeat (first | (with_reducible first | exact HB.out | apply below_alloc | apply pw_below_drewN | apply below_drew1 | refine below_set ?_ GE276.out | refine below_set ?_ GE277.out) | exact HB.out)⟩
end Go.Proofs.YtjmpejbciniceaaDoor.X
namespace Go.Proofs.YtjmpejbciniceaaDoor.X
open Go.RowKit Go.Proofs.YtjmpejbciniceaaDoorW.PrintWords Go.Proofs.YtjmpejbciniceaaDoorW.PrintLast Go.Proofs.YtjmpejbciniceaaDoorW.PrintMore
set_option linter.unusedVariables false
set_option linter.unusedSimpArgs false
set_option maxRecDepth 100000 in
set_option maxHeartbeats 3200000 in
theorem lfault_nil (w : World) : Calls Tryd.prog 14 #[.nilIface] w fun e w' => e = .returned (.tuple #[.agg #[.int .i64 0, .int .i64 0, .string ⟨#[]⟩], .bool true]) ∧ Below w.heap.size w w' := by
  have he : ∀ W : World, (binOp .eql 24 .nilIface .nilIface).run Tryd.prog W = .ok (.bool true) W := fun W => run_eql_nil_nil W 24 (by kernel_rfl)
  have K0 := Aside0.mk (heap_alloc_new w (.cells #[.int .i64 0, .int .i64 0, .string ⟨#[]⟩] 29))
  have HB : Aside0 (Below w.heap.size w (w.alloc (.cells #[.int .i64 0, .int .i64 0, .string ⟨#[]⟩] 29))) := .mk ((Below.refl _ _).alloc (Nat.le_refl _) _)
  go_enter Tryd.func14, Tryd.ntmps14
  go_wp2_with fail
  exact bodyPost_ret (results_list (rs := [.cell 2 29, .tmp 3]) rfl (by simp) (.cell w.heap.size 29 _ (0, 0) _ rfl K0.out Tryd.underlying29 rfl (by kernel_rfl) (.tmp .nil))) rfl ⟨rfl, HB.out⟩
set_option maxRecDepth 100000 in
set_option maxHeartbeats 3200000 in
theorem lfault_at (q : Nat) (k p : Int) (t : ByteArray) (w : World) (hq : w.heap[q]? = some (.cells #[.int .i64 k, .int .i64 p, .string t] 62 (0, 0))) (hg : HasErr w) (hk : k ≠ 0) :
    Calls Tryd.prog 14 #[.iface 60 (.pointer (some ⟨q, 0, none⟩))] w fun e w' => e = .returned (.tuple #[.agg #[.int .i64 k, .int .i64 p, .string t], .bool true]) ∧ Below w.heap.size w w' := by
  have he : ∀ W : World, (binOp .eql 24 (.iface 60 (.pointer (some ⟨q, 0, none⟩))) .nilIface).run Tryd.prog W = .ok (.bool false) W := fun W => run_eql_held_nil W 24 60 _ (by kernel_rfl)
  have hk2 : (k != 0) = true := by rw [bne_iff_ne]; exact hk
  have hB0 := rbelow2 w #[.int .i64 0, .int .i64 0, .string ⟨#[]⟩] #[.pointer none] 29 60
  have HB := Aside0.mk hB0
  have K0 := Aside0.mk (blk_alloc (heap_alloc_new w (.cells #[.int .i64 0, .int .i64 0, .string ⟨#[]⟩] 29)) (.cells #[.pointer none] 60))
  have K1 := Aside0.mk (rnew2 w (.cells #[.int .i64 0, .int .i64 0, .string ⟨#[]⟩] 29) #[.pointer none] 60)
  have KQ := Aside0.mk (blk_below hq hB0)
  have HG := Aside0.mk (hg.below hB0)
  have hql := blk_lt hq
  have hsz : ((w.alloc (.cells #[.int .i64 0, .int .i64 0, .string ⟨#[]⟩] 29)).alloc (.cells #[.pointer none] 60)).heap.size = w.heap.size + 1 + 1 := by simp
  clear hB0 hq hg
  go_enter Tryd.func14, Tryd.ntmps14
  go_wp2_with fail
  generalize ((w.alloc (.cells #[.int .i64 0, .int .i64 0, .string ⟨#[]⟩] 29)).alloc (.cells #[.pointer none] 60)) = wa at *
  have c1 : wa.cell? ⟨w.heap.size + 1, 0, none⟩ = some (.pointer none) := (blk_cell K1.out 0).trans rfl
  have z1 : wa.frozen? ⟨w.heap.size + 1, 0, none⟩ = false := blk_frozen K1.out 0
  refine (err_as ⟨q, 0, none⟩ ⟨w.heap.size + 1, 0, none⟩ (.pointer none) wa HG.out c1 z1).mono ?_
  rintro e w1 ⟨rfl, hw1⟩
  have hB1 : Below w.heap.size w w1 := by rw [hw1]; exact as_after HB.out (by omega) _ _ _ _ _ (by omega) _
  have hk0 : w1.heap[w.heap.size]? = some (.cells #[.int .i64 0, .int .i64 0, .string ⟨#[]⟩] 29 (0, 0)) := by
    rw [hw1]; exact blk_putf (blk_alloc (blk_alloc (blk_alloc (blk_alloc K0.out _) _) _) _) (by show w.heap.size ≠ w.heap.size + 1; omega)
  have hk1 : w1.heap[w.heap.size + 1]? = some (.cells #[.pointer (some ⟨q, 0, none⟩)] 60 (0, 0)) := by
    rw [hw1]; exact blk_put (cs := #[.pointer none]) (blk_alloc (blk_alloc (blk_alloc (blk_alloc K1.out _) _) _) _) 0 _ rfl
  have hkq : w1.heap[q]? = some (.cells #[.int .i64 k, .int .i64 p, .string t] 62 (0, 0)) := by
    rw [hw1]; exact blk_putf (blk_alloc (blk_alloc (blk_alloc (blk_alloc KQ.out _) _) _) _) (by show q ≠ w.heap.size + 1; omega)
  replace HB := Aside0.mk hB1
  replace K0 := Aside0.mk hk0
  replace K1 := Aside0.mk hk1
  replace KQ := Aside0.mk hkq
  clear hw1 hB1 hk0 hk1 hkq c1 z1 HG hsz
  have c1 := (blk_cell K1.out 0).trans rfl
  have d0 := (blk_cell KQ.out 0).trans rfl
  have d1 := (blk_cell KQ.out 1).trans rfl
  have d2 := (blk_cell KQ.out 2).trans rfl
  simp at c1 d0 d1 d2
  go_wp2_with fail
  refine wp_region_held_drew (S := fun w' => w'.cell? ⟨w.heap.size + 1, 0, none⟩ = some (.pointer (some ⟨q, 0, none⟩)) ∧ w'.cell? ⟨q, 0, none⟩ = some (.int .i64 k) ∧ w'.cell? ⟨q, 1, none⟩ = some (.int .i64 p) ∧ w'.cell? ⟨q, 2, none⟩ = some (.string t)) (by kernel_rfl) ⟨c1, d0, d1, d2⟩ (fun hHeld => ?_)
  have hD := (Below.refl w1.heap.size w1).drew
  replace HB := Aside0.mk (below_then HB.out HB.out.size hD)
  replace K0 := Aside0.mk (blk_below K0.out hD)
  clear hD c1 d0 d1 d2 he
  generalize w1.drew = w2 at *
  refine tK 22 0 hHeld ?_
  refine tK 23 1 hHeld ?_
  refine tK 24 2 hHeld ?_
  refine tK 25 3 hHeld ?_
  refine tK 26 4 hHeld ?_
  refine tK 27 5 hHeld ?_
  refine tK 28 6 hHeld ?_
  refine tK 29 7 hHeld ?_
  refine tK 30 8 hHeld ?_
  refine tK 31 9 hHeld ?_
  refine tK 32 10 hHeld ?_
  refine tK 33 11 hHeld ?_
  refine tK 34 12 hHeld ?_
  refine wpAnyH_ready (rs := [13]) (by kernel_rfl) (by simp) ?_
  refine AllReadyH.cons rfl (fun K hK => ?_) AllReadyH.nil
  have c0 := (blk_cell K0.out 0).trans rfl
  have c1 := (blk_cell K0.out 1).trans rfl
  have c2 := (blk_cell K0.out 2).trans rfl
  have z0 := blk_frozen K0.out 0
  have z1 := blk_frozen K0.out 1
  have z2 := blk_frozen K0.out 2
  simp at c0 c1 c2
  go_simp
  clear c0 c1 c2 z0 z1 z2
  have far : ∀ (b o : Nat) (v : Value), b ≠ w.heap.size → w2.cell? ⟨b, o, none⟩ = some v → (((w2.setCell ⟨w.heap.size, 0, none⟩ (.int .i64 k)).setCell ⟨w.heap.size, 1, none⟩ (.int .i64 p)).setCell ⟨w.heap.size, 2, none⟩ (.string t)).cell? ⟨b, o, none⟩ = some v := fun b o v hb hv => by
    rw [World.cell?_setCell_far _ _ _ _ (by show w.heap.size ≠ b; omega), World.cell?_setCell_far _ _ _ _ (by show w.heap.size ≠ b; omega), World.cell?_setCell_far _ _ _ _ (by show w.heap.size ≠ b; omega)]
    exact hv
  refine hK.out _ _ ⟨far _ _ _ (by omega) hHeld.1, far _ _ _ (by omega) hHeld.2.1, far _ _ _ (by omega) hHeld.2.2.1, far _ _ _ (by omega) hHeld.2.2.2⟩ (fun hHeld => nA ?_)
  clear hK K far
  refine tK 3 14 hHeld ?_
  refine wpAnyH_done (by kernel_rfl) ?_ _
  go_wp2_with fail
  exact bodyPost_ret (results_list (rs := [.cell 2 29, .tmp 3]) rfl (by simp) (.cell w.heap.size 29 _ (0, 0) _ rfl (put_three K0.out _ _ _) Tryd.underlying29 rfl (by kernel_rfl) (.tmp .nil))) rfl ⟨rfl, ((HB.out.setCell (Nat.le_refl _) _).setCell (Nat.le_refl _) _).setCell (Nat.le_refl _) _⟩
end Go.Proofs.YtjmpejbciniceaaDoor.X
namespace Go.Proofs.YtjmpejbciniceaaDoor.X
open Go.RowKit Go.Proofs.YtjmpejbciniceaaDoorW.PrintWords Go.Proofs.YtjmpejbciniceaaDoorW.PrintLast Go.Proofs.YtjmpejbciniceaaDoorW.PrintMore
set_option linter.unusedVariables false
set_option linter.unusedSimpArgs false
mutual
def fits : S43 → Prop
  | ⟨_, l⟩ => l.length ≤ 9223372036854775807 ∧ fitsL l
def fitsL : List S43 → Prop
  | [] => True
  | x :: l => fits x ∧ fitsL l
end
theorem fits_eq (x : S43) : fits x = (x.f1.length ≤ 9223372036854775807 ∧ fitsL x.f1) := by cases x; rw [fits]
theorem fitsL_get {l : List S43} (h : fitsL l) (i : Nat) (hi : i < l.length) : fits (rd_T43 l i) := by
  induction l generalizing i with
  | nil => simp at hi
  | cons x l ih =>
    rw [fitsL] at h
    cases i with
    | zero => simpa [rd_T43] using h.1
    | succ i =>
      have := ih h.2 i (by simpa using hi)
      simpa [rd_T43] using this
theorem fitsL_of {l : List S43} (h : ∀ i, i < l.length → fits (rd_T43 l i)) : fitsL l := by
  induction l with
  | nil => rw [fitsL]; trivial
  | cons x l ih =>
    rw [fitsL]
    refine ⟨by simpa [rd_T43] using h 0 (by simp), ih fun i hi => ?_⟩
    have := h (i + 1) (by simpa using hi)
    simpa [rd_T43] using this
theorem fits_of_C (n : Nat) : ∀ (l : List S43) (w : World) (A : Option Addr), nodesL l < n → Kd.C k43 w A l.length l → l.length ≤ 9223372036854775807 ∧ fitsL l := by
  induction n with
  | zero => intro l w A h; omega
  | succ n ih =>
    intro l w A hn h
    refine ⟨h.2.1, fitsL_of fun i hi => ?_⟩
    obtain ⟨ad, A1, c1, _, _, _, _, h2⟩ := at_T43 h (i : Int) (by omega) (by omega)
    have := nodesL_rd l i hi
    rw [fits_eq]
    exact ih _ w A1 (by omega) h2
theorem likeL_drop (l m : List S43) (i : Nat) (h : i < l.length) (h' : i < m.length) : likeL (l.drop i) (m.drop i) = (likeB (rd_T43 l i) (rd_T43 m i) && likeL (l.drop (i + 1)) (m.drop (i + 1))) := by
  rw [drop_rd l i h, drop_rd m i h', likeL]
theorem LikeType_ev (n : Nat) : ∀ (a b : S43), nodes a < n → fits a → Ev (fun f => lychgatelaw02_LikeType.f f a.f0 a.f1 b.f0 b.f1) (likeB a b) := by
  induction n with
  | zero => intro a b h; omega
  | succ n ih =>
  intro a b hn hfit
  rw [fits_eq] at hfit
  by_cases e : a.f0 = b.f0
  rotate_left
  · refine Ev.step (f := fun f => lychgatelaw02_LikeType.j0 f true a.f0 a.f1 b.f0 b.f1) (fun f => by simp only [lychgatelaw02_LikeType.f]; rw [if_neg e]) (Ev.step (f := fun _ => some false) (fun f => by simp [lychgatelaw02_LikeType.j0]) (Ev_eq (Ev.now _) (by rw [likeB_eq]; simp [e])))
  refine Ev.step (f := fun f => lychgatelaw02_LikeType.j0 f ((a.f1.length : Int) != (b.f1.length : Int)) a.f0 a.f1 b.f0 b.f1) (fun f => by simp only [lychgatelaw02_LikeType.f]; rw [if_pos e]) ?_
  by_cases hl : a.f1.length = b.f1.length
  rotate_left
  · have hne : ((a.f1.length : Int) != (b.f1.length : Int)) = true := by rw [bne_iff_ne]; omega
    refine Ev.step (f := fun _ => some false) (fun f => by simp only [lychgatelaw02_LikeType.j0]; rw [if_pos hne]) (Ev_eq (Ev.now _) ?_)
    cases h : likeB a b with
    | false => rfl
    | true =>
      have := (like_iff a b).1 h
      rw [this] at hl
      exact absurd rfl hl
  have heq : ((a.f1.length : Int) != (b.f1.length : Int)) = false := by rw [bne_eq_false_iff_eq]; omega
  refine Ev.step (f := fun f => lychgatelaw02_LikeType.l0 f 0 a.f0 a.f1 b.f0 b.f1) (fun f => by simp only [lychgatelaw02_LikeType.j0]; rw [heq]; rfl) ?_
  have loop : ∀ (d i : Nat), i ≤ a.f1.length → a.f1.length - i = d → Ev (fun f => lychgatelaw02_LikeType.l0 f (i : Int) a.f0 a.f1 b.f0 b.f1) (likeL (a.f1.drop i) (b.f1.drop i)) := by
    intro d
    induction d with
    | zero =>
      intro i hi hd
      refine Ev.step (f := fun _ => some true) (fun f => by simp only [lychgatelaw02_LikeType.l0]; rw [if_neg (by omega)]) (Ev_eq (Ev.now _) ?_)
      rw [List.drop_eq_nil_of_le (by omega), List.drop_eq_nil_of_le (by omega), likeL]
    | succ d ihd =>
      intro i hi hd
      have hlt : i < a.f1.length := by omega
      have hr := nodesL_rd a.f1 i hlt
      rw [nodes_eq] at hn
      have e1 := ih (rd_T43 a.f1 i) (rd_T43 b.f1 i) (by rw [nodes_eq]; omega) (fitsL_get hfit.2 i hlt)
      refine Ev.step (f := fun f => (lychgatelaw02_LikeType.f f (rd_T43 a.f1 i).f0 (rd_T43 a.f1 i).f1 (rd_T43 b.f1 i).f0 (rd_T43 b.f1 i).f1).bind fun t => if t = true then lychgatelaw02_LikeType.l0 f ((i + 1 : Nat) : Int) a.f0 a.f1 b.f0 b.f1 else some false) (fun f => ?_) (Ev.bind e1 ?_)
      · simp only [lychgatelaw02_LikeType.l0]
        rw [if_pos (by omega), if_pos (by omega), if_pos (by omega), w64 ((i : Int) + 1) (by omega) (by omega)]
        rfl
      · rw [likeL_drop a.f1 b.f1 i hlt (by omega)]
        cases likeB (rd_T43 a.f1 i) (rd_T43 b.f1 i) with
        | true => simpa using ihd (i + 1) (by omega) (by omega)
        | false => simpa using Ev.now _
  refine Ev_eq (loop a.f1.length 0 (by omega) rfl) ?_
  rw [likeB_eq]
  simp [e]
theorem IsT.fits {w : World} {v : Value} {t : S43} (h : IsT w v t) : fits t := by
  obtain ⟨A, c, rfl, h1, h2⟩ := h
  rw [fits_eq]
  exact fits_of_C (nodesL t.f1 + 1) t.f1 w A (by omega) h2
theorem LikeType_calls {a b : S43} {va vb : Value} {w : World} (ha : IsT w va a) (hb : IsT w vb b) : Calls Tryd.prog 15 #[va, vb] w fun e w' => e = .returned (.bool (likeB a b)) ∧ Below w.heap.size w w' := by
  have hf := ha.fits
  obtain ⟨A, c, rfl, h1, h2⟩ := ha
  obtain ⟨B, d, rfl, h3, h4⟩ := hb
  obtain ⟨k, hk⟩ := (LikeType_ev (nodes a + 1) a b (by omega) hf).rounds
  exact lychgatelaw02_LikeType.calls k a.f0 A c a.f1 b.f0 B d b.f1 _ w h2 h1 h4 h3 hk
end Go.Proofs.YtjmpejbciniceaaDoor.X
namespace Go.Proofs.YtjmpejbciniceaaDoor.X
open Go.RowKit Go.Proofs.YtjmpejbciniceaaDoorW.PrintWords Go.Proofs.YtjmpejbciniceaaDoorW.PrintLast Go.Proofs.YtjmpejbciniceaaDoorW.PrintMore
set_option linter.unusedVariables false
set_option linter.unusedSimpArgs false
structure TAns where
  t : S43
  j : Int
  e : Int
  p : Int
  s : ByteArray
def ansOf (xs : List S37) (i : Nat) : Except (List Tk) (S43 × List Tk) → TAns
  | .ok x => if checkI x.1 = 0 then ⟨x.1, ((xs.length - x.2.length : Nat) : Int), 0, 0, ⟨#[]⟩⟩ else ⟨z43, 0, checkI x.1, ((xs[i]?).getD z37).f3, ⟨#[]⟩⟩
  | .error u => ⟨z43, 0, 40, wrAt xs (xs.length - u.length), wrWd xs (xs.length - u.length)⟩
theorem toks_back {xs : List S37} {j : Nat} (h : j ≤ xs.length) : xs.length - (toks xs j).length = j := by
  have : (toks xs j).length = xs.length - j := by simp [toks]
  omega
def ErrIs (w : World) (ev : Value) (e p : Int) (s : ByteArray) : Prop :=
  (ev = .nilIface ∧ e = 0 ∧ p = 0 ∧ s = ⟨#[]⟩) ∨ (∃ q, ev = .iface 60 (.pointer (some ⟨q, 0, none⟩)) ∧ w.heap[q]? = some (.cells #[.int .i64 e, .int .i64 p, .string s] 62 (0, 0)) ∧ e ≠ 0)
theorem ErrIs.below {w w' : World} {ev : Value} {e p : Int} {s : ByteArray} (h : ErrIs w ev e p s) (hb : Below w.heap.size w w') : ErrIs w' ev e p s := by
  rcases h with h | ⟨q, h1, h2, h3⟩
  · exact .inl h
  · exact .inr ⟨q, h1, blk_below h2 hb, h3⟩
theorem lfault_any {w : World} {ev : Value} {e p : Int} {s : ByteArray} (h : ErrIs w ev e p s) (hg : HasErr w) : Calls Tryd.prog 14 #[ev] w fun en w' => en = .returned (.tuple #[.agg #[.int .i64 e, .int .i64 p, .string s], .bool true]) ∧ Below w.heap.size w w' := by
  rcases h with ⟨rfl, rfl, rfl, rfl⟩ | ⟨q, rfl, h2, h3⟩
  · exact lfault_nil w
  · exact lfault_at q e p s w h2 hg h3
theorem rpost_ans {xs : List S37} {i : Nat} {w w' : World} {r : Except (List Tk) (S43 × List Tk)} {en : Ending} (h : RPost xs i w r en w') {a : TAns} (ha : a = ansOf xs i r) :
    Below w.heap.size w w' ∧ ∃ v ev, en = .returned (.tuple #[.agg #[.int .i8 a.t.f0, v], .int .i64 a.j, ev]) ∧ k43.R 43 w' w.heap.size (fun _ => True) v a.t.f1 ∧ ErrIs w' ev a.e a.p a.s := by
  subst ha
  obtain ⟨hB, h⟩ := h
  refine ⟨hB, ?_⟩
  cases r with
  | error u =>
    obtain ⟨q, j, rfl, hj, rfl, hf⟩ := h
    refine ⟨_, _, rfl, Kd.R_nil _ _ _ _ _, .inr ⟨q, rfl, ?_, by show (40 : Int) ≠ 0; decide⟩⟩
    show w'.heap[q]? = some (.cells #[.int .i64 40, .int .i64 (wrAt xs (xs.length - (toks xs j).length)), .string (wrWd xs (xs.length - (toks xs j).length))] 62 (0, 0))
    rw [toks_back hj]
    exact hf
  | ok x =>
    obtain ⟨t, u⟩ := x
    rcases h with ⟨hc, v, j, rfl, hR, hj, hu⟩ | ⟨hc, q, rfl, hf⟩
    · replace hc : checkI t = 0 := hc
      replace hu : u = toks xs j := hu
      subst hu
      have e1 : ansOf xs i (.ok (t, toks xs j)) = ⟨t, (j : Int), 0, 0, ⟨#[]⟩⟩ := by
        show (if checkI t = 0 then _ else _) = _
        rw [if_pos hc, toks_back hj]
      rw [e1]
      exact ⟨v, .nilIface, rfl, hR, .inl ⟨rfl, rfl, rfl, rfl⟩⟩
    · replace hc : ¬ checkI t = 0 := hc
      have e1 : ansOf xs i (.ok (t, u)) = ⟨z43, 0, checkI t, ((xs[i]?).getD z37).f3, ⟨#[]⟩⟩ := by
        show (if checkI t = 0 then _ else _) = _
        rw [if_neg hc]
      rw [e1]
      exact ⟨_, _, rfl, Kd.R_nil _ _ _ _ _, .inr ⟨q, rfl, hf, hc⟩⟩
theorem rrpost_ans {xs : List S37} {i : Nat} {w w' : World} {r : Except (List Tk) (S43 × List Tk)} {en : Ending} (h : RRPost xs i w r en w') {a : TAns} (ha : a = ansOf xs i r) :
    Below w.heap.size w w' ∧ ∃ v, en = .returned (.tuple #[.agg #[.int .i8 a.t.f0, v], .int .i64 a.j, .agg #[.int .i64 a.e, .int .i64 a.p, .string a.s]]) ∧ k43.R 43 w' w.heap.size (fun _ => True) v a.t.f1 := by
  subst ha
  obtain ⟨hB, h⟩ := h
  refine ⟨hB, ?_⟩
  cases r with
  | error u =>
    obtain ⟨j, rfl, hj, rfl⟩ := h
    refine ⟨_, ?_, Kd.R_nil _ _ _ _ _⟩
    show _ = Ending.returned (.tuple #[.agg #[.int .i8 0, _], .int .i64 0, .agg #[.int .i64 40, .int .i64 (wrAt xs (xs.length - (toks xs j).length)), .string (wrWd xs (xs.length - (toks xs j).length))]])
    rw [toks_back hj]
  | ok x =>
    obtain ⟨t, u⟩ := x
    rcases h with ⟨hc, v, j, rfl, hR, hj, hu⟩ | ⟨hc, rfl⟩
    · replace hc : checkI t = 0 := hc
      replace hu : u = toks xs j := hu
      subst hu
      have e1 : ansOf xs i (.ok (t, toks xs j)) = ⟨t, (j : Int), 0, 0, ⟨#[]⟩⟩ := by
        show (if checkI t = 0 then _ else _) = _
        rw [if_pos hc, toks_back hj]
      rw [e1]
      exact ⟨v, rfl, hR⟩
    · replace hc : ¬ checkI t = 0 := hc
      have e1 : ansOf xs i (.ok (t, u)) = ⟨z43, 0, checkI t, ((xs[i]?).getD z37).f3, ⟨#[]⟩⟩ := by
        show (if checkI t = 0 then _ else _) = _
        rw [if_neg hc]
      rw [e1]
      exact ⟨_, rfl, Kd.R_nil _ _ _ _ _⟩
theorem row_empty {w : World} {base g : Nat} (h : w.heap[g]? = some (.cells #[] 37 (0, 0))) (hb : base ≤ g) : k37.R 37 w base (fun _ => True) (.slice (some ⟨g, 0, none⟩) 0 0) [] :=
  ⟨fun _ _ => trivial, [], ⟨rfl, .inr ⟨g, 0, #[], rfl, hb, h, Nat.le_refl _, by decide, rfl, rfl⟩⟩, rfl, fun j p hj => by simp at hj⟩
theorem word_made (W w : World) (base : Nat) (x : S37) (cs : List Value) (h : k37.K W x cs) : k37.M w base (fun _ => False) x cs := by rw [k37_open h]; exact k37_mkM w base _ x
section
open Go.ChangeShapes Go.WideShapes Go.ChangeAt
variable {H : Type} {enc : TypeId × Value → H} {w : World} {base : Nat} {spare : Nat → Bool} {held : Bool}
set_option maxRecDepth 100000 in
theorem T37_of_trod (fuel : Nat) : ∀ (cs : List Value) (x : DataW H × List MemPlace), DataW.trod enc Tryd.prog w base spare held fuel 37 cs = some x → ∃ v : S37, k37.K w v cs := by
  intro cs x h
  cases fuel with
  | zero => simp [DataW.trod] at h
  | succ fuel =>
  obtain ⟨xs, n, hq, rfl, hl, hx, hf⟩ := DataW.trod_struct Tryd.underlying37 h
  have h0 := hf 0 _ rfl
  have h1 := hf 1 _ rfl
  have h2 := hf 2 _ rfl
  have h3 := hf 3 _ rfl
  have hx6 : xs.length = 4 := hx
  rw [List.getElem?_eq_getElem (by omega)] at h0 h1 h2 h3
  obtain ⟨k, e0, _, -⟩ := DataW.trod_int Tryd.underlying35 h0
  obtain ⟨s, e1, _⟩ := DataW.trod_string Tryd.underlying9 h1
  obtain ⟨n2, e2, _, -⟩ := DataW.trod_int (show Tryd.prog.underlying 2 = some (.int .i64) by kernel_rfl) h2
  obtain ⟨n3, e3, _, -⟩ := DataW.trod_int Tryd.underlying3 h3
  have hc8 : cs.length = 4 := hl.trans (by kernel_rfl)
  match cs, hc8 with
  | [a0, a1, a2, a3], _ =>
    have q0 : a0 = .int .i8 k := by simpa using (show [a0] = [Value.int .i8 k] from e0)
    have q1 : a1 = .string s := by simpa using (show [a1] = [Value.string s] from e1)
    have q2 : a2 = .int .i64 n2 := by simpa using (show [a2] = [Value.int .i64 n2] from e2)
    have q3 : a3 = .int .i64 n3 := by simpa using (show [a3] = [Value.int .i64 n3] from e3)
    subst q0 q1 q2 q3
    exact ⟨⟨k, s, n2, n3⟩, k37_mk w ⟨k, s, n2, n3⟩⟩
theorem argWs {A : Option Addr} {n c : Nat} {x : DataW H} {ps : List MemPlace} (h : DataW.Trod enc Tryd.prog w base spare held 22 (.slice A n c) x ps) : ∃ l : List S37, n = l.length ∧ l.length ≤ c ∧ k37.C w A l.length l := by
  obtain ⟨fuel, hf⟩ := h
  obtain ⟨A', l, c', e, hlc, _, hC⟩ := row_of_trod k37 Tryd.underlying22 (by kernel_rfl) (fun m hm cs x h => T37_of_trod m cs x h) hf
  have e2 : Value.slice A n c = .slice A' l.length c' := by simpa [Value.cells] using e
  injection e2 with e3 e4 e5
  subst e3 e4 e5
  exact ⟨l, rfl, hlc, hC⟩
end
end Go.Proofs.YtjmpejbciniceaaDoor.X
