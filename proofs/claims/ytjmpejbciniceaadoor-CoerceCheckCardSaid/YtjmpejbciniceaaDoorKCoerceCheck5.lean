/- Texts of this claim, joined: GCheck, HSpec, HIs, HNodes2, HSpecR, HCo, FSame. -/
import Derived.Test.YtjmpejbciniceaaDoorKCoerceCheck1
import Derived.Test.YtjmpejbciniceaaDoorKCoerceCheck2
import Derived.Test.YtjmpejbciniceaaDoorKCoerceCheck3
import Derived.Test.YtjmpejbciniceaaDoorKCoerceCheck4
namespace Go.Proofs.YtjmpejbciniceaaDoor.X
open Go.RowKit Go.Proofs.YtjmpejbciniceaaDoorW.PrintWords Go.Proofs.YtjmpejbciniceaaDoorW.PrintLast Go.Proofs.YtjmpejbciniceaaDoorW.PrintMore
attribute [local go_sem] max2_int min2_int max_two min_two max_three min_three max_four min_four
set_option linter.unusedVariables false
set_option linter.unusedSimpArgs false
mutual
def lychgateref02_right.l0 : Nat → Int → Int → List (S43) → Option (Bool)
  | 0, _, _, _ => none
  | k + 1, x3, x171000, x171001 => if x3 < (x171001.length : Int) then (if 0 ≤ x3 then ((lychgateref02_right.f k ((rd_T43 x171001 x3).f0) ((rd_T43 x171001 x3).f1)).bind fun t173 => (if t173 = true then (lychgateref02_right.l0 k (wrap64 (x3 + 1)) x171000 x171001) else (some false))) else (none)) else (some true)
def lychgateref02_right.f : Nat → Int → List (S43) → Option (Bool)
  | 0, _, _ => none
  | k + 1, a0_0, l0_1 => (lychgateref02_Kids.f k a0_0).bind fun t171 => (if t171 = (l0_1.length : Int) then (lychgateref02_right.l0 k 0 a0_0 l0_1) else (some false))
end
theorem lychgateref02_right.mono_l : ∀ k, (∀ y0 y1, LeO (lychgateref02_right.f k y0 y1) (lychgateref02_right.f (k + 1) y0 y1)) ∧ (∀ y0 y1 y2, LeO (lychgateref02_right.l0 k y0 y1 y2) (lychgateref02_right.l0 (k + 1) y0 y1 y2))
  | 0 => ⟨fun _ _ r h => by simp [lychgateref02_right.f] at h, fun _ _ _ r h => by simp [lychgateref02_right.l0] at h⟩
  | k + 1 => by
    obtain ⟨ih0, ih1⟩ := lychgateref02_right.mono_l k
    refine ⟨?_, ?_⟩
    · intro y0 y1
      unfold lychgateref02_right.f
      repeat' first
      | (with_reducible exact ih0 _ _)
      | (with_reducible exact ih1 _ _ _)
      | (with_reducible exact lychgateref02_Kids.mono _ _)
      | (with_reducible exact LeO.refl _)
      | (with_reducible exact LeO.none _)
      | (with_reducible refine LeO.ite ?_ ?_)
      | (with_reducible refine LeO.bind ?_ (fun _ => ?_))
      | exact ih0 _ _
      | exact ih1 _ _ _
      | exact lychgateref02_Kids.mono _ _
      | exact LeO.none _
      | refine LeO.ite ?_ ?_
      | refine LeO.bind ?_ (fun _ => ?_)
    · intro y0 y1 y2
      unfold lychgateref02_right.l0
      repeat' first
      | (with_reducible exact ih0 _ _)
      | (with_reducible exact ih1 _ _ _)
      | (with_reducible exact lychgateref02_Kids.mono _ _)
      | (with_reducible exact LeO.refl _)
      | (with_reducible exact LeO.none _)
      | (with_reducible refine LeO.ite ?_ ?_)
      | (with_reducible refine LeO.bind ?_ (fun _ => ?_))
      | exact ih0 _ _
      | exact ih1 _ _ _
      | exact lychgateref02_Kids.mono _ _
      | exact LeO.none _
      | refine LeO.ite ?_ ?_
      | refine LeO.bind ?_ (fun _ => ?_)
theorem lychgateref02_right.mono : ∀ a0 a1 k, LeO (lychgateref02_right.f k a0 a1) (lychgateref02_right.f (k + 1) a0 a1) := by
  intro a0 a1 k
  obtain ⟨ih0, ih1⟩ := lychgateref02_right.mono_l k
  exact ih0 a0 a1
set_option maxHeartbeats 8000000 in
set_option maxRecDepth 100000 in
theorem lychgateref02_right.calls (k : Nat) : ∀ (a0_0 : Int) (A0_1 : Option Addr) (c0_1 : Nat) (l0_1 : List (S43)) (r : Bool) (w : World) (hr0_1 : Kd.C k43 w A0_1 l0_1.length l0_1) (hc0_1 : l0_1.length ≤ c0_1) (h : lychgateref02_right.f k a0_0 l0_1 = some r),
    Calls Tryd.prog 88 #[.agg #[.int .i8 a0_0, .slice A0_1 l0_1.length c0_1]] w fun e w' => e = .returned (.bool r) ∧ Below w.heap.size w w' := by
  induction k using Nat.strongRecOn with
  | _ k ih =>
  intro a0_0 A0_1 c0_1 l0_1 r w hr0_1 hc0_1 h
  cases k with
  | zero => exact absurd h (by simp [lychgateref02_right.f])
  | succ k =>
  simp only [lychgateref02_right.f] at h
  have hu43 := Tryd.underlying43
  have HR0_1 := Aside0.mk hr0_1
  have HC0_1 := Aside0.mk hc0_1
  clear hr0_1 hc0_1
  have HB := Aside0.mk (Below.refl w.heap.size w)
  have H : ((lychgateref02_Kids.f k a0_0).bind fun t171 => (if t171 = (l0_1.length : Int) then (lychgateref02_right.l0 k 0 a0_0 l0_1) else (some false))) = some r := h
  clear h
  replace H := Option.bind_eq_some_iff.mp H
  obtain ⟨t171, A20, H⟩ := H
  replace H : (if t171 = (l0_1.length : Int) then (lychgateref02_right.l0 k 0 a0_0 l0_1) else (some false)) = some r := H
  have A2 := Aside0.mk A20
  clear A20
  by_cases c3 : t171 = (l0_1.length : Int)
  · rw [if_pos c3] at H
    have c3b0 : (t171 == (l0_1.length : Int)) = true := beq_iff_eq.mpr c3
    have c3b1 : (t171 != (l0_1.length : Int)) = false := bne_eq_false_iff_eq.mpr c3
    clear c3
    have H' := Aside0.mk H
    clear H
    go_enter Tryd.func88, Tryd.ntmps88
    go_wp2_with (first | ((with_reducible refine gate_dst (N := 1) rfl ?_); refine box_event ?hg (N := 1) ?hd (cs := #[.int .i8 a0_0, .slice A0_1 l0_1.length c0_1]) (t := 43) ?hr ?_; (case hd => rfl); (case hg => rfl); (case hr => go_simp <;> rfl); intro gb170 hg w4 hbox hb; have n0_ := Aside0.mk (below_step HB.out hb); have n1_ := Aside0.mk (hbox); have n2_ := Aside0.mk ((by rw [hg]; exact (below_size HB.out) : w.heap.size ≤ gb170)); have n3_ := Aside0.mk ((by rw [hg]; exact (below_size HB.out) : w.heap.size ≤ gb170)); clear HB; have HB := n0_; have BK170 := n1_; have GW170 := n2_; have GE170 := n3_; clear n0_ n1_ n2_ n3_; clear hb hbox hg; have hcz5_0 : w4.cell? ⟨gb170, 0, none⟩ = some (.int .i8 a0_0) := (blk_cell BK170.out 0).trans rfl; have hcz5_1 : w4.cell? ⟨gb170, 1, none⟩ = some (.slice A0_1 l0_1.length c0_1) := (blk_cell BK170.out 1).trans rfl) | (go_at_call 120; (with_reducible refine (lychgateref02_Kids.calls k a0_0 t171 _ A2.out).mono ?_); rintro e w' ⟨rfl, ⟨nd, rfl⟩⟩; (try first | exact ⟨rfl, _, World.drewN_drewN _ _ _⟩ | exact ⟨rfl, _, Eq.trans (World.drewN_drewN _ _ _) (congrArg (World.drewN _) (Nat.add_assoc _ _ _))⟩)))
    repeat (go_quiet (first | ((with_reducible refine gate_dst (N := 1) rfl ?_); refine box_event ?hg (N := 1) ?hd (cs := #[.int .i8 a0_0, .slice A0_1 l0_1.length c0_1]) (t := 43) ?hr ?_; (case hd => rfl); (case hg => rfl); (case hr => go_simp <;> rfl); intro gb170 hg w4 hbox hb; have n0_ := Aside0.mk (below_step HB.out hb); have n1_ := Aside0.mk (hbox); have n2_ := Aside0.mk ((by rw [hg]; exact (below_size HB.out) : w.heap.size ≤ gb170)); have n3_ := Aside0.mk ((by rw [hg]; exact (below_size HB.out) : w.heap.size ≤ gb170)); clear HB; have HB := n0_; have BK170 := n1_; have GW170 := n2_; have GE170 := n3_; clear n0_ n1_ n2_ n3_; clear hb hbox hg; have hcz5_0 : w4.cell? ⟨gb170, 0, none⟩ = some (.int .i8 a0_0) := (blk_cell BK170.out 0).trans rfl; have hcz5_1 : w4.cell? ⟨gb170, 1, none⟩ = some (.slice A0_1 l0_1.length c0_1) := (blk_cell BK170.out 1).trans rfl) | (go_at_call 120; (with_reducible refine (lychgateref02_Kids.calls k a0_0 t171 _ A2.out).mono ?_); rintro e w' ⟨rfl, ⟨nd, rfl⟩⟩; (try first | exact ⟨rfl, _, World.drewN_drewN _ _ _⟩ | exact ⟨rfl, _, Eq.trans (World.drewN_drewN _ _ _) (congrArg (World.drewN _) (Nat.add_assoc _ _ _))⟩))); try go_wp2_with (first | ((with_reducible refine gate_dst (N := 1) rfl ?_); refine box_event ?hg (N := 1) ?hd (cs := #[.int .i8 a0_0, .slice A0_1 l0_1.length c0_1]) (t := 43) ?hr ?_; (case hd => rfl); (case hg => rfl); (case hr => go_simp <;> rfl); intro gb170 hg w4 hbox hb; have n0_ := Aside0.mk (below_step HB.out hb); have n1_ := Aside0.mk (hbox); have n2_ := Aside0.mk ((by rw [hg]; exact (below_size HB.out) : w.heap.size ≤ gb170)); have n3_ := Aside0.mk ((by rw [hg]; exact (below_size HB.out) : w.heap.size ≤ gb170)); clear HB; have HB := n0_; have BK170 := n1_; have GW170 := n2_; have GE170 := n3_; clear n0_ n1_ n2_ n3_; clear hb hbox hg; have hcz5_0 : w4.cell? ⟨gb170, 0, none⟩ = some (.int .i8 a0_0) := (blk_cell BK170.out 0).trans rfl; have hcz5_1 : w4.cell? ⟨gb170, 1, none⟩ = some (.slice A0_1 l0_1.length c0_1) := (blk_cell BK170.out 1).trans rfl) | (go_at_call 120; (with_reducible refine (lychgateref02_Kids.calls k a0_0 t171 _ A2.out).mono ?_); rintro e w' ⟨rfl, ⟨nd, rfl⟩⟩; (try first | exact ⟨rfl, _, World.drewN_drewN _ _ _⟩ | exact ⟨rfl, _, Eq.trans (World.drewN_drewN _ _ _) (congrArg (World.drewN _) (Nat.add_assoc _ _ _))⟩))))
    go_loopg [3] k (fun kq v3 w' => ∃ (x3_1 : Int), v3 = .int .i64 x3_1 ∧ Aside0 (lychgateref02_right.l0 kq x3_1 a0_0 l0_1 = some r) ∧ Aside0 (kq ≤ k) ∧ Aside0 (w'.heap[gb170]? = some (.cells #[.int .i8 a0_0, (.slice A0_1 l0_1.length c0_1)] 43 (0, 0))) ∧ Aside0 (Below w.heap.size w w'))
    case atStart => exact ⟨(0), (by first | rfl | simp [*]), H', ⟨Nat.le_refl _⟩, ⟨BK170.out⟩, ⟨by repeat (first | (with_reducible first | exact HB.out | apply below_alloc | apply pw_below_drewN | apply below_drew1 | refine below_set ?_ GE170.out) | exact HB.out)⟩⟩
    case round =>
      clear H'
      try clear p2
      try clear c3
      try clear c3b0
      try clear c3b1
      try clear hcz5_0 hcz5_1
      obtain ⟨x3_1, rfl, HA, HK1, BK170, HB⟩ := hrel
      cases gk with
      | zero => exact absurd HA.out (by simp [lychgateref02_right.l0])
      | succ k1 =>
        have H := HA.out
        clear HA
        simp only [lychgateref02_right.l0] at H
        by_cases c6 : x3_1 < (l0_1.length : Int)
        · rw [if_pos c6] at H
          have c6b0 : decide (x3_1 < (l0_1.length : Int)) = true := decide_eq_true c6
          clear c6
          by_cases c7 : 0 ≤ x3_1
          · rw [if_pos c7] at H
            have c7b0 : decide (0 ≤ x3_1) = true := decide_eq_true c7
            clear c7
            replace H := Option.bind_eq_some_iff.mp H
            obtain ⟨t173, A80, H⟩ := H
            replace H : (if t173 = true then (lychgateref02_right.l0 k1 (wrap64 (x3_1 + 1)) a0_0 l0_1) else (some false)) = some r := H
            have A8 := Aside0.mk A80
            clear A80
            by_cases c9 : t173 = true
            · subst c9
              have H1 : (lychgateref02_right.l0 k1 (wrap64 (x3_1 + 1)) a0_0 l0_1) = some r := by rw [if_pos rfl] at H; exact H
              clear H
              have H := H1
              clear H1
              have H' := Aside0.mk H
              clear H
              have hcz10_0 : wr.cell? ⟨gb170, 0, none⟩ = some (.int .i8 a0_0) := (blk_cell BK170.out 0).trans rfl
              have hcz10_1 : wr.cell? ⟨gb170, 1, none⟩ = some (.slice A0_1 l0_1.length c0_1) := (blk_cell BK170.out 1).trans rfl
              have p172 : 0 ≤ (x3_1 : Int) := of_decide_eq_true (by first | (with_reducible assumption) | assumption)
              have q172 : x3_1 < (l0_1.length : Int) := of_decide_eq_true (by first | (with_reducible assumption) | assumption)
              obtain ⟨ad172, A172_1, c172_1, e172, hx172_0, hx172_1, hl172_1, hi172_1⟩ := at_T43 HR0_1.out x3_1 p172 q172
              cases e172
              replace hx172_0 := (HB.out.cell (World.block_lt_of_cell? w _ hx172_0)).trans hx172_0
              replace hx172_1 := (HB.out.cell (World.block_lt_of_cell? w _ hx172_1)).trans hx172_1
              have HR172_1 := Aside0.mk hi172_1
              have HC172_1 := Aside0.mk hl172_1
              clear hi172_1 hl172_1
              replace p172 := eq_true p172
              replace q172 := eq_true q172
              go_wp2_with (first | (go_at_call 88; (with_reducible refine (ih k1 (by have := HK1.out; omega) ((rd_T43 l0_1 x3_1).f0) _ _ ((rd_T43 l0_1 x3_1).f1) true _ ?side1 ?side2 A8.out).mono ?_); (case side1 => repeat (first | exact (Kd.C_below HR172_1.out HB.out) | (with_reducible refine Kd.C_alloc ?_ _) | (with_reducible refine Kd.C_drewN ?_ _) | (with_reducible refine Kd.C_drew ?_))); (case side2 => exact HC172_1.out); rintro e w11 ⟨rfl, hb⟩; have n0_ := Aside0.mk (blk_below (g := gb170) (o := .cells #[.int .i8 a0_0, .slice (some ad172) l0_1.length c0_1] 43 (0, 0)) BK170.out hb); have n1_ := Aside0.mk (below_step HB.out hb); clear BK170; clear HB; have BK170 := n0_; have HB := n1_; clear n0_ n1_; (try clear hb); (try clear hb2); (try clear hk); (try clear hi)))
              repeat (go_quiet (first | (go_at_call 88; (with_reducible refine (ih k1 (by have := HK1.out; omega) ((rd_T43 l0_1 x3_1).f0) _ _ ((rd_T43 l0_1 x3_1).f1) true _ ?side1 ?side2 A8.out).mono ?_); (case side1 => repeat (first | exact (Kd.C_below HR172_1.out HB.out) | (with_reducible refine Kd.C_alloc ?_ _) | (with_reducible refine Kd.C_drewN ?_ _) | (with_reducible refine Kd.C_drew ?_))); (case side2 => exact HC172_1.out); rintro e w11 ⟨rfl, hb⟩; have n0_ := Aside0.mk (blk_below (g := gb170) (o := .cells #[.int .i8 a0_0, .slice (some ad172) l0_1.length c0_1] 43 (0, 0)) BK170.out hb); have n1_ := Aside0.mk (below_step HB.out hb); clear BK170; clear HB; have BK170 := n0_; have HB := n1_; clear n0_ n1_; (try clear hb); (try clear hb2); (try clear hk); (try clear hi))); try go_wp2_with (first | (go_at_call 88; (with_reducible refine (ih k1 (by have := HK1.out; omega) ((rd_T43 l0_1 x3_1).f0) _ _ ((rd_T43 l0_1 x3_1).f1) true _ ?side1 ?side2 A8.out).mono ?_); (case side1 => repeat (first | exact (Kd.C_below HR172_1.out HB.out) | (with_reducible refine Kd.C_alloc ?_ _) | (with_reducible refine Kd.C_drewN ?_ _) | (with_reducible refine Kd.C_drew ?_))); (case side2 => exact HC172_1.out); rintro e w11 ⟨rfl, hb⟩; have n0_ := Aside0.mk (blk_below (g := gb170) (o := .cells #[.int .i8 a0_0, .slice (some ad172) l0_1.length c0_1] 43 (0, 0)) BK170.out hb); have n1_ := Aside0.mk (below_step HB.out hb); clear BK170; clear HB; have BK170 := n0_; have HB := n1_; clear n0_ n1_; (try clear hb); (try clear hb2); (try clear hk); (try clear hi))))
              go_roundg k1
              case measure => have := HK1.out; omega
              case rel => exact ⟨(wrap64 (x3_1 + 1)), (by first | rfl | simp [*]), H', ⟨by have := HK1.out; omega⟩, ⟨BK170.out⟩, ⟨by repeat (first | (with_reducible first | exact HB.out | apply below_alloc | apply pw_below_drewN | apply below_drew1 | refine below_set ?_ GE170.out) | exact HB.out)⟩⟩
            · replace c9 := Bool.eq_false_iff.mpr c9
              subst c9
              have H1 : (some false) = some r := by rw [if_neg (show ¬ (false = true) by decide)] at H; exact H
              clear H
              have H := H1
              clear H1
              obtain rfl := Option.some.inj H
              have hcz12_0 : wr.cell? ⟨gb170, 0, none⟩ = some (.int .i8 a0_0) := (blk_cell BK170.out 0).trans rfl
              have hcz12_1 : wr.cell? ⟨gb170, 1, none⟩ = some (.slice A0_1 l0_1.length c0_1) := (blk_cell BK170.out 1).trans rfl
              have p172 : 0 ≤ (x3_1 : Int) := of_decide_eq_true (by first | (with_reducible assumption) | assumption)
              have q172 : x3_1 < (l0_1.length : Int) := of_decide_eq_true (by first | (with_reducible assumption) | assumption)
              obtain ⟨ad172, A172_1, c172_1, e172, hx172_0, hx172_1, hl172_1, hi172_1⟩ := at_T43 HR0_1.out x3_1 p172 q172
              cases e172
              replace hx172_0 := (HB.out.cell (World.block_lt_of_cell? w _ hx172_0)).trans hx172_0
              replace hx172_1 := (HB.out.cell (World.block_lt_of_cell? w _ hx172_1)).trans hx172_1
              have HR172_1 := Aside0.mk hi172_1
              have HC172_1 := Aside0.mk hl172_1
              clear hi172_1 hl172_1
              replace p172 := eq_true p172
              replace q172 := eq_true q172
              go_wp2_with (first | (go_at_call 88; (with_reducible refine (ih k1 (by have := HK1.out; omega) ((rd_T43 l0_1 x3_1).f0) _ _ ((rd_T43 l0_1 x3_1).f1) false _ ?side1 ?side2 A8.out).mono ?_); (case side1 => repeat (first | exact (Kd.C_below HR172_1.out HB.out) | (with_reducible refine Kd.C_alloc ?_ _) | (with_reducible refine Kd.C_drewN ?_ _) | (with_reducible refine Kd.C_drew ?_))); (case side2 => exact HC172_1.out); rintro e w13 ⟨rfl, hb⟩; have n0_ := Aside0.mk (blk_below (g := gb170) (o := .cells #[.int .i8 a0_0, .slice (some ad172) l0_1.length c0_1] 43 (0, 0)) BK170.out hb); have n1_ := Aside0.mk (below_step HB.out hb); clear BK170; clear HB; have BK170 := n0_; have HB := n1_; clear n0_ n1_; (try clear hb); (try clear hb2); (try clear hk); (try clear hi)))
              repeat (go_quiet (first | (go_at_call 88; (with_reducible refine (ih k1 (by have := HK1.out; omega) ((rd_T43 l0_1 x3_1).f0) _ _ ((rd_T43 l0_1 x3_1).f1) false _ ?side1 ?side2 A8.out).mono ?_); (case side1 => repeat (first | exact (Kd.C_below HR172_1.out HB.out) | (with_reducible refine Kd.C_alloc ?_ _) | (with_reducible refine Kd.C_drewN ?_ _) | (with_reducible refine Kd.C_drew ?_))); (case side2 => exact HC172_1.out); rintro e w13 ⟨rfl, hb⟩; have n0_ := Aside0.mk (blk_below (g := gb170) (o := .cells #[.int .i8 a0_0, .slice (some ad172) l0_1.length c0_1] 43 (0, 0)) BK170.out hb); have n1_ := Aside0.mk (below_step HB.out hb); clear BK170; clear HB; have BK170 := n0_; have HB := n1_; clear n0_ n1_; (try clear hb); (try clear hb2); (try clear hk); (try clear hi))); try go_wp2_with (first | (go_at_call 88; (with_reducible refine (ih k1 (by have := HK1.out; omega) ((rd_T43 l0_1 x3_1).f0) _ _ ((rd_T43 l0_1 x3_1).f1) false _ ?side1 ?side2 A8.out).mono ?_); (case side1 => repeat (first | exact (Kd.C_below HR172_1.out HB.out) | (with_reducible refine Kd.C_alloc ?_ _) | (with_reducible refine Kd.C_drewN ?_ _) | (with_reducible refine Kd.C_drew ?_))); (case side2 => exact HC172_1.out); rintro e w13 ⟨rfl, hb⟩; have n0_ := Aside0.mk (blk_below (g := gb170) (o := .cells #[.int .i8 a0_0, .slice (some ad172) l0_1.length c0_1] 43 (0, 0)) BK170.out hb); have n1_ := Aside0.mk (below_step HB.out hb); clear BK170; clear HB; have BK170 := n0_; have HB := n1_; clear n0_ n1_; (try clear hb); (try clear hb2); (try clear hk); (try clear hi))))
              go_ret
              exact ⟨by first | rfl | simp [*], by repeat (first | (with_reducible first | exact HB.out | apply below_alloc | apply pw_below_drewN | apply below_drew1 | refine below_set ?_ GE170.out) | exact HB.out)⟩
          · rw [if_neg c7] at H
            exact absurd H (by simp)
        · rw [if_neg c6] at H
          have c6b0 : decide (x3_1 < (l0_1.length : Int)) = false := decide_eq_false c6
          clear c6
          obtain rfl := Option.some.inj H
          have hcz14_0 : wr.cell? ⟨gb170, 0, none⟩ = some (.int .i8 a0_0) := (blk_cell BK170.out 0).trans rfl
          have hcz14_1 : wr.cell? ⟨gb170, 1, none⟩ = some (.slice A0_1 l0_1.length c0_1) := (blk_cell BK170.out 1).trans rfl
          go_wp2
          repeat (go_quiet (fail); try go_wp2)
          go_ret
          exact ⟨by first | rfl | simp [*], by repeat (first | (with_reducible first | exact HB.out | apply below_alloc | apply pw_below_drewN | apply below_drew1 | refine below_set ?_ GE170.out) | exact HB.out)⟩
  · rw [if_neg c3] at H
    have c3b0 : (t171 == (l0_1.length : Int)) = false := beq_eq_false_iff_ne.mpr c3
    have c3b1 : (t171 != (l0_1.length : Int)) = true := bne_iff_ne.mpr c3
    obtain rfl := Option.some.inj H
    go_enter Tryd.func88, Tryd.ntmps88
    go_wp2_with (first | ((with_reducible refine gate_dst (N := 1) rfl ?_); refine box_event ?hg (N := 1) ?hd (cs := #[.int .i8 a0_0, .slice A0_1 l0_1.length c0_1]) (t := 43) ?hr ?_; (case hd => rfl); (case hg => rfl); (case hr => go_simp <;> rfl); intro gb170 hg w15 hbox hb; have n0_ := Aside0.mk (below_step HB.out hb); have n1_ := Aside0.mk (hbox); have n2_ := Aside0.mk ((by rw [hg]; exact (below_size HB.out) : w.heap.size ≤ gb170)); have n3_ := Aside0.mk ((by rw [hg]; exact (below_size HB.out) : w.heap.size ≤ gb170)); clear HB; have HB := n0_; have BK170 := n1_; have GW170 := n2_; have GE170 := n3_; clear n0_ n1_ n2_ n3_; clear hb hbox hg; have hcz16_0 : w15.cell? ⟨gb170, 0, none⟩ = some (.int .i8 a0_0) := (blk_cell BK170.out 0).trans rfl; have hcz16_1 : w15.cell? ⟨gb170, 1, none⟩ = some (.slice A0_1 l0_1.length c0_1) := (blk_cell BK170.out 1).trans rfl) | (go_at_call 120; (with_reducible refine (lychgateref02_Kids.calls k a0_0 t171 _ A2.out).mono ?_); rintro e w' ⟨rfl, ⟨nd, rfl⟩⟩; (try first | exact ⟨rfl, _, World.drewN_drewN _ _ _⟩ | exact ⟨rfl, _, Eq.trans (World.drewN_drewN _ _ _) (congrArg (World.drewN _) (Nat.add_assoc _ _ _))⟩)))
    repeat (go_quiet (first | ((with_reducible refine gate_dst (N := 1) rfl ?_); refine box_event ?hg (N := 1) ?hd (cs := #[.int .i8 a0_0, .slice A0_1 l0_1.length c0_1]) (t := 43) ?hr ?_; (case hd => rfl); (case hg => rfl); (case hr => go_simp <;> rfl); intro gb170 hg w15 hbox hb; have n0_ := Aside0.mk (below_step HB.out hb); have n1_ := Aside0.mk (hbox); have n2_ := Aside0.mk ((by rw [hg]; exact (below_size HB.out) : w.heap.size ≤ gb170)); have n3_ := Aside0.mk ((by rw [hg]; exact (below_size HB.out) : w.heap.size ≤ gb170)); clear HB; have HB := n0_; have BK170 := n1_; have GW170 := n2_; have GE170 := n3_; clear n0_ n1_ n2_ n3_; clear hb hbox hg; have hcz16_0 : w15.cell? ⟨gb170, 0, none⟩ = some (.int .i8 a0_0) := (blk_cell BK170.out 0).trans rfl; have hcz16_1 : w15.cell? ⟨gb170, 1, none⟩ = some (.slice A0_1 l0_1.length c0_1) := (blk_cell BK170.out 1).trans rfl) | (go_at_call 120; (with_reducible refine (lychgateref02_Kids.calls k a0_0 t171 _ A2.out).mono ?_); rintro e w' ⟨rfl, ⟨nd, rfl⟩⟩; (try first | exact ⟨rfl, _, World.drewN_drewN _ _ _⟩ | exact ⟨rfl, _, Eq.trans (World.drewN_drewN _ _ _) (congrArg (World.drewN _) (Nat.add_assoc _ _ _))⟩))); try go_wp2_with (first | ((with_reducible refine gate_dst (N := 1) rfl ?_); refine box_event ?hg (N := 1) ?hd (cs := #[.int .i8 a0_0, .slice A0_1 l0_1.length c0_1]) (t := 43) ?hr ?_; (case hd => rfl); (case hg => rfl); (case hr => go_simp <;> rfl); intro gb170 hg w15 hbox hb; have n0_ := Aside0.mk (below_step HB.out hb); have n1_ := Aside0.mk (hbox); have n2_ := Aside0.mk ((by rw [hg]; exact (below_size HB.out) : w.heap.size ≤ gb170)); have n3_ := Aside0.mk ((by rw [hg]; exact (below_size HB.out) : w.heap.size ≤ gb170)); clear HB; have HB := n0_; have BK170 := n1_; have GW170 := n2_; have GE170 := n3_; clear n0_ n1_ n2_ n3_; clear hb hbox hg; have hcz16_0 : w15.cell? ⟨gb170, 0, none⟩ = some (.int .i8 a0_0) := (blk_cell BK170.out 0).trans rfl; have hcz16_1 : w15.cell? ⟨gb170, 1, none⟩ = some (.slice A0_1 l0_1.length c0_1) := (blk_cell BK170.out 1).trans rfl) | (go_at_call 120; (with_reducible refine (lychgateref02_Kids.calls k a0_0 t171 _ A2.out).mono ?_); rintro e w' ⟨rfl, ⟨nd, rfl⟩⟩; (try first | exact ⟨rfl, _, World.drewN_drewN _ _ _⟩ | exact ⟨rfl, _, Eq.trans (World.drewN_drewN _ _ _) (congrArg (World.drewN _) (Nat.add_assoc _ _ _))⟩))))
    go_ret
    exact ⟨by first | rfl | simp [*], by repeat (first | (with_reducible first | exact HB.out | apply below_alloc | apply pw_below_drewN | apply below_drew1 | refine below_set ?_ GE170.out) | exact HB.out)⟩
def lychgateref02_Check.f (k : Nat) (a0_0 : Int) (l0_1 : List (S43)) : Option (Int) := (lychgateref02_Nodes.f k a0_0 l0_1).bind fun t175 => (if t175 > 8192 then (some 32) else ((lychgateref02_Depth.f k a0_0 l0_1).bind fun t176 => (if t176 > 200 then (some 31) else ((lychgateref02_right.f k a0_0 l0_1).bind fun t177 => (if t177 = true then (some 0) else (some 20))))))
theorem lychgateref02_Check.mono : ∀ a0 a1 k, LeO (lychgateref02_Check.f k a0 a1) (lychgateref02_Check.f (k + 1) a0 a1) := by
  intro a0 a1 k
  unfold lychgateref02_Check.f
  repeat' first
      | (with_reducible exact lychgateref02_Depth.mono _ _ _)
      | (with_reducible exact lychgateref02_Nodes.mono _ _ _)
      | (with_reducible exact lychgateref02_right.mono _ _ _)
      | (with_reducible exact LeO.refl _)
      | (with_reducible exact LeO.none _)
      | (with_reducible refine LeO.ite ?_ ?_)
      | (with_reducible refine LeO.bind ?_ (fun _ => ?_))
      | exact lychgateref02_Depth.mono _ _ _
      | exact lychgateref02_Nodes.mono _ _ _
      | exact lychgateref02_right.mono _ _ _
      | exact LeO.none _
      | refine LeO.ite ?_ ?_
      | refine LeO.bind ?_ (fun _ => ?_)
set_option maxHeartbeats 8000000 in
set_option maxRecDepth 100000 in
theorem lychgateref02_Check.calls (k : Nat) (a0_0 : Int) (A0_1 : Option Addr) (c0_1 : Nat) (l0_1 : List (S43)) (r : Int) (w : World) (hr0_1 : Kd.C k43 w A0_1 l0_1.length l0_1) (hc0_1 : l0_1.length ≤ c0_1) (h : lychgateref02_Check.f k a0_0 l0_1 = some r) :
    Calls Tryd.prog 42 #[.agg #[.int .i8 a0_0, .slice A0_1 l0_1.length c0_1]] w fun e w' => e = .returned (.int .i64 r) ∧ Below w.heap.size w w' := by
  unfold lychgateref02_Check.f at h
  obtain ⟨t1, h1, h⟩ := Option.bind_eq_some_iff.mp h
  have q0 := heap_alloc_new w (.cells #[.int .i8 a0_0, .slice A0_1 l0_1.length c0_1] 43)
  have hB : Below w.heap.size w (w.alloc (.cells #[.int .i8 a0_0, .slice A0_1 l0_1.length c0_1] 43)) := (Below.refl _ _).alloc (Nat.le_refl _) _
  have HC := Aside0.mk hc0_1
  have H := Aside0.mk h
  have H1 := Aside0.mk h1
  have NX : ∀ {wa wb : World}, Aside0 (Below wa.heap.size wa wb) → Aside0 (Kd.C k43 wa A0_1 l0_1.length l0_1 ∧ wa.heap[w.heap.size]? = some (.cells #[.int .i8 a0_0, .slice A0_1 l0_1.length c0_1] 43) ∧ Below w.heap.size w wa) → Aside0 (Kd.C k43 wb A0_1 l0_1.length l0_1 ∧ wb.heap[w.heap.size]? = some (.cells #[.int .i8 a0_0, .slice A0_1 l0_1.length c0_1] 43) ∧ Below w.heap.size w wb) :=
    fun b g => ⟨Kd.C_below g.out.1 b.out, blk_below g.out.2.1 b.out, below_then g.out.2.2 g.out.2.2.size b.out⟩
  have G := Aside0.mk (And.intro (Kd.C_below hr0_1 hB) (And.intro q0 hB))
  clear q0 hr0_1 hB hc0_1 h h1
  have NX := Aside0.mk (@NX)
  go_enter Tryd.func42, Tryd.ntmps42
  go_wp2_with fail
  generalize w.alloc (.cells #[.int .i8 a0_0, .slice A0_1 l0_1.length c0_1] 43) = w0 at *
  refine (lychgateref02_Nodes.calls k _ _ _ _ _ _ G.out.1 HC.out H1.out).mono ?_
  rintro e w1 ⟨rfl, hB⟩
  replace G := NX.out (Aside0.mk hB) G
  clear hB H1
  have h := H.out
  by_cases e1 : t1 > 8192
  case pos =>
    rw [if_pos e1] at h
    cases h
    go_wp2_with fail
    go_ret
    exact ⟨rfl, G.out.2.2⟩
  rw [if_neg e1] at h
  obtain ⟨t2, h2, h⟩ := Option.bind_eq_some_iff.mp h
  have H2 := Aside0.mk h2
  have H3 := Aside0.mk h
  clear h h2 H
  obtain ⟨b0, b1, -, -⟩ := cells2 G.out.2.1
  go_wp2_with fail
  clear b0 b1
  refine (lychgateref02_Depth.calls k _ _ _ _ _ _ G.out.1 HC.out H2.out).mono ?_
  rintro e w2 ⟨rfl, hB⟩
  replace G := NX.out (Aside0.mk hB) G
  clear hB e1
  have h := H3.out
  by_cases e3 : t2 > 200
  case pos =>
    rw [if_pos e3] at h
    cases h
    go_wp2_with fail
    go_ret
    exact ⟨rfl, G.out.2.2⟩
  rw [if_neg e3] at h
  obtain ⟨t3, h3, h⟩ := Option.bind_eq_some_iff.mp h
  obtain ⟨b0, b1, -, -⟩ := cells2 G.out.2.1
  have H4 := Aside0.mk h
  have H5 := Aside0.mk h3
  clear h h3
  go_wp2_with fail
  clear b0 b1
  refine (lychgateref02_right.calls k _ _ _ _ _ _ G.out.1 HC.out H5.out).mono ?_
  rintro e w3 ⟨rfl, hB⟩
  replace G := NX.out (Aside0.mk hB) G
  clear hB e3
  have h := H4.out
  cases t3 <;> (cases h; go_wp2_with fail; go_ret; exact ⟨rfl, G.out.2.2⟩)
end Go.Proofs.YtjmpejbciniceaaDoor.X
namespace Go.Proofs.YtjmpejbciniceaaDoor.X
open Go.RowKit Go.Proofs.YtjmpejbciniceaaDoorW.PrintWords Go.Proofs.YtjmpejbciniceaaDoorW.PrintLast Go.Proofs.YtjmpejbciniceaaDoorW.PrintMore
set_option linter.unusedVariables false
set_option linter.unusedSimpArgs false
theorem drop_rd (l : List S43) (i : Nat) (h : i < l.length) : l.drop i = rd_T43 l i :: l.drop (i + 1) := by
  rw [List.drop_eq_getElem_cons h]
  congr 1
  simp [rd_T43, List.getD_eq_getElem?_getD, h]
theorem nodesL_rd (l : List S43) (i : Nat) (h : i < l.length) : nodesL (rd_T43 l i).f1 < nodesL l := by
  have := nodesL_take l i h
  rw [nodes_eq] at this
  have := nodesL_take_le l (i + 1)
  omega
theorem S43.eta (x : S43) : (⟨x.f0, x.f1⟩ : S43) = x := by cases x; rfl
theorem Ev_eq {α : Type} {g : Nat → Option α} {r r' : α} (h : Ev g r) (e : r = r') : Ev g r' := e ▸ h
theorem w64 (i : Int) (h0 : -9223372036854775808 ≤ i) (h1 : i ≤ 9223372036854775807) : wrap64 i = i := by unfold wrap64; omega
theorem length_le_nodesL (l : List S43) : l.length ≤ nodesL l := by
  induction l with
  | nil => simp
  | cons x l ih => simp only [List.length_cons, nodesL]; have := nodes_eq x; omega
theorem nodesL_drop (l : List S43) (i : Nat) (h : i < l.length) : nodesL (l.drop i) = nodes (rd_T43 l i) + nodesL (l.drop (i + 1)) := by
  rw [drop_rd l i h, nodesL]
theorem nodesL_drop_le (l : List S43) (i : Nat) : nodesL (l.drop i) ≤ nodesL l := by
  have := nodesL_append (l.take i) (l.drop i)
  rw [List.take_append_drop] at this
  omega
theorem nodes_rd_le (l : List S43) (i : Nat) (h : i < l.length) : nodes (rd_T43 l i) ≤ nodesL l := by
  have := nodesL_drop l i h
  have := nodesL_drop_le l i
  omega
mutual
def depth : S43 → Nat
  | ⟨_, l⟩ => 1 + depthL l
def depthL : List S43 → Nat
  | [] => 0
  | x :: l => max (depth x) (depthL l)
end
theorem depth_eq (x : S43) : depth x = 1 + depthL x.f1 := by cases x; rw [depth]
theorem depthL_drop (l : List S43) (i : Nat) (h : i < l.length) : depthL (l.drop i) = max (depth (rd_T43 l i)) (depthL (l.drop (i + 1))) := by
  rw [drop_rd l i h, depthL]
theorem deep_ev (n : Nat) : ∀ (k : Int) (l : List S43) (left : Int), nodesL l < n → nodesL l ≤ 8192 → 1 ≤ left → left ≤ 201 →
    Ev (fun f => types_deep.f f k l left) (min ((1 + depthL l : Nat) : Int) left) := by
  induction n with
  | zero => intro k l left h; omega
  | succ n ih =>
  intro k l left hn h8 h1 h2
  have hlen := length_le_nodesL l
  by_cases hl : left ≤ 1
  · refine Ev.step (f := fun _ => some left) (fun f => by simp only [types_deep.f]; rw [if_pos hl]) (Ev_eq (Ev.now _) ?_)
    omega
  · have loop : ∀ (d i : Nat) (acc : Int), i ≤ l.length → l.length - i = d → 0 ≤ acc → acc ≤ 200 →
        Ev (fun f => types_deep.l0 f left acc l (l.length : Int) (i : Int)) (max acc (min ((depthL (l.drop i) : Nat) : Int) (left - 1)) + 1) := by
      intro d
      induction d with
      | zero =>
        intro i acc hi hd h0 h200
        refine Ev.step (f := fun _ => some (acc + 1)) (fun f => by simp only [types_deep.l0]; rw [if_neg (by omega), w64 _ (by omega) (by omega)]) (Ev_eq (Ev.now _) ?_)
        rw [List.drop_eq_nil_of_le (by omega), depthL]
        simp
        omega
      | succ d ihd =>
        intro i acc hi hd h0 h200
        have hlt : i < l.length := by omega
        have hr := nodesL_rd l i hlt
        have hdr := depthL_drop l i hlt
        have e1 := ih (rd_T43 l i).f0 (rd_T43 l i).f1 (left - 1) (by omega) (by omega) (by omega) (by omega)
        rw [← depth_eq] at e1
        have e2 := ihd (i + 1) (mx acc (min ((depth (rd_T43 l i) : Nat) : Int) (left - 1))) (by omega) (by omega) (by unfold mx; split <;> omega) (by unfold mx; split <;> omega)
        refine Ev.step (f := fun f => (types_deep.f f (rd_T43 l i).f0 (rd_T43 l i).f1 (left - 1)).bind fun t => types_deep.l0 f left (mx acc t) l (l.length : Int) ((i + 1 : Nat) : Int)) (fun f => ?_) (Ev.bind e1 (Ev_eq e2 ?_))
        · simp only [types_deep.l0]
          rw [if_pos (by omega), if_pos (by omega), if_pos (by omega), w64 (left - 1) (by omega) (by omega), w64 ((i : Int) + 1) (by omega) (by omega)]
          rfl
        · rw [hdr]
          unfold mx
          split <;> omega
    refine Ev.step (f := fun f => types_deep.l0 f left 0 l (l.length : Int) 0) (fun f => by simp only [types_deep.f]; rw [if_neg hl]) (Ev_eq (loop l.length 0 0 (by omega) rfl (by omega) (by omega)) ?_)
    rw [List.drop_zero]
    omega
def partsI (k : Int) : Int := if k = 0 ∨ k = 1 ∨ k = 2 then 0 else if k = 3 ∨ k = 4 ∨ k = 5 then 2 else -1
theorem parts_is (f : Nat) (k : Int) : types_parts.f (f + 1) k = some (partsI k) := by
  unfold types_parts.f partsI
  simp only [types_parts.j0]
  by_cases h0 : k = 0
  · simp [h0]
  by_cases h1 : k = 1
  · simp [h1]
  by_cases h2 : k = 2
  · simp [h2]
  by_cases h3 : k = 3
  · simp [h3]
  by_cases h4 : k = 4
  · simp [h4]
  by_cases h5 : k = 5
  · simp [h5]
  simp [h0, h1, h2, h3, h4, h5]
theorem parts_ev (k : Int) : Ev (fun f => types_parts.f f k) (partsI k) := Ev.step (f := fun _ => some (partsI k)) (fun f => parts_is f k) (Ev.now _)
mutual
def rightB : S43 → Bool
  | ⟨k, l⟩ => decide (partsI k = (l.length : Int)) && rightL l
def rightL : List S43 → Bool
  | [] => true
  | x :: l => rightB x && rightL l
end
theorem rightB_eq (x : S43) : rightB x = (decide (partsI x.f0 = (x.f1.length : Int)) && rightL x.f1) := by cases x; rw [rightB]
theorem rightL_drop (l : List S43) (i : Nat) (h : i < l.length) : rightL (l.drop i) = (rightB (rd_T43 l i) && rightL (l.drop (i + 1))) := by
  rw [drop_rd l i h, rightL]
theorem right_ev (n : Nat) : ∀ (k : Int) (l : List S43), nodesL l < n → nodesL l ≤ 8192 → Ev (fun f => types_right.f f k l) (rightB ⟨k, l⟩) := by
  induction n with
  | zero => intro k l h; omega
  | succ n ih =>
  intro k l hn h8
  have hlen := length_le_nodesL l
  have loop : ∀ (d i : Nat), i ≤ l.length → l.length - i = d → Ev (fun f => types_right.l0 f l (l.length : Int) (i : Int)) (rightL (l.drop i)) := by
    intro d
    induction d with
    | zero =>
      intro i hi hd
      refine Ev.step (f := fun _ => some true) (fun f => by simp only [types_right.l0]; rw [if_neg (by omega)]) (Ev_eq (Ev.now _) ?_)
      rw [List.drop_eq_nil_of_le (by omega), rightL]
    | succ d ihd =>
      intro i hi hd
      have hlt : i < l.length := by omega
      have hr := nodesL_rd l i hlt
      have e1 := ih (rd_T43 l i).f0 (rd_T43 l i).f1 (by omega) (by omega)
      rw [S43.eta] at e1
      refine Ev.step (f := fun f => (types_right.f f (rd_T43 l i).f0 (rd_T43 l i).f1).bind fun t => if t = true then types_right.l0 f l (l.length : Int) ((i + 1 : Nat) : Int) else some false) (fun f => ?_) (Ev.bind e1 ?_)
      · simp only [types_right.l0]
        rw [if_pos (by omega), if_pos (by omega), if_pos (by omega), w64 ((i : Int) + 1) (by omega) (by omega)]
        rfl
      · rw [rightL_drop l i hlt]
        cases rightB (rd_T43 l i) with
        | true => simpa using ihd (i + 1) (by omega) (by omega)
        | false => simpa using Ev.now _
  refine Ev.step (f := fun f => (types_parts.f f k).bind fun t => if t = (l.length : Int) then types_right.l0 f l (l.length : Int) 0 else some false) (fun f => by simp only [types_right.f]) (Ev.bind (parts_ev k) ?_)
  rw [rightB]
  by_cases hp : partsI k = (l.length : Int)
  · simp only [hp, if_true, decide_true, Bool.true_and]
    exact Ev_eq (loop l.length 0 (by omega) rfl) (by rw [List.drop_zero])
  · simpa [hp] using Ev.now _
def checkI (t : S43) : Int := if 8192 < nodes t then 32 else if 200 < depth t then 31 else if rightB t = true then 0 else 20
theorem Check_ev (k : Int) (l : List S43) : Ev (fun f => types_Check.f f k l) (checkI ⟨k, l⟩) := by
  unfold checkI types_Check.f types_Nodes.f types_Depth.f types_Nodes.f
  rw [nodes, depth]
  by_cases h8 : 8192 < 1 + nodesL l
  · rw [if_pos h8]
    have : ((min (1 + nodesL l) 8193 : Nat) : Int) > 8192 := by omega
    simpa [this] using Ev.now _
  · rw [if_neg h8]
    have h9 : ¬ ((min (1 + nodesL l) 8193 : Nat) : Int) > 8192 := by omega
    simp only [Option.bind_some, h9, if_false]
    have e1 := deep_ev (nodesL l + 1) k l 201 (by omega) (by omega) (by omega) (by omega)
    refine Ev.bind (a := (min ((1 + depthL l : Nat) : Int) 201)) (Ev_eq (Ev.bind e1 (Ev.now _)) rfl) ?_
    by_cases h2 : 200 < 1 + depthL l
    · rw [if_pos h2]
      have h3 : (min ((1 + depthL l : Nat) : Int) 201) > 200 := by omega
      simp only [h3, if_true]
      exact Ev.now _
    · rw [if_neg h2]
      have h3 : ¬ (min ((1 + depthL l : Nat) : Int) 201) > 200 := by omega
      simp only [h3, if_false]
      refine Ev.bind (right_ev (nodesL l + 1) k l (by omega) (by omega)) ?_
      cases rightB ⟨k, l⟩ <;> simpa using Ev.now _
theorem check_nodes {t : S43} (h : checkI t = 0) : nodes t ≤ 8192 ∧ depth t ≤ 200 ∧ rightB t = true := by
  unfold checkI at h
  split at h
  · omega
  split at h
  · omega
  split at h
  · exact ⟨by omega, by omega, by assumption⟩
  · omega
end Go.Proofs.YtjmpejbciniceaaDoor.X
namespace Go.Proofs.YtjmpejbciniceaaDoor.X
open Go.RowKit Go.Proofs.YtjmpejbciniceaaDoorW.PrintWords Go.Proofs.YtjmpejbciniceaaDoorW.PrintLast Go.Proofs.YtjmpejbciniceaaDoorW.PrintMore
set_option linter.unusedVariables false
set_option linter.unusedSimpArgs false
def IsT (w : World) (v : Value) (t : S43) : Prop := ∃ A c, v = .agg #[.int .i8 t.f0, .slice A t.f1.length c] ∧ t.f1.length ≤ c ∧ Kd.C k43 w A t.f1.length t.f1
theorem IsT.below {w w' : World} {v : Value} {t : S43} (h : IsT w v t) (hb : Below w.heap.size w w') : IsT w' v t := by
  obtain ⟨A, c, e, h1, h2⟩ := h
  exact ⟨A, c, e, h1, Kd.C_below h2 hb⟩
theorem IsT.zero (w : World) : IsT w (.agg #[.int .i8 0, .slice none 0 0]) z43 := ⟨none, 0, rfl, Nat.le_refl _, rfl, by simp [z43], fun h => absurd h (by simp [z43])⟩
theorem IsT.mk {w : World} {k : Int} {A : Option Addr} {l : List S43} {c : Nat} (h1 : l.length ≤ c) (h2 : Kd.C k43 w A l.length l) : IsT w (.agg #[.int .i8 k, .slice A l.length c]) ⟨k, l⟩ := ⟨A, c, rfl, h1, h2⟩
theorem Check_calls {t : S43} {v : Value} {w : World} (h : IsT w v t) : Calls Tryd.prog 34 #[v] w fun e w' => e = .returned (.int .i64 (checkI t)) ∧ Below w.heap.size w w' := by
  obtain ⟨A, c, rfl, h1, h2⟩ := h
  obtain ⟨k, hk⟩ := (Check_ev t.f0 t.f1).rounds
  rw [S43.eta] at hk
  exact types_Check.calls k t.f0 A c t.f1 _ w h2 h1 hk
end Go.Proofs.YtjmpejbciniceaaDoor.X
namespace Go.Proofs.YtjmpejbciniceaaDoor.X
open Go.RowKit Go.Proofs.YtjmpejbciniceaaDoorW.PrintWords Go.Proofs.YtjmpejbciniceaaDoorW.PrintLast Go.Proofs.YtjmpejbciniceaaDoorW.PrintMore
set_option linter.unusedVariables false
set_option linter.unusedSimpArgs false
theorem Nodes_calls {t : S43} {v : Value} {w : World} (h : IsT w v t) : Calls Tryd.prog 35 #[v] w fun e w' => e = .returned (.int .i64 ((min (nodes t) 8193 : Nat) : Int)) ∧ Below w.heap.size w w' := by
  obtain ⟨A, c, rfl, h1, h2⟩ := h
  exact types_Nodes.calls t.f0 A c t.f1 _ w h2 h1 (by rw [types_Nodes.f, nodes_eq])
theorem Depth_ev (k : Int) (l : List S43) : Ev (fun f => types_Depth.f f k l) (if 8192 < nodes ⟨k, l⟩ then 201 else min (depth ⟨k, l⟩ : Int) 201) := by
  unfold types_Depth.f types_Nodes.f
  rw [nodes, depth]
  by_cases h8 : 8192 < 1 + nodesL l
  · rw [if_pos h8]
    have : ((min (1 + nodesL l) 8193 : Nat) : Int) > 8192 := by omega
    simpa [this] using Ev.now _
  · rw [if_neg h8]
    have h9 : ¬ ((min (1 + nodesL l) 8193 : Nat) : Int) > 8192 := by omega
    simp only [Option.bind_some, h9, if_false]
    exact Ev.bind (deep_ev (nodesL l + 1) k l 201 (by omega) (by omega) (by omega) (by omega)) (Ev.now _)
def depthI (t : S43) : Int := if 8192 < nodes t then 201 else min (depth t : Int) 201
theorem Depth_calls {t : S43} {v : Value} {w : World} (h : IsT w v t) : Calls Tryd.prog 36 #[v] w fun e w' => e = .returned (.int .i64 (depthI t)) ∧ Below w.heap.size w w' := by
  obtain ⟨A, c, rfl, h1, h2⟩ := h
  obtain ⟨k, hk⟩ := ((Ev_eq (Depth_ev t.f0 t.f1) (by rw [S43.eta]; rfl) : Ev (fun f => types_Depth.f f t.f0 t.f1) (depthI t))).rounds
  exact types_Depth.calls k t.f0 A c t.f1 _ w h2 h1 hk
end Go.Proofs.YtjmpejbciniceaaDoor.X
namespace Go.Proofs.YtjmpejbciniceaaDoor.X
open Go.RowKit Go.Proofs.YtjmpejbciniceaaDoorW.PrintWords Go.Proofs.YtjmpejbciniceaaDoorW.PrintLast Go.Proofs.YtjmpejbciniceaaDoorW.PrintMore
set_option linter.unusedVariables false
set_option linter.unusedSimpArgs false
theorem refcount_ev (n : Nat) : ∀ (k : Int) (l : List S43) (c : Int), nodesL l < n → 0 ≤ c → c ≤ 8192 → Ev (fun f => lychgateref02_count.f f k l c) (min (c + 1 + (nodesL l : Int)) 8193) := by
  induction n with
  | zero => intro k l c h; omega
  | succ n ih =>
  intro k l c hn h0 h8
  have loop : ∀ (d i : Nat) (c : Int), i ≤ l.length → l.length - i = d → (i : Int) ≤ c → 0 ≤ c → c ≤ 8193 → Ev (fun f => lychgateref02_count.l0 f c (i : Int) k l) (min (c + (nodesL (l.drop i) : Int)) 8193) := by
    intro d
    induction d with
    | zero =>
      intro i c hi hd hic h0 h8
      refine Ev.step (f := fun _ => some c) (fun f => by simp only [lychgateref02_count.l0]; rw [if_neg (by omega)]) (Ev_eq (Ev.now _) ?_)
      rw [List.drop_eq_nil_of_le (by omega), nodesL]
      omega
    | succ d ihd =>
      intro i c hi hd hic h0 h8
      have hlt : i < l.length := by omega
      by_cases hc : c ≤ 8192
      · have hr := nodesL_rd l i hlt
        have e1 := ih (rd_T43 l i).f0 (rd_T43 l i).f1 c (by omega) (by omega) (by omega)
        have hd2 := nodesL_drop l i hlt
        rw [nodes_eq] at hd2
        have e2 := ihd (i + 1) (min (c + 1 + (nodesL (rd_T43 l i).f1 : Int)) 8193) (by omega) (by omega) (by omega) (by omega) (by omega)
        refine Ev.step (f := fun f => (lychgateref02_count.f f (rd_T43 l i).f0 (rd_T43 l i).f1 c).bind fun t => lychgateref02_count.l0 f t ((i + 1 : Nat) : Int) k l) (fun f => ?_) (Ev.bind e1 (Ev_eq e2 ?_))
        · simp only [lychgateref02_count.l0]
          rw [if_pos (by omega), if_pos hc, if_pos (by omega), w64 ((i : Int) + 1) (by omega) (by omega)]
          rfl
        · omega
      · refine Ev.step (f := fun _ => some c) (fun f => by simp only [lychgateref02_count.l0]; rw [if_pos (by omega), if_neg hc]) (Ev_eq (Ev.now _) ?_)
        omega
  refine Ev.step (f := fun f => lychgateref02_count.l0 f (c + 1) 0 k l) (fun f => by simp only [lychgateref02_count.f]; rw [w64 (c + 1) (by omega) (by omega)]) (Ev_eq (loop l.length 0 (c + 1) (by omega) rfl (by omega) (by omega) (by omega)) ?_)
  rw [List.drop_zero]
theorem refNodes_ev (k : Int) (l : List S43) : Ev (fun f => lychgateref02_Nodes.f f k l) ((min (nodes ⟨k, l⟩) 8193 : Nat) : Int) := by
  unfold lychgateref02_Nodes.f
  refine Ev.bind (refcount_ev (nodesL l + 1) k l 0 (by omega) (by omega) (by omega)) (Ev_eq (Ev.now _) ?_)
  rw [nodes]
  unfold mn
  split <;> omega
theorem refdeep_ev (n : Nat) : ∀ (k : Int) (l : List S43) (left : Int), nodesL l < n → nodesL l ≤ 8192 → 1 ≤ left → left ≤ 201 →
    Ev (fun f => lychgateref02_deep.f f k l left) (min ((1 + depthL l : Nat) : Int) left) := by
  induction n with
  | zero => intro k l left h; omega
  | succ n ih =>
  intro k l left hn h8 h1 h2
  have hlen := length_le_nodesL l
  by_cases hl : left ≤ 1
  · refine Ev.step (f := fun _ => some left) (fun f => by simp only [lychgateref02_deep.f]; rw [if_pos hl]) (Ev_eq (Ev.now _) ?_)
    omega
  · have loop : ∀ (d i : Nat) (acc : Int), i ≤ l.length → l.length - i = d → 0 ≤ acc → acc ≤ 200 →
        Ev (fun f => lychgateref02_deep.l0 f left acc (i : Int) k l) (min (max acc (min ((depthL (l.drop i) : Nat) : Int) (left - 1)) + 1) left) := by
      intro d
      induction d with
      | zero =>
        intro i acc hi hd h0 h200
        refine Ev.step (f := fun _ => some (mn (1 + acc) left)) (fun f => by simp only [lychgateref02_deep.l0]; rw [if_neg (by omega), w64 _ (by omega) (by omega)]) (Ev_eq (Ev.now _) ?_)
        rw [List.drop_eq_nil_of_le (by omega), depthL]
        unfold mn
        simp
        split <;> omega
      | succ d ihd =>
        intro i acc hi hd h0 h200
        have hlt : i < l.length := by omega
        have hr := nodesL_rd l i hlt
        have hdr := depthL_drop l i hlt
        have e1 := ih (rd_T43 l i).f0 (rd_T43 l i).f1 (left - 1) (by omega) (by omega) (by omega) (by omega)
        rw [← depth_eq] at e1
        have e2 := ihd (i + 1) (mx acc (min ((depth (rd_T43 l i) : Nat) : Int) (left - 1))) (by omega) (by omega) (by unfold mx; split <;> omega) (by unfold mx; split <;> omega)
        refine Ev.step (f := fun f => (lychgateref02_deep.f f (rd_T43 l i).f0 (rd_T43 l i).f1 (left - 1)).bind fun t => lychgateref02_deep.l0 f left (mx acc t) ((i + 1 : Nat) : Int) k l) (fun f => ?_) (Ev.bind e1 (Ev_eq e2 ?_))
        · simp only [lychgateref02_deep.l0]
          rw [if_pos (by omega), if_pos (by omega), w64 (left - 1) (by omega) (by omega), w64 ((i : Int) + 1) (by omega) (by omega)]
          rfl
        · rw [hdr]
          unfold mx
          split <;> omega
    refine Ev.step (f := fun f => lychgateref02_deep.l0 f left 0 0 k l) (fun f => by simp only [lychgateref02_deep.f]; rw [if_neg hl]) (Ev_eq (loop l.length 0 0 (by omega) rfl (by omega) (by omega)) ?_)
    rw [List.drop_zero]
    omega
theorem refDepth_ev (k : Int) (l : List S43) : Ev (fun f => lychgateref02_Depth.f f k l) (if 8192 < nodes ⟨k, l⟩ then 201 else min (depth ⟨k, l⟩ : Int) 201) := by
  unfold lychgateref02_Depth.f
  refine Ev.bind (refNodes_ev k l) ?_
  rw [nodes, depth]
  by_cases h8 : 8192 < 1 + nodesL l
  · rw [if_pos h8]
    have h9 : ((min (1 + nodesL l) 8193 : Nat) : Int) > 8192 := by omega
    simp only [h9, if_true]
    exact Ev.now _
  · rw [if_neg h8]
    have h9 : ¬ ((min (1 + nodesL l) 8193 : Nat) : Int) > 8192 := by omega
    simp only [h9, if_false]
    exact Ev.bind (refdeep_ev (nodesL l + 1) k l 201 (by omega) (by omega) (by omega) (by omega)) (Ev.now _)
theorem Kids_ev (k : Int) : Ev (fun f => lychgateref02_Kids.f f k) (partsI k) := Ev.step (f := fun _ => some (partsI k)) (fun f => parts_is f k) (Ev.now _)
theorem refright_ev (n : Nat) : ∀ (k : Int) (l : List S43), nodesL l < n → nodesL l ≤ 8192 → Ev (fun f => lychgateref02_right.f f k l) (rightB ⟨k, l⟩) := by
  induction n with
  | zero => intro k l h; omega
  | succ n ih =>
  intro k l hn h8
  have hlen := length_le_nodesL l
  have loop : ∀ (d i : Nat), i ≤ l.length → l.length - i = d → Ev (fun f => lychgateref02_right.l0 f (i : Int) k l) (rightL (l.drop i)) := by
    intro d
    induction d with
    | zero =>
      intro i hi hd
      refine Ev.step (f := fun _ => some true) (fun f => by simp only [lychgateref02_right.l0]; rw [if_neg (by omega)]) (Ev_eq (Ev.now _) ?_)
      rw [List.drop_eq_nil_of_le (by omega), rightL]
    | succ d ihd =>
      intro i hi hd
      have hlt : i < l.length := by omega
      have hr := nodesL_rd l i hlt
      have e1 := ih (rd_T43 l i).f0 (rd_T43 l i).f1 (by omega) (by omega)
      rw [S43.eta] at e1
      refine Ev.step (f := fun f => (lychgateref02_right.f f (rd_T43 l i).f0 (rd_T43 l i).f1).bind fun t => if t = true then lychgateref02_right.l0 f ((i + 1 : Nat) : Int) k l else some false) (fun f => ?_) (Ev.bind e1 ?_)
      · simp only [lychgateref02_right.l0]
        rw [if_pos (by omega), if_pos (by omega), w64 ((i : Int) + 1) (by omega) (by omega)]
        rfl
      · rw [rightL_drop l i hlt]
        cases rightB (rd_T43 l i) with
        | true => simpa using ihd (i + 1) (by omega) (by omega)
        | false => simpa using Ev.now _
  refine Ev.step (f := fun f => (lychgateref02_Kids.f f k).bind fun t => if t = (l.length : Int) then lychgateref02_right.l0 f 0 k l else some false) (fun f => by simp only [lychgateref02_right.f]) (Ev.bind (Kids_ev k) ?_)
  rw [rightB]
  by_cases hp : partsI k = (l.length : Int)
  · simp only [hp, if_true, decide_true, Bool.true_and]
    exact Ev_eq (loop l.length 0 (by omega) rfl) (by rw [List.drop_zero])
  · simpa [hp] using Ev.now _
theorem refCheck_ev (k : Int) (l : List S43) : Ev (fun f => lychgateref02_Check.f f k l) (checkI ⟨k, l⟩) := by
  unfold checkI lychgateref02_Check.f
  refine Ev.bind (refNodes_ev k l) ?_
  by_cases h8 : 8192 < nodes ⟨k, l⟩
  · rw [if_pos h8]
    have h9 : ((min (nodes ⟨k, l⟩) 8193 : Nat) : Int) > 8192 := by omega
    simp only [h9, if_true]
    exact Ev.now _
  · rw [if_neg h8]
    have h9 : ¬ ((min (nodes ⟨k, l⟩) 8193 : Nat) : Int) > 8192 := by omega
    simp only [h9, if_false]
    refine Ev.bind (refDepth_ev k l) ?_
    rw [if_neg h8]
    by_cases h2 : 200 < depth ⟨k, l⟩
    · rw [if_pos h2]
      have h3 : (min (depth ⟨k, l⟩ : Int) 201) > 200 := by omega
      simp only [h3, if_true]
      exact Ev.now _
    · rw [if_neg h2]
      have h3 : ¬ (min (depth ⟨k, l⟩ : Int) 201) > 200 := by omega
      simp only [h3, if_false]
      rw [nodes] at h8
      refine Ev.bind (refright_ev (nodesL l + 1) k l (by omega) (by omega)) ?_
      cases rightB ⟨k, l⟩ <;> simpa using Ev.now _
end Go.Proofs.YtjmpejbciniceaaDoor.X
namespace Go.Proofs.YtjmpejbciniceaaDoor.X
open Go.RowKit Go.Proofs.YtjmpejbciniceaaDoorW.PrintWords Go.Proofs.YtjmpejbciniceaaDoorW.PrintLast Go.Proofs.YtjmpejbciniceaaDoorW.PrintMore
set_option linter.unusedVariables false
set_option linter.unusedSimpArgs false
def leafB (k : Int) : Bool := decide (k = 0) || (decide (k = 1) || (decide (k = 2) || decide (k = 3)))
theorem typed_is (k : Int) : lychgateref15_typed.f k = some (leafB k) := by
  unfold lychgateref15_typed.f leafB
  by_cases h0 : k = 0
  · simp [h0]
  · by_cases h1 : k = 1
    · simp [h1]
    · by_cases h2 : k = 2
      · simp [h2]
      · simp [h0, h1, h2]
        rfl
theorem toed_is (k : Int) : lychgateref15_toed.f k = some (decide (k = 1)) := by
  unfold lychgateref15_toed.f
  rfl
mutual
def cnodes : S54 → Nat
  | ⟨k, t, u, _, _, l⟩ => 1 + (if leafB k then min (nodes t) 8193 else 0) + (if k = 1 then min (nodes u) 8193 else 0) + cnodesL l
def cnodesL : List S54 → Nat
  | [] => 0
  | x :: l => cnodes x + cnodesL l
end
mutual
def cdepth : S54 → Nat
  | ⟨k, t, u, _, _, l⟩ => 1 + max (if leafB k then (depthI t).toNat else 0) (max (if k = 1 then (depthI u).toNat else 0) (cdepthL l))
def cdepthL : List S54 → Nat
  | [] => 0
  | x :: l => max (cdepth x) (cdepthL l)
end
theorem cnodes_eq (x : S54) : cnodes x = 1 + (if leafB x.f0 then min (nodes x.f1) 8193 else 0) + (if x.f0 = 1 then min (nodes x.f2) 8193 else 0) + cnodesL x.f5 := by cases x; rw [cnodes]
theorem cdepth_eq (x : S54) : cdepth x = 1 + max (if leafB x.f0 then (depthI x.f1).toNat else 0) (max (if x.f0 = 1 then (depthI x.f2).toNat else 0) (cdepthL x.f5)) := by cases x; rw [cdepth]
theorem drop_rd47 (l : List S54) (i : Nat) (h : i < l.length) : l.drop i = rd_T54 l i :: l.drop (i + 1) := by
  rw [List.drop_eq_getElem_cons h]
  congr 1
  simp [rd_T54, List.getD_eq_getElem?_getD, h]
theorem cnodesL_drop (l : List S54) (i : Nat) (h : i < l.length) : cnodesL (l.drop i) = cnodes (rd_T54 l i) + cnodesL (l.drop (i + 1)) := by rw [drop_rd47 l i h, cnodesL]
theorem cdepthL_drop (l : List S54) (i : Nat) (h : i < l.length) : cdepthL (l.drop i) = max (cdepth (rd_T54 l i)) (cdepthL (l.drop (i + 1))) := by rw [drop_rd47 l i h, cdepthL]
theorem cnodesL_append (l m : List S54) : cnodesL (l ++ m) = cnodesL l + cnodesL m := by
  induction l with
  | nil => simp [cnodesL]
  | cons x l ih => simp only [List.cons_append, cnodesL, ih]; omega
theorem cnodesL_drop_le (l : List S54) (i : Nat) : cnodesL (l.drop i) ≤ cnodesL l := by
  have := cnodesL_append (l.take i) (l.drop i)
  rw [List.take_append_drop] at this
  omega
theorem length_le_cnodesL (l : List S54) : l.length ≤ cnodesL l := by
  induction l with
  | nil => simp
  | cons x l ih => simp only [List.length_cons, cnodesL]; have := cnodes_eq x; omega
theorem rcount_ev (n : Nat) : ∀ (x : S54) (c : Int), cnodes x < n → 0 ≤ c → c ≤ 8192 → ∃ r : Int, Ev (fun f => lychgateref15_count.f f x.f0 x.f1.f0 x.f1.f1 x.f2.f0 x.f2.f1 x.f3 x.f4 x.f5 c) r ∧ (c + cnodes x ≤ 8192 → r = c + cnodes x) ∧ (8192 < c + cnodes x → 8192 < r) ∧ r ≤ 30000 ∧ c + 1 ≤ r := by
  induction n with
  | zero => intro x c h; omega
  | succ n ih =>
  intro x c hn h0 h8
  obtain ⟨k, t, u, la, ne, l⟩ := x
  rw [cnodes_eq] at hn
  simp only at hn
  have loop : ∀ (d i : Nat) (c : Int), i ≤ l.length → l.length - i = d → (i : Int) ≤ c → c ≤ 30000 → ∃ r : Int, Ev (fun f => lychgateref15_count.l0 f c (i : Int) k t.f0 t.f1 u.f0 u.f1 la ne l) r ∧ (c + cnodesL (l.drop i) ≤ 8192 → r = c + cnodesL (l.drop i)) ∧ (8192 < c + cnodesL (l.drop i) → 8192 < r) ∧ r ≤ 30000 ∧ c ≤ r := by
    intro d
    induction d with
    | zero =>
      intro i c hi hd hic h0
      refine ⟨c, Ev.step (f := fun _ => some c) (fun f => by simp only [lychgateref15_count.l0]; rw [if_neg (by omega)]) (Ev.now _), ?_⟩
      rw [List.drop_eq_nil_of_le (by omega), cnodesL]
      omega
    | succ d ihd =>
      intro i c hi hd hic h0
      have hlt : i < l.length := by omega
      have hd2 := cnodesL_drop l i hlt
      have hd3 := cnodesL_drop_le l i
      by_cases hc : c ≤ 8192
      · obtain ⟨r1, e1, a1, b1, k1, m1⟩ := ih (rd_T54 l i) c (by omega) (by omega) hc
        obtain ⟨r2, e2, a2, b2, k2, m2⟩ := ihd (i + 1) r1 (by omega) (by omega) (by omega) k1
        refine ⟨r2, ?_, by omega, by omega, k2, by omega⟩
        refine Ev.step (f := fun f => (lychgateref15_count.f f (rd_T54 l i).f0 (rd_T54 l i).f1.f0 (rd_T54 l i).f1.f1 (rd_T54 l i).f2.f0 (rd_T54 l i).f2.f1 (rd_T54 l i).f3 (rd_T54 l i).f4 (rd_T54 l i).f5 c).bind fun t0 => lychgateref15_count.l0 f t0 ((i + 1 : Nat) : Int) k t.f0 t.f1 u.f0 u.f1 la ne l) (fun f => ?_) (Ev.bind e1 e2)
        simp only [lychgateref15_count.l0]
        rw [if_pos (by omega), if_pos hc, if_pos (by omega), w64 ((i : Int) + 1) (by omega) (by omega)]
        rfl
      · refine ⟨c, Ev.step (f := fun _ => some c) (fun f => by simp only [lychgateref15_count.l0]; rw [if_pos (by omega), if_neg hc]) (Ev.now _), by omega, by omega, by omega, by omega⟩
  have hj1 : ∀ c : Int, 0 ≤ c → c ≤ 30000 → ∃ r : Int, Ev (fun f => lychgateref15_count.j1 f c k t.f0 t.f1 u.f0 u.f1 la ne l) r ∧ (c + cnodesL l ≤ 8192 → r = c + cnodesL l) ∧ (8192 < c + cnodesL l → 8192 < r) ∧ r ≤ 30000 ∧ c ≤ r := by
    intro c h0 h8
    obtain ⟨r, e, h⟩ := loop l.length 0 c (by omega) (by omega) (by omega) h8
    rw [List.drop_zero] at h
    exact ⟨r, Ev.step (f := fun f => lychgateref15_count.l0 f c 0 k t.f0 t.f1 u.f0 u.f1 la ne l) (fun f => by simp only [lychgateref15_count.j1]) e, h⟩
  have nu := refNodes_ev u.f0 u.f1
  rw [S43.eta] at nu
  have nt := refNodes_ev t.f0 t.f1
  rw [S43.eta] at nt
  have hj0 : ∀ c : Int, 0 ≤ c → c ≤ 20000 → ∃ r : Int, Ev (fun f => lychgateref15_count.j0 f c k t.f0 t.f1 u.f0 u.f1 la ne l) r ∧ (c + ((if k = 1 then min (nodes u) 8193 else 0 : Nat) : Int) + cnodesL l ≤ 8192 → r = c + ((if k = 1 then min (nodes u) 8193 else 0 : Nat) : Int) + cnodesL l) ∧ (8192 < c + ((if k = 1 then min (nodes u) 8193 else 0 : Nat) : Int) + cnodesL l → 8192 < r) ∧ r ≤ 30000 ∧ c ≤ r := by
    intro c h0 h8
    by_cases hk : k = 1
    · obtain ⟨r, e, h⟩ := hj1 (c + ((min (nodes u) 8193 : Nat) : Int)) (by omega) (by omega)
      refine ⟨r, Ev.step (f := fun f => (lychgateref02_Nodes.f f u.f0 u.f1).bind fun t0 => lychgateref15_count.j1 f (wrap64 (c + t0)) k t.f0 t.f1 u.f0 u.f1 la ne l) (fun f => by simp only [lychgateref15_count.j0, toed_is, hk, decide_true, Option.bind_some, if_true]) (Ev.bind nu (by rw [w64 _ (by omega) (by omega)]; exact e)), ?_⟩
      rw [if_pos hk]
      omega
    · obtain ⟨r, e, h⟩ := hj1 c h0 (by omega)
      refine ⟨r, Ev.step (f := fun f => lychgateref15_count.j1 f c k t.f0 t.f1 u.f0 u.f1 la ne l) (fun f => by simp [lychgateref15_count.j0, toed_is, hk]) e, ?_⟩
      rw [if_neg hk]
      omega
  rw [cnodes_eq]
  simp only
  by_cases hk : leafB k = true
  · obtain ⟨r, e, h⟩ := hj0 (c + 1 + ((min (nodes t) 8193 : Nat) : Int)) (by omega) (by omega)
    refine ⟨r, Ev.step (f := fun f => (lychgateref02_Nodes.f f t.f0 t.f1).bind fun t0 => lychgateref15_count.j0 f (wrap64 (c + 1 + t0)) k t.f0 t.f1 u.f0 u.f1 la ne l) (fun f => by simp only [lychgateref15_count.f, typed_is, hk, Option.bind_some, if_true]; rw [w64 (c + 1) (by omega) (by omega)]) (Ev.bind nt (by rw [w64 _ (by omega) (by omega)]; exact e)), ?_⟩
    rw [if_pos hk]
    omega
  · obtain ⟨r, e, h⟩ := hj0 (c + 1) (by omega) (by omega)
    refine ⟨r, Ev.step (f := fun f => lychgateref15_count.j0 f (c + 1) k t.f0 t.f1 u.f0 u.f1 la ne l) (fun f => by simp [lychgateref15_count.f, typed_is, hk]; rw [w64 (c + 1) (by omega) (by omega)]) e, ?_⟩
    rw [if_neg hk]
    omega
theorem depthI_ge (t : S43) : 0 ≤ depthI t ∧ depthI t ≤ 201 := by
  unfold depthI
  split <;> omega
theorem rdeep_ev (n : Nat) : ∀ (x : S54) (left : Int), cnodes x < n → cnodes x ≤ 8192 → 1 ≤ left → left ≤ 201 → Ev (fun f => lychgateref15_deep.f f x.f0 x.f1.f0 x.f1.f1 x.f2.f0 x.f2.f1 x.f3 x.f4 x.f5 left) (min (cdepth x : Int) left) := by
  induction n with
  | zero => intro x c h; omega
  | succ n ih =>
  intro x left hn h8 h1 h2
  obtain ⟨k, t, u, la, ne, l⟩ := x
  rw [cnodes_eq] at hn h8
  rw [cdepth_eq]
  simp only at hn h8 ⊢
  have hlen := length_le_cnodesL l
  by_cases hl : left ≤ 1
  · refine Ev.step (f := fun _ => some left) (fun f => by simp only [lychgateref15_deep.f]; rw [if_pos hl]) (Ev_eq (Ev.now _) ?_)
    omega
  · have loop : ∀ (d i : Nat) (acc : Int), i ≤ l.length → l.length - i = d → 0 ≤ acc → acc ≤ 201 →
        Ev (fun f => lychgateref15_deep.l0 f left acc (i : Int) k t.f0 t.f1 u.f0 u.f1 la ne l) (min (max acc ((cdepthL (l.drop i) : Nat) : Int) + 1) left) := by
      intro d
      induction d with
      | zero =>
        intro i acc hi hd h0 h200
        refine Ev.step (f := fun _ => some (mn (1 + acc) left)) (fun f => by simp only [lychgateref15_deep.l0]; rw [if_neg (by omega), w64 _ (by omega) (by omega)]) (Ev_eq (Ev.now _) ?_)
        rw [List.drop_eq_nil_of_le (by omega), cdepthL]
        unfold mn
        split <;> omega
      | succ d ihd =>
        intro i acc hi hd h0 h200
        have hlt : i < l.length := by omega
        have hd2 := cnodesL_drop l i hlt
        have hd3 := cnodesL_drop_le l i
        have hdr := cdepthL_drop l i hlt
        have e1 := ih (rd_T54 l i) (left - 1) (by omega) (by omega) (by omega) (by omega)
        have e2 := ihd (i + 1) (mx acc (min (cdepth (rd_T54 l i) : Int) (left - 1))) (by omega) (by omega) (by unfold mx; split <;> omega) (by unfold mx; split <;> omega)
        refine Ev.step (f := fun f => (lychgateref15_deep.f f (rd_T54 l i).f0 (rd_T54 l i).f1.f0 (rd_T54 l i).f1.f1 (rd_T54 l i).f2.f0 (rd_T54 l i).f2.f1 (rd_T54 l i).f3 (rd_T54 l i).f4 (rd_T54 l i).f5 (left - 1)).bind fun t0 => lychgateref15_deep.l0 f left (mx acc t0) ((i + 1 : Nat) : Int) k t.f0 t.f1 u.f0 u.f1 la ne l) (fun f => ?_) (Ev.bind e1 (Ev_eq e2 ?_))
        · simp only [lychgateref15_deep.l0]
          rw [if_pos (by omega), if_pos (by omega), w64 (left - 1) (by omega) (by omega), w64 ((i : Int) + 1) (by omega) (by omega)]
          rfl
        · rw [hdr]
          unfold mx
          split <;> omega
    have hj1 : ∀ acc : Int, 0 ≤ acc → acc ≤ 201 → Ev (fun f => lychgateref15_deep.j1 f left acc k t.f0 t.f1 u.f0 u.f1 la ne l) (min (max acc ((cdepthL l : Nat) : Int) + 1) left) := by
      intro acc h0 h8
      have e := loop l.length 0 acc (by omega) (by omega) h0 h8
      rw [List.drop_zero] at e
      exact Ev.step (f := fun f => lychgateref15_deep.l0 f left acc 0 k t.f0 t.f1 u.f0 u.f1 la ne l) (fun f => by simp only [lychgateref15_deep.j1]) e
    have nu := refDepth_ev u.f0 u.f1
    rw [S43.eta] at nu
    have nt := refDepth_ev t.f0 t.f1
    rw [S43.eta] at nt
    replace nu : Ev (fun f => lychgateref02_Depth.f f u.f0 u.f1) (depthI u) := nu
    replace nt : Ev (fun f => lychgateref02_Depth.f f t.f0 t.f1) (depthI t) := nt
    have gu := depthI_ge u
    have gt := depthI_ge t
    have hj0 : ∀ acc : Int, 0 ≤ acc → acc ≤ 201 → Ev (fun f => lychgateref15_deep.j0 f left acc k t.f0 t.f1 u.f0 u.f1 la ne l) (min (max (max acc ((if k = 1 then (depthI u).toNat else 0 : Nat) : Int)) ((cdepthL l : Nat) : Int) + 1) left) := by
      intro acc h0 h8
      by_cases hk : k = 1
      · refine Ev.step (f := fun f => (lychgateref02_Depth.f f u.f0 u.f1).bind fun t0 => lychgateref15_deep.j1 f left (mx acc t0) k t.f0 t.f1 u.f0 u.f1 la ne l) (fun f => by simp only [lychgateref15_deep.j0, toed_is, hk, decide_true, Option.bind_some, if_true]) (Ev.bind nu (Ev_eq (hj1 (mx acc (depthI u)) (by unfold mx; split <;> omega) (by unfold mx; split <;> omega)) ?_))
        rw [if_pos hk]
        unfold mx
        split <;> omega
      · refine Ev.step (f := fun f => lychgateref15_deep.j1 f left acc k t.f0 t.f1 u.f0 u.f1 la ne l) (fun f => by simp [lychgateref15_deep.j0, toed_is, hk]) (Ev_eq (hj1 acc h0 h8) ?_)
        rw [if_neg hk]
        omega
    by_cases hk : leafB k = true
    · refine Ev.step (f := fun f => (lychgateref02_Depth.f f t.f0 t.f1).bind fun t0 => lychgateref15_deep.j0 f left (mx 0 t0) k t.f0 t.f1 u.f0 u.f1 la ne l) (fun f => by simp only [lychgateref15_deep.f, typed_is, hk, Option.bind_some, if_true]; rw [if_neg hl]) (Ev.bind nt (Ev_eq (hj0 (mx 0 (depthI t)) (by unfold mx; split <;> omega) (by unfold mx; split <;> omega)) ?_))
      rw [if_pos hk]
      unfold mx
      split <;> omega
    · refine Ev.step (f := fun f => lychgateref15_deep.j0 f left 0 k t.f0 t.f1 u.f0 u.f1 la ne l) (fun f => by simp [lychgateref15_deep.f, typed_is, hk, hl]) (Ev_eq (hj0 0 (by omega) (by omega)) ?_)
      rw [if_neg hk]
      omega
end Go.Proofs.YtjmpejbciniceaaDoor.X
namespace Go.Proofs.YtjmpejbciniceaaDoor.X
open Go.RowKit Go.Proofs.YtjmpejbciniceaaDoorW.PrintWords Go.Proofs.YtjmpejbciniceaaDoorW.PrintLast Go.Proofs.YtjmpejbciniceaaDoorW.PrintMore
attribute [local go_sem] max2_int min2_int max_two min_two max_three min_three max_four min_four
set_option linter.unusedVariables false
set_option linter.unusedSimpArgs false
mutual
def types_equal.l0 : Nat → Int → Int → Int → List (S43) → Int → List (S43) → Option (Bool)
  | 0, _, _, _, _, _, _ => none
  | k + 1, x13, x14, x123000, x123001, x124000, x124001 => if x14 < x13 then (if 0 ≤ x14 then (if x14 < (x123001.length : Int) then (if x14 < (x124001.length : Int) then ((types_equal.f k ((rd_T43 x123001 x14).f0) ((rd_T43 x123001 x14).f1) ((rd_T43 x124001 x14).f0) ((rd_T43 x124001 x14).f1)).bind fun t126 => (if t126 = true then (types_equal.l0 k x13 (wrap64 (x14 + 1)) x123000 x123001 x124000 x124001) else (some false))) else (none)) else (none)) else (none)) else (some true)
def types_equal.f : Nat → Int → List (S43) → Int → List (S43) → Option (Bool)
  | 0, _, _, _, _ => none
  | k + 1, a0_0, l0_1, a1_0, l1_1 => if a0_0 = a1_0 then (types_equal.l0 k (l0_1.length : Int) 0 a0_0 l0_1 a1_0 l1_1) else (some false)
end
theorem types_equal.mono_l : ∀ k, (∀ y0 y1 y2 y3, LeO (types_equal.f k y0 y1 y2 y3) (types_equal.f (k + 1) y0 y1 y2 y3)) ∧ (∀ y0 y1 y2 y3 y4 y5, LeO (types_equal.l0 k y0 y1 y2 y3 y4 y5) (types_equal.l0 (k + 1) y0 y1 y2 y3 y4 y5))
  | 0 => ⟨fun _ _ _ _ r h => by simp [types_equal.f] at h, fun _ _ _ _ _ _ r h => by simp [types_equal.l0] at h⟩
  | k + 1 => by
    obtain ⟨ih0, ih1⟩ := types_equal.mono_l k
    refine ⟨?_, ?_⟩
    · intro y0 y1 y2 y3
      unfold types_equal.f
      repeat' first
      | (with_reducible exact ih0 _ _ _ _)
      | (with_reducible exact ih1 _ _ _ _ _ _)
      | (with_reducible exact LeO.refl _)
      | (with_reducible exact LeO.none _)
      | (with_reducible refine LeO.ite ?_ ?_)
      | (with_reducible refine LeO.bind ?_ (fun _ => ?_))
      | exact ih0 _ _ _ _
      | exact ih1 _ _ _ _ _ _
      | exact LeO.none _
      | refine LeO.ite ?_ ?_
      | refine LeO.bind ?_ (fun _ => ?_)
    · intro y0 y1 y2 y3 y4 y5
      unfold types_equal.l0
      repeat' first
      | (with_reducible exact ih0 _ _ _ _)
      | (with_reducible exact ih1 _ _ _ _ _ _)
      | (with_reducible exact LeO.refl _)
      | (with_reducible exact LeO.none _)
      | (with_reducible refine LeO.ite ?_ ?_)
      | (with_reducible refine LeO.bind ?_ (fun _ => ?_))
      | exact ih0 _ _ _ _
      | exact ih1 _ _ _ _ _ _
      | exact LeO.none _
      | refine LeO.ite ?_ ?_
      | refine LeO.bind ?_ (fun _ => ?_)
theorem types_equal.mono : ∀ a0 a1 a2 a3 k, LeO (types_equal.f k a0 a1 a2 a3) (types_equal.f (k + 1) a0 a1 a2 a3) := by
  intro a0 a1 a2 a3 k
  obtain ⟨ih0, ih1⟩ := types_equal.mono_l k
  exact ih0 a0 a1 a2 a3
set_option maxHeartbeats 8000000 in
set_option maxRecDepth 100000 in
theorem types_equal.calls (k : Nat) : ∀ (a0_0 : Int) (A0_1 : Option Addr) (c0_1 : Nat) (l0_1 : List (S43)) (a1_0 : Int) (A1_1 : Option Addr) (c1_1 : Nat) (l1_1 : List (S43)) (r : Bool) (w : World) (hr0_1 : Kd.C k43 w A0_1 l0_1.length l0_1) (hc0_1 : l0_1.length ≤ c0_1) (hr1_1 : Kd.C k43 w A1_1 l1_1.length l1_1) (hc1_1 : l1_1.length ≤ c1_1) (h : types_equal.f k a0_0 l0_1 a1_0 l1_1 = some r),
    Calls Tryd.prog 75 #[.agg #[.int .i8 a0_0, .slice A0_1 l0_1.length c0_1], .agg #[.int .i8 a1_0, .slice A1_1 l1_1.length c1_1]] w fun e w' => e = .returned (.bool r) ∧ Below w.heap.size w w' := by
  induction k using Nat.strongRecOn with
  | _ k ih =>
  intro a0_0 A0_1 c0_1 l0_1 a1_0 A1_1 c1_1 l1_1 r w hr0_1 hc0_1 hr1_1 hc1_1 h
  cases k with
  | zero => exact absurd h (by simp [types_equal.f])
  | succ k =>
  simp only [types_equal.f] at h
  have hL : l0_1.length ≤ 9223372036854775807 := hr0_1.2.1
  have IH := Aside0.mk ih
  obtain ⟨q0, q1, hB⟩ := two_ w (.cells #[.int .i8 a0_0, .slice A0_1 l0_1.length c0_1] 43) (.cells #[.int .i8 a1_0, .slice A1_1 l1_1.length c1_1] 43)
  have HK0 := Aside0.mk q0
  have HK1 := Aside0.mk q1
  have HA := Aside0.mk (Kd.C_below hr0_1 hB)
  have HB := Aside0.mk (Kd.C_below hr1_1 hB)
  have HW := Aside0.mk hB
  have HC := Aside0.mk (And.intro hc0_1 hc1_1)
  clear q0 q1 hr0_1 hr1_1 hB ih hc0_1 hc1_1
  go_enter Tryd.func75, Tryd.ntmps75
  by_cases e0 : a0_0 = a1_0
  case neg =>
    rw [if_neg e0] at h
    cases h
    have e1 : (a0_0 != a1_0) = true := bne_iff_ne.mpr e0
    go_wp2_with fail
    go_ret
    exact ⟨rfl, HW.out⟩
  rw [if_pos e0] at h
  have e1 : (a0_0 != a1_0) = false := bne_eq_false_iff_eq.mpr e0
  have H := Aside0.mk h
  have E0 := Aside0.mk e0
  clear h e0
  go_wp2_with fail
  generalize (w.alloc (.cells #[.int .i8 a0_0, .slice A0_1 l0_1.length c0_1] 43)).alloc (.cells #[.int .i8 a1_0, .slice A1_1 l1_1.length c1_1] 43) = w0 at *
  go_loopw [14] (fun i wr => ∃ j : Nat, i = .int .i64 j ∧ j ≤ l0_1.length ∧ Below w0.heap.size w0 wr ∧ ∃ k', k' ≤ k ∧ types_equal.l0 k' l0_1.length (j : Int) a0_0 l0_1 a1_0 l1_1 = some r) (fun i _ => l0_1.length - (intOf i).toNat)
  case atStart => exact ⟨0, rfl, Nat.zero_le _, Below.refl _ _, k, Nat.le_refl _, H.out⟩
  case round =>
    obtain ⟨j, rfl, hj, hB, k', hk', hl⟩ := hrel
    have HY := Aside0.mk hB
    clear hB H
    have K0 := Aside0.mk (blk_below HK0.out HY.out)
    have K1 := Aside0.mk (blk_below HK1.out HY.out)
    cases k' with
    | zero => exact absurd hl (by simp [types_equal.l0])
    | succ k' =>
    simp only [types_equal.l0] at hl
    by_cases hlt : j < l0_1.length
    case neg =>
      obtain rfl : j = l0_1.length := by omega
      rw [if_neg (by omega)] at hl
      cases hl
      obtain ⟨a0, a1, -, -⟩ := cells2 K0.out
      go_wp2_with fail
      go_ret
      exact ⟨rfl, below_then HW.out HW.out.size HY.out⟩
    rw [if_pos (by omega), if_pos (by omega)] at hl
    rw [if_pos (by omega)] at hl
    by_cases hlu : (j : Int) < (l1_1.length : Int)
    case neg => rw [if_neg hlu] at hl; cases hl
    rw [if_pos hlu] at hl
    obtain ⟨t, ht, hl⟩ := Option.bind_eq_some_iff.mp hl
    obtain ⟨ad, P2, Pn2, rfl, ha0, ha1, la1, la2⟩ := at_T43 (Kd.C_below HA.out HY.out) (j : Int) (by omega) (by omega)
    obtain ⟨ae, Q2, Qn2, rfl, hb0, hb1, lb1, lb2⟩ := at_T43 (Kd.C_below HB.out HY.out) (j : Int) (by omega) (by omega)
    have hlu' : j < l1_1.length := by omega
    have HKa := Aside0.mk (And.intro la1 la2)
    have HKb := Aside0.mk (And.intro lb1 lb2)
    have HT := Aside0.mk ht
    have HL := Aside0.mk hl
    clear la1 la2 lb1 lb2 ht hl hlu
    generalize rd_T43 l0_1 (j : Int) = x at *
    generalize rd_T43 l1_1 (j : Int) = y at *
    have hlu : (j : Int) < (l1_1.length : Int) := by omega
    have HDa := Aside0.mk ha0
    have HDb := Aside0.mk ha1
    have HDc := Aside0.mk hb0
    have HDd := Aside0.mk hb1
    clear ha0 ha1 hb0 hb1
    obtain ⟨a0, a1, -, -⟩ := cells2 K0.out
    go_wp2_with fail
    clear a0 a1
    have hda := HDa.out
    have hdb := HDb.out
    have hdc := HDc.out
    have hdd := HDd.out
    simp only [Int.toNat_natCast] at hda hdb hdc hdd
    refine wp_region_held_drew (S := fun w' => w'.cell? ⟨w.heap.size, 1, none⟩ = some (.slice (some ad) l0_1.length c0_1) ∧ w'.cell? ⟨w.heap.size + 1, 1, none⟩ = some (.slice (some ae) l1_1.length c1_1) ∧ w'.cell? (ad.add (j * 2)) = some (.int .i8 x.f0) ∧ w'.cell? ⟨(ad.add (j * 2)).block, (ad.add (j * 2)).off + 1, none⟩ = some (.slice P2 x.f1.length Pn2) ∧ w'.cell? (ae.add (j * 2)) = some (.int .i8 y.f0) ∧ w'.cell? ⟨(ae.add (j * 2)).block, (ae.add (j * 2)).off + 1, none⟩ = some (.slice Q2 y.f1.length Qn2)) (by kernel_rfl) ⟨bcl K0.out, bcl K1.out, hda, hdb, hdc, hdd⟩ (fun hHeld => ?_)
    clear hda hdb hdc hdd
    have hB := (Below.refl wr.heap.size wr).drew
    replace HY := Aside0.mk (below_then HY.out HY.out.size hB)
    replace HKa := Aside0.mk (And.intro HKa.out.1 (Kd.C_below HKa.out.2 hB))
    replace HKb := Aside0.mk (And.intro HKb.out.1 (Kd.C_below HKb.out.2 hB))
    clear hB
    generalize wr.drew = wd at *
    refine tK 17 0 hHeld ?_
    refine tK 18 1 hHeld ?_
    refine tK 19 2 hHeld ?_
    refine tK 20 3 hHeld ?_
    refine tK 21 4 hHeld ?_
    refine tK 22 5 hHeld ?_
    refine tK 23 6 hHeld ?_
    refine tK 24 7 hHeld ?_
    refine tK 25 8 hHeld ?_
    refine tK 26 9 hHeld ?_
    refine cK 27 10 (IH.out k' (by omega) _ _ _ _ _ _ _ _ _ _ HKa.out.2 HKa.out.1 HKb.out.2 HKb.out.1 HT.out) ?_
    rintro e we ⟨rfl, hB⟩
    replace HY := Aside0.mk (below_then HY.out HY.out.size hB)
    refine ⟨_, rfl, ⟨pwc hB hHeld.1, pwc hB hHeld.2.1, pwc hB hHeld.2.2.1, pwc hB hHeld.2.2.2.1, pwc hB hHeld.2.2.2.2.1, pwc hB hHeld.2.2.2.2.2⟩, fun hHeld => nA ?_⟩
    clear hB
    refine tK 28 11 hHeld ?_
    refine wpAnyH_done (by kernel_rfl) ?_ _
    clear hHeld
    have hl := HL.out
    clear HT HL
    by_cases ht : t = true
    · subst ht
      rw [if_pos rfl, show wrap64 ((j : Int) + 1) = ((j + 1 : Nat) : Int) from by unfold wrap64; omega] at hl
      have HL := Aside0.mk hl
      clear hl
      go_wp2_with fail
      go_roundw
      case rel => exact ⟨j + 1, by go_num, by omega, HY.out, k', by omega, HL.out⟩
      case measure => simp [intOf]; omega
    · obtain rfl : t = false := by simpa using ht
      rw [if_neg (by simp)] at hl
      cases hl
      go_wp2_with fail
      go_ret
      exact ⟨rfl, below_then HW.out HW.out.size HY.out⟩
def types_Same.f (k : Nat) (a0_0 : Int) (l0_1 : List (S43)) (a1_0 : Int) (l1_1 : List (S43)) : Option (Bool) := (types_Check.f k a0_0 l0_1).bind fun t129 => (if t129 = 0 then ((types_Check.f k a1_0 l1_1).bind fun t130 => (if t130 = 0 then ((types_equal.f k a0_0 l0_1 a1_0 l1_1).bind fun t131 => (some t131)) else (some false))) else (some false))
theorem types_Same.mono : ∀ a0 a1 a2 a3 k, LeO (types_Same.f k a0 a1 a2 a3) (types_Same.f (k + 1) a0 a1 a2 a3) := by
  intro a0 a1 a2 a3 k
  unfold types_Same.f
  repeat' first
      | (with_reducible exact types_Check.mono _ _ _)
      | (with_reducible exact types_equal.mono _ _ _ _ _)
      | (with_reducible exact LeO.refl _)
      | (with_reducible exact LeO.none _)
      | (with_reducible refine LeO.ite ?_ ?_)
      | (with_reducible refine LeO.bind ?_ (fun _ => ?_))
      | exact types_Check.mono _ _ _
      | exact types_equal.mono _ _ _ _ _
      | exact LeO.none _
      | refine LeO.ite ?_ ?_
      | refine LeO.bind ?_ (fun _ => ?_)
set_option maxHeartbeats 8000000 in
set_option maxRecDepth 100000 in
theorem types_Same.calls (k : Nat) (a0_0 : Int) (A0_1 : Option Addr) (c0_1 : Nat) (l0_1 : List (S43)) (a1_0 : Int) (A1_1 : Option Addr) (c1_1 : Nat) (l1_1 : List (S43)) (r : Bool) (w : World) (hr0_1 : Kd.C k43 w A0_1 l0_1.length l0_1) (hc0_1 : l0_1.length ≤ c0_1) (hr1_1 : Kd.C k43 w A1_1 l1_1.length l1_1) (hc1_1 : l1_1.length ≤ c1_1) (h : types_Same.f k a0_0 l0_1 a1_0 l1_1 = some r) :
    Calls Tryd.prog 33 #[.agg #[.int .i8 a0_0, .slice A0_1 l0_1.length c0_1], .agg #[.int .i8 a1_0, .slice A1_1 l1_1.length c1_1]] w fun e w' => e = .returned (.bool r) ∧ Below w.heap.size w w' := by
  unfold types_Same.f at h
  obtain ⟨t1, h1, h⟩ := Option.bind_eq_some_iff.mp h
  obtain ⟨q0, q1, hB⟩ := two_ w (.cells #[.int .i8 a0_0, .slice A0_1 l0_1.length c0_1] 43) (.cells #[.int .i8 a1_0, .slice A1_1 l1_1.length c1_1] 43)
  have HA := Aside0.mk (Kd.C_below hr0_1 hB)
  have HB := Aside0.mk (Kd.C_below hr1_1 hB)
  have HK0 := Aside0.mk q0
  have HK1 := Aside0.mk q1
  have HW := Aside0.mk hB
  have HC := Aside0.mk (And.intro hc0_1 hc1_1)
  have H := Aside0.mk h
  have H1 := Aside0.mk h1
  clear q0 q1 hr0_1 hr1_1 hB hc0_1 hc1_1 h h1
  obtain ⟨a0, a1, -, -⟩ := cells2 HK0.out
  have NX : ∀ {wa wb : World}, Aside0 (Below wa.heap.size wa wb) → Aside0 (Kd.C k43 wa A0_1 l0_1.length l0_1 ∧ Kd.C k43 wa A1_1 l1_1.length l1_1 ∧ wa.heap[w.heap.size]? = some (.cells #[.int .i8 a0_0, .slice A0_1 l0_1.length c0_1] 43) ∧ wa.heap[w.heap.size + 1]? = some (.cells #[.int .i8 a1_0, .slice A1_1 l1_1.length c1_1] 43) ∧ Below w.heap.size w wa) → Aside0 (Kd.C k43 wb A0_1 l0_1.length l0_1 ∧ Kd.C k43 wb A1_1 l1_1.length l1_1 ∧ wb.heap[w.heap.size]? = some (.cells #[.int .i8 a0_0, .slice A0_1 l0_1.length c0_1] 43) ∧ wb.heap[w.heap.size + 1]? = some (.cells #[.int .i8 a1_0, .slice A1_1 l1_1.length c1_1] 43) ∧ Below w.heap.size w wb) :=
    fun b g => ⟨Kd.C_below g.out.1 b.out, Kd.C_below g.out.2.1 b.out, blk_below g.out.2.2.1 b.out, blk_below g.out.2.2.2.1 b.out, below_then g.out.2.2.2.2 g.out.2.2.2.2.size b.out⟩
  have G := Aside0.mk (And.intro HA.out (And.intro HB.out (And.intro HK0.out (And.intro HK1.out HW.out))))
  clear HA HB HK0 HK1 HW a0 a1
  have NX := Aside0.mk (@NX)
  go_enter Tryd.func33, Tryd.ntmps33
  go_wp2_with fail
  generalize (w.alloc (.cells #[.int .i8 a0_0, .slice A0_1 l0_1.length c0_1] 43)).alloc (.cells #[.int .i8 a1_0, .slice A1_1 l1_1.length c1_1] 43) = w0 at *
  refine (types_Check.calls k _ _ _ _ _ _ G.out.1 HC.out.1 H1.out).mono ?_
  rintro e w1 ⟨rfl, hB⟩
  replace G := NX.out (Aside0.mk hB) G
  clear hB
  have h := H.out
  by_cases e1 : t1 = 0
  case neg =>
    rw [if_neg e1] at h
    cases h
    have e2 : (t1 == 0) = false := beq_eq_false_iff_ne.mpr e1
    go_wp2_with fail
    go_ret
    exact ⟨rfl, G.out.2.2.2.2⟩
  rw [if_pos e1] at h
  obtain ⟨t2, h2, h⟩ := Option.bind_eq_some_iff.mp h
  have e2 : (t1 == 0) = true := beq_iff_eq.mpr e1
  have H2 := Aside0.mk h2
  have H3 := Aside0.mk h
  clear h h2 e1 H
  obtain ⟨b0, b1, -, -⟩ := cells2 G.out.2.2.2.1
  go_wp2_with fail
  clear b0 b1
  refine (types_Check.calls k _ _ _ _ _ _ G.out.2.1 HC.out.2 H2.out).mono ?_
  rintro e w2 ⟨rfl, hB⟩
  replace G := NX.out (Aside0.mk hB) G
  clear hB
  have h := H3.out
  by_cases e3 : t2 = 0
  case neg =>
    rw [if_neg e3] at h
    cases h
    have e4 : (t2 == 0) = false := beq_eq_false_iff_ne.mpr e3
    go_wp2_with fail
    go_ret
    exact ⟨rfl, G.out.2.2.2.2⟩
  rw [if_pos e3] at h
  obtain ⟨t3, h3, h⟩ := Option.bind_eq_some_iff.mp h
  cases h
  have e4 : (t2 == 0) = true := beq_iff_eq.mpr e3
  clear e3
  obtain ⟨a0, a1, -, -⟩ := cells2 G.out.2.2.1
  obtain ⟨b0, b1, -, -⟩ := cells2 G.out.2.2.2.1
  go_wp2_with fail
  refine (types_equal.calls k _ _ _ _ _ _ _ _ _ _ G.out.1 HC.out.1 G.out.2.1 HC.out.2 h3).mono ?_
  rintro e w3 ⟨rfl, hB⟩
  replace G := NX.out (Aside0.mk hB) G
  clear a0 a1 b0 b1 hB
  go_wp2_with fail
  go_ret
  exact ⟨rfl, G.out.2.2.2.2⟩
end Go.Proofs.YtjmpejbciniceaaDoor.X
