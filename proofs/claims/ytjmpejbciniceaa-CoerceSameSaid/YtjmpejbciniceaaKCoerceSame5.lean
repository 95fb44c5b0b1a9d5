/- Texts of this claim, joined: GKids, GCheck, HSpec, HIs, HNodes2, HSpecR, HCo. -/
import Derived.Test.YtjmpejbciniceaaKCoerceSame1
import Derived.Test.YtjmpejbciniceaaKCoerceSame2
import Derived.Test.YtjmpejbciniceaaKCoerceSame3
import Derived.Test.YtjmpejbciniceaaKCoerceSame4
namespace Go.Proofs.Ytjmpejbciniceaa.X
open Go.RowKit Go.Proofs.YtjmpejbciniceaaW.PrintWords Go.Proofs.YtjmpejbciniceaaW.PrintLast Go.Proofs.YtjmpejbciniceaaW.PrintMore
attribute [local go_sem] max2_int min2_int max_two min_two max_three min_three max_four min_four
set_option linter.unusedVariables false
set_option linter.unusedSimpArgs false
def lychgateref02_Kids.j0 : Nat → Int → Bool → Option (Int)
  | 0, _, _ => none
  | k + 1, x3, x4 => if x4 = true then (some 0) else (if x3 = 3 then (some 2) else (if x3 = 4 then (some 2) else (if x3 = 5 then (some 2) else (some (-1)))))
def lychgateref02_Kids.f (k : Nat) (a0 : Int) : Option (Int) := if a0 = 0 then (lychgateref02_Kids.j0 k a0 (a0 == 0)) else (if a0 = 1 then (lychgateref02_Kids.j0 k a0 (a0 == 1)) else (lychgateref02_Kids.j0 k a0 (a0 == 2)))
theorem lychgateref02_Kids.mono_l : ∀ k, (∀ y0 y1, LeO (lychgateref02_Kids.j0 k y0 y1) (lychgateref02_Kids.j0 (k + 1) y0 y1))
  | 0 => fun _ _ r h => by simp [lychgateref02_Kids.j0] at h
  | k + 1 => by
    have ih0 := lychgateref02_Kids.mono_l k
    · intro y0 y1
      unfold lychgateref02_Kids.j0
      repeat' first
      | (with_reducible exact ih0 _ _)
      | (with_reducible exact LeO.refl _)
      | (with_reducible exact LeO.none _)
      | (with_reducible refine LeO.ite ?_ ?_)
      | (with_reducible refine LeO.bind ?_ (fun _ => ?_))
      | exact ih0 _ _
      | exact LeO.none _
      | refine LeO.ite ?_ ?_
      | refine LeO.bind ?_ (fun _ => ?_)
theorem lychgateref02_Kids.mono : ∀ a0 k, LeO (lychgateref02_Kids.f k a0) (lychgateref02_Kids.f (k + 1) a0) := by
  intro a0 k
  have ih0 := lychgateref02_Kids.mono_l k
  unfold lychgateref02_Kids.f
  repeat' first
      | (with_reducible exact ih0 _ _)
      | (with_reducible exact LeO.refl _)
      | (with_reducible exact LeO.none _)
      | (with_reducible refine LeO.ite ?_ ?_)
      | (with_reducible refine LeO.bind ?_ (fun _ => ?_))
      | exact ih0 _ _
      | exact LeO.none _
      | refine LeO.ite ?_ ?_
      | refine LeO.bind ?_ (fun _ => ?_)
set_option maxHeartbeats 8000000 in
set_option maxRecDepth 100000 in
theorem lychgateref02_Kids.calls (k : Nat) (a0 : Int) (r : Int) (w : World) (h : lychgateref02_Kids.f k a0 = some r) :
    Calls Try.prog 80 #[.int .i8 a0] w fun e w' => e = .returned (.int .i64 r) ∧ Drawn0 w w' := by
  have H : (if a0 = 0 then (lychgateref02_Kids.j0 k a0 (a0 == 0)) else (if a0 = 1 then (lychgateref02_Kids.j0 k a0 (a0 == 1)) else (lychgateref02_Kids.j0 k a0 (a0 == 2)))) = some r := h
  clear h
  have HC2 := Aside0.mk H
  clear H
  go_enter Try.func80, Try.ntmps80
  go_upto_if 4 with (fail)
  go_cut [4] (fun v4 wc => ∃ (kq : Nat) (x4_1 : Bool), v4 = .bool x4_1 ∧ Aside0 (lychgateref02_Kids.j0 kq a0 x4_1 = some r) ∧ Aside0 (kq ≤ k) ∧ Drawn0 w wc)
  case first =>
    have H := HC2.out
    clear HC2
    by_cases c3 : a0 = 0
    · rw [if_pos c3] at H
      have c3b0 : (a0 == 0) = true := beq_iff_eq.mpr c3
      have c3b1 : (a0 != 0) = false := bne_eq_false_iff_eq.mpr c3
      clear c3
      (first | rw [c3b0] | (simp only [i64_w, i32_w]; rw [c3b0]) | skip)
      have H' := Aside0.mk H
      clear H
      go_wp2
      go_meet
      case rel => exact ⟨_, ((a0 == 0)), (by first | rfl | simp [*]), H', ⟨by first | omega | exact Nat.le_refl _⟩, by repeat (first | exact Drawn0.refl _ | apply Drawn0.step)⟩
    · rw [if_neg c3] at H
      have c3b0 : (a0 == 0) = false := beq_eq_false_iff_ne.mpr c3
      have c3b1 : (a0 != 0) = true := bne_iff_ne.mpr c3
      (first | rw [c3b0] | (simp only [i64_w, i32_w]; rw [c3b0]) | skip)
      by_cases c4 : a0 = 1
      · rw [if_pos c4] at H
        have c4b0 : (a0 == 1) = true := beq_iff_eq.mpr c4
        have c4b1 : (a0 != 1) = false := bne_eq_false_iff_eq.mpr c4
        clear c4
        have H' := Aside0.mk H
        clear H
        go_wp2
        go_meet
        case rel => exact ⟨_, ((a0 == 1)), (by first | rfl | simp [*]), H', ⟨by first | omega | exact Nat.le_refl _⟩, by repeat (first | exact Drawn0.refl _ | apply Drawn0.step)⟩
      · rw [if_neg c4] at H
        have c4b0 : (a0 == 1) = false := beq_eq_false_iff_ne.mpr c4
        have c4b1 : (a0 != 1) = true := bne_iff_ne.mpr c4
        have H' := Aside0.mk H
        clear H
        go_wp2
        go_meet
        case rel => exact ⟨_, ((a0 == 2)), (by first | rfl | simp [*]), H', ⟨by first | omega | exact Nat.le_refl _⟩, by repeat (first | exact Drawn0.refl _ | apply Drawn0.step)⟩
  case rest =>
    clear HC2
    try clear p2
    try clear c3
    try clear c3b0
    try clear c3b1
    try clear c4
    try clear c4b0
    try clear c4b1
    obtain ⟨kq, x4_1, rfl, HA, HJ1, ⟨mc1, rfl⟩⟩ := hcut
    cases kq with
    | zero => exact absurd HA.out (by simp [lychgateref02_Kids.j0])
    | succ kj1 =>
      have H := HA.out
      clear HA
      simp only [lychgateref02_Kids.j0] at H
      by_cases c5 : x4_1 = true
      · subst c5
        have H1 : (some 0) = some r := by rw [if_pos rfl] at H; exact H
        clear H
        have H := H1
        clear H1
        obtain rfl := Option.some.inj H
        go_wp2
        go_ret
        exact ⟨by first | rfl | (simp; done) | (simp [*]; done), by repeat (first | exact Drawn0.refl _ | apply Drawn0.step)⟩
      · replace c5 := Bool.eq_false_iff.mpr c5
        subst c5
        have H1 : (if a0 = 3 then (some 2) else (if a0 = 4 then (some 2) else (if a0 = 5 then (some 2) else (some (-1))))) = some r := by rw [if_neg (show ¬ (false = true) by decide)] at H; exact H
        clear H
        have H := H1
        clear H1
        by_cases c6 : a0 = 3
        · rw [if_pos c6] at H
          have c6b0 : (a0 == 3) = true := beq_iff_eq.mpr c6
          have c6b1 : (a0 != 3) = false := bne_eq_false_iff_eq.mpr c6
          clear c6
          obtain rfl := Option.some.inj H
          go_wp2
          go_ret
          exact ⟨by first | rfl | (simp; done) | (simp [*]; done), by repeat (first | exact Drawn0.refl _ | apply Drawn0.step)⟩
        · rw [if_neg c6] at H
          have c6b0 : (a0 == 3) = false := beq_eq_false_iff_ne.mpr c6
          have c6b1 : (a0 != 3) = true := bne_iff_ne.mpr c6
          by_cases c7 : a0 = 4
          · rw [if_pos c7] at H
            have c7b0 : (a0 == 4) = true := beq_iff_eq.mpr c7
            have c7b1 : (a0 != 4) = false := bne_eq_false_iff_eq.mpr c7
            clear c7
            obtain rfl := Option.some.inj H
            go_wp2
            go_ret
            exact ⟨by first | rfl | (simp; done) | (simp [*]; done), by repeat (first | exact Drawn0.refl _ | apply Drawn0.step)⟩
          · rw [if_neg c7] at H
            have c7b0 : (a0 == 4) = false := beq_eq_false_iff_ne.mpr c7
            have c7b1 : (a0 != 4) = true := bne_iff_ne.mpr c7
            by_cases c8 : a0 = 5
            · rw [if_pos c8] at H
              have c8b0 : (a0 == 5) = true := beq_iff_eq.mpr c8
              have c8b1 : (a0 != 5) = false := bne_eq_false_iff_eq.mpr c8
              clear c8
              obtain rfl := Option.some.inj H
              go_wp2
              go_ret
              exact ⟨by first | rfl | (simp; done) | (simp [*]; done), by repeat (first | exact Drawn0.refl _ | apply Drawn0.step)⟩
            · rw [if_neg c8] at H
              have c8b0 : (a0 == 5) = false := beq_eq_false_iff_ne.mpr c8
              have c8b1 : (a0 != 5) = true := bne_iff_ne.mpr c8
              obtain rfl := Option.some.inj H
              go_wp2
              go_ret
              exact ⟨by first | rfl | (simp; done) | (simp [*]; done), by repeat (first | exact Drawn0.refl _ | apply Drawn0.step)⟩
end Go.Proofs.Ytjmpejbciniceaa.X
namespace Go.Proofs.Ytjmpejbciniceaa.X
open Go.RowKit Go.Proofs.YtjmpejbciniceaaW.PrintWords Go.Proofs.YtjmpejbciniceaaW.PrintLast Go.Proofs.YtjmpejbciniceaaW.PrintMore
attribute [local go_sem] max2_int min2_int max_two min_two max_three min_three max_four min_four
set_option linter.unusedVariables false
set_option linter.unusedSimpArgs false
mutual
def lychgateref02_right.l0 : Nat → Int → Int → List (S35) → Option (Bool)
  | 0, _, _, _ => none
  | k + 1, x3, x271000, x271001 => if x3 < (x271001.length : Int) then (if 0 ≤ x3 then ((lychgateref02_right.f k ((rd_T35 x271001 x3).f0) ((rd_T35 x271001 x3).f1)).bind fun t273 => (if t273 = true then (lychgateref02_right.l0 k (wrap64 (x3 + 1)) x271000 x271001) else (some false))) else (none)) else (some true)
def lychgateref02_right.f : Nat → Int → List (S35) → Option (Bool)
  | 0, _, _ => none
  | k + 1, a0_0, l0_1 => (lychgateref02_Kids.f k a0_0).bind fun t271 => (if t271 = (l0_1.length : Int) then (lychgateref02_right.l0 k 0 a0_0 l0_1) else (some false))
end
theorem lychgateref02_right.mono_l : ∀ k, (∀ y0 y1, LeO (lychgateref02_right.f k y0 y1) (lychgateref02_right.f (k + 1) y0 y1)) ∧ (∀ y0 y1 y2, LeO (lychgateref02_right.l0 k y0 y1 y2) (lychgateref02_right.l0 (k + 1) y0 y1 y2))
  | 0 => ⟨fun _ _ r h => by simp [lychgateref02_right.f] at h, fun _ _ _ r h => by simp [lychgateref02_right.l0] at h⟩
  | k + 1 => by
    obtain ⟨ih0, ih1⟩ := lychgateref02_right.mono_l k
    refine ⟨?_, ?_⟩
    · intro y0 y1
      unfold lychgateref02_right.f
      repeat' first
      | (with_reducible exact ih0 _ _)
      | (with_reducible exact ih1 _ _ _)
      | (with_reducible exact lychgateref02_Kids.mono _ _)
      | (with_reducible exact LeO.refl _)
      | (with_reducible exact LeO.none _)
      | (with_reducible refine LeO.ite ?_ ?_)
      | (with_reducible refine LeO.bind ?_ (fun _ => ?_))
      | exact ih0 _ _
      | exact ih1 _ _ _
      | exact lychgateref02_Kids.mono _ _
      | exact LeO.none _
      | refine LeO.ite ?_ ?_
      | refine LeO.bind ?_ (fun _ => ?_)
    · intro y0 y1 y2
      unfold lychgateref02_right.l0
      repeat' first
      | (with_reducible exact ih0 _ _)
      | (with_reducible exact ih1 _ _ _)
      | (with_reducible exact lychgateref02_Kids.mono _ _)
      | (with_reducible exact LeO.refl _)
      | (with_reducible exact LeO.none _)
      | (with_reducible refine LeO.ite ?_ ?_)
      | (with_reducible refine LeO.bind ?_ (fun _ => ?_))
      | exact ih0 _ _
      | exact ih1 _ _ _
      | exact lychgateref02_Kids.mono _ _
      | exact LeO.none _
      | refine LeO.ite ?_ ?_
      | refine LeO.bind ?_ (fun _ => ?_)
theorem lychgateref02_right.mono : ∀ a0 a1 k, LeO (lychgateref02_right.f k a0 a1) (lychgateref02_right.f (k + 1) a0 a1) := by
  intro a0 a1 k
  obtain ⟨ih0, ih1⟩ := lychgateref02_right.mono_l k
  exact ih0 a0 a1
set_option maxHeartbeats 8000000 in
set_option maxRecDepth 100000 in
theorem lychgateref02_right.calls (k : Nat) : ∀ (a0_0 : Int) (A0_1 : Option Addr) (c0_1 : Nat) (l0_1 : List (S35)) (r : Bool) (w : World) (hr0_1 : Kd.C k35 w A0_1 l0_1.length l0_1) (hc0_1 : l0_1.length ≤ c0_1) (h : lychgateref02_right.f k a0_0 l0_1 = some r),
    Calls Try.prog 74 #[.agg #[.int .i8 a0_0, .slice A0_1 l0_1.length c0_1]] w fun e w' => e = .returned (.bool r) ∧ Below w.heap.size w w' := by
  induction k using Nat.strongRecOn with
  | _ k ih =>
  intro a0_0 A0_1 c0_1 l0_1 r w hr0_1 hc0_1 h
  cases k with
  | zero => exact absurd h (by simp [lychgateref02_right.f])
  | succ k =>
  simp only [lychgateref02_right.f] at h
  have hu35 := Try.underlying35
  have HR0_1 := Aside0.mk hr0_1
  have HC0_1 := Aside0.mk hc0_1
  clear hr0_1 hc0_1
  have HB := Aside0.mk (Below.refl w.heap.size w)
  have H : ((lychgateref02_Kids.f k a0_0).bind fun t271 => (if t271 = (l0_1.length : Int) then (lychgateref02_right.l0 k 0 a0_0 l0_1) else (some false))) = some r := h
  clear h
  replace H := Option.bind_eq_some_iff.mp H
  obtain ⟨t271, A20, H⟩ := H
  replace H : (if t271 = (l0_1.length : Int) then (lychgateref02_right.l0 k 0 a0_0 l0_1) else (some false)) = some r := H
  have A2 := Aside0.mk A20
  clear A20
  by_cases c3 : t271 = (l0_1.length : Int)
  · rw [if_pos c3] at H
    have c3b0 : (t271 == (l0_1.length : Int)) = true := beq_iff_eq.mpr c3
    have c3b1 : (t271 != (l0_1.length : Int)) = false := bne_eq_false_iff_eq.mpr c3
    clear c3
    have H' := Aside0.mk H
    clear H
    go_enter Try.func74, Try.ntmps74
    go_wp2_with (first | ((with_reducible refine gate_dst (N := 1) rfl ?_); refine box_event ?hg (N := 1) ?hd (cs := #[.int .i8 a0_0, .slice A0_1 l0_1.length c0_1]) (t := 35) ?hr ?_; (case hd => rfl); (case hg => rfl); (case hr => go_simp <;> rfl); intro gb270 hg w4 hbox hb; have n0_ := Aside0.mk (below_step HB.out hb); have n1_ := Aside0.mk (hbox); have n2_ := Aside0.mk ((by rw [hg]; exact (below_size HB.out) : w.heap.size ≤ gb270)); have n3_ := Aside0.mk ((by rw [hg]; exact (below_size HB.out) : w.heap.size ≤ gb270)); clear HB; have HB := n0_; have BK270 := n1_; have GW270 := n2_; have GE270 := n3_; clear n0_ n1_ n2_ n3_; clear hb hbox hg; have hcz5_0 : w4.cell? ⟨gb270, 0, none⟩ = some (.int .i8 a0_0) := (blk_cell BK270.out 0).trans rfl; have hcz5_1 : w4.cell? ⟨gb270, 1, none⟩ = some (.slice A0_1 l0_1.length c0_1) := (blk_cell BK270.out 1).trans rfl) | (go_at_call 80; (with_reducible refine (lychgateref02_Kids.calls k a0_0 t271 _ A2.out).mono ?_); rintro e w' ⟨rfl, ⟨nd, rfl⟩⟩; (try first | exact ⟨rfl, _, World.drewN_drewN _ _ _⟩ | exact ⟨rfl, _, Eq.trans (World.drewN_drewN _ _ _) (congrArg (World.drewN _) (Nat.add_assoc _ _ _))⟩)))
    repeat (go_quiet (first | ((with_reducible refine gate_dst (N := 1) rfl ?_); refine box_event ?hg (N := 1) ?hd (cs := #[.int .i8 a0_0, .slice A0_1 l0_1.length c0_1]) (t := 35) ?hr ?_; (case hd => rfl); (case hg => rfl); (case hr => go_simp <;> rfl); intro gb270 hg w4 hbox hb; have n0_ := Aside0.mk (below_step HB.out hb); have n1_ := Aside0.mk (hbox); have n2_ := Aside0.mk ((by rw [hg]; exact (below_size HB.out) : w.heap.size ≤ gb270)); have n3_ := Aside0.mk ((by rw [hg]; exact (below_size HB.out) : w.heap.size ≤ gb270)); clear HB; have HB := n0_; have BK270 := n1_; have GW270 := n2_; have GE270 := n3_; clear n0_ n1_ n2_ n3_; clear hb hbox hg; have hcz5_0 : w4.cell? ⟨gb270, 0, none⟩ = some (.int .i8 a0_0) := (blk_cell BK270.out 0).trans rfl; have hcz5_1 : w4.cell? ⟨gb270, 1, none⟩ = some (.slice A0_1 l0_1.length c0_1) := (blk_cell BK270.out 1).trans rfl) | (go_at_call 80; (with_reducible refine (lychgateref02_Kids.calls k a0_0 t271 _ A2.out).mono ?_); rintro e w' ⟨rfl, ⟨nd, rfl⟩⟩; (try first | exact ⟨rfl, _, World.drewN_drewN _ _ _⟩ | exact ⟨rfl, _, Eq.trans (World.drewN_drewN _ _ _) (congrArg (World.drewN _) (Nat.add_assoc _ _ _))⟩))); try go_wp2_with (first | ((with_reducible refine gate_dst (N := 1) rfl ?_); refine box_event ?hg (N := 1) ?hd (cs := #[.int .i8 a0_0, .slice A0_1 l0_1.length c0_1]) (t := 35) ?hr ?_; (case hd => rfl); (case hg => rfl); (case hr => go_simp <;> rfl); intro gb270 hg w4 hbox hb; have n0_ := Aside0.mk (below_step HB.out hb); have n1_ := Aside0.mk (hbox); have n2_ := Aside0.mk ((by rw [hg]; exact (below_size HB.out) : w.heap.size ≤ gb270)); have n3_ := Aside0.mk ((by rw [hg]; exact (below_size HB.out) : w.heap.size ≤ gb270)); clear HB; have HB := n0_; have BK270 := n1_; have GW270 := n2_; have GE270 := n3_; clear n0_ n1_ n2_ n3_; clear hb hbox hg; have hcz5_0 : w4.cell? ⟨gb270, 0, none⟩ = some (.int .i8 a0_0) := (blk_cell BK270.out 0).trans rfl; have hcz5_1 : w4.cell? ⟨gb270, 1, none⟩ = some (.slice A0_1 l0_1.length c0_1) := (blk_cell BK270.out 1).trans rfl) | (go_at_call 80; (with_reducible refine (lychgateref02_Kids.calls k a0_0 t271 _ A2.out).mono ?_); rintro e w' ⟨rfl, ⟨nd, rfl⟩⟩; (try first | exact ⟨rfl, _, World.drewN_drewN _ _ _⟩ | exact ⟨rfl, _, Eq.trans (World.drewN_drewN _ _ _) (congrArg (World.drewN _) (Nat.add_assoc _ _ _))⟩))))
    go_loopg [3] k (fun kq v3 w' => ∃ (x3_1 : Int), v3 = .int .i64 x3_1 ∧ Aside0 (lychgateref02_right.l0 kq x3_1 a0_0 l0_1 = some r) ∧ Aside0 (kq ≤ k) ∧ Aside0 (w'.heap[gb270]? = some (.cells #[.int .i8 a0_0, (.slice A0_1 l0_1.length c0_1)] 35 (0, 0))) ∧ Aside0 (Below w.heap.size w w'))
    case atStart => exact ⟨(0), (by first | rfl | simp [*]), H', ⟨Nat.le_refl _⟩, ⟨BK270.out⟩, ⟨by repeat (first | (with_reducible first | exact HB.out | apply below_alloc | apply pw_below_drewN | apply below_drew1 | refine below_set ?_ GE270.out) | exact HB.out)⟩⟩
    case round =>
      clear H'
      try clear p2
      try clear c3
      try clear c3b0
      try clear c3b1
      try clear hcz5_0 hcz5_1
      obtain ⟨x3_1, rfl, HA, HK1, BK270, HB⟩ := hrel
      cases gk with
      | zero => exact absurd HA.out (by simp [lychgateref02_right.l0])
      | succ k1 =>
        have H := HA.out
        clear HA
        simp only [lychgateref02_right.l0] at H
        by_cases c6 : x3_1 < (l0_1.length : Int)
        · rw [if_pos c6] at H
          have c6b0 : decide (x3_1 < (l0_1.length : Int)) = true := decide_eq_true c6
          clear c6
          by_cases c7 : 0 ≤ x3_1
          · rw [if_pos c7] at H
            have c7b0 : decide (0 ≤ x3_1) = true := decide_eq_true c7
            clear c7
            replace H := Option.bind_eq_some_iff.mp H
            obtain ⟨t273, A80, H⟩ := H
            replace H : (if t273 = true then (lychgateref02_right.l0 k1 (wrap64 (x3_1 + 1)) a0_0 l0_1) else (some false)) = some r := H
            have A8 := Aside0.mk A80
            clear A80
            by_cases c9 : t273 = true
            · subst c9
              have H1 : (lychgateref02_right.l0 k1 (wrap64 (x3_1 + 1)) a0_0 l0_1) = some r := by rw [if_pos rfl] at H; exact H
              clear H
              have H := H1
              clear H1
              have H' := Aside0.mk H
              clear H
              have hcz10_0 : wr.cell? ⟨gb270, 0, none⟩ = some (.int .i8 a0_0) := (blk_cell BK270.out 0).trans rfl
              have hcz10_1 : wr.cell? ⟨gb270, 1, none⟩ = some (.slice A0_1 l0_1.length c0_1) := (blk_cell BK270.out 1).trans rfl
              have p272 : 0 ≤ (x3_1 : Int) := of_decide_eq_true (by first | (with_reducible assumption) | assumption)
              have q272 : x3_1 < (l0_1.length : Int) := of_decide_eq_true (by first | (with_reducible assumption) | assumption)
              obtain ⟨ad272, A272_1, c272_1, e272, hx272_0, hx272_1, hl272_1, hi272_1⟩ := at_T35 HR0_1.out x3_1 p272 q272
              cases e272
              replace hx272_0 := (HB.out.cell (World.block_lt_of_cell? w _ hx272_0)).trans hx272_0
              replace hx272_1 := (HB.out.cell (World.block_lt_of_cell? w _ hx272_1)).trans hx272_1
              have HR272_1 := Aside0.mk hi272_1
              have HC272_1 := Aside0.mk hl272_1
              clear hi272_1 hl272_1
              replace p272 := eq_true p272
              replace q272 := eq_true q272
              go_wp2_with (first | (go_at_call 74; (with_reducible refine (ih k1 (by have := HK1.out; omega) ((rd_T35 l0_1 x3_1).f0) _ _ ((rd_T35 l0_1 x3_1).f1) true _ ?side1 ?side2 A8.out).mono ?_); (case side1 => repeat (first | exact (Kd.C_below HR272_1.out HB.out) | (with_reducible refine Kd.C_alloc ?_ _) | (with_reducible refine Kd.C_drewN ?_ _) | (with_reducible refine Kd.C_drew ?_))); (case side2 => exact HC272_1.out); rintro e w11 ⟨rfl, hb⟩; have n0_ := Aside0.mk (blk_below (g := gb270) (o := .cells #[.int .i8 a0_0, .slice (some ad272) l0_1.length c0_1] 35 (0, 0)) BK270.out hb); have n1_ := Aside0.mk (below_step HB.out hb); clear BK270; clear HB; have BK270 := n0_; have HB := n1_; clear n0_ n1_; (try clear hb); (try clear hb2); (try clear hk); (try clear hi)))
              repeat (go_quiet (first | (go_at_call 74; (with_reducible refine (ih k1 (by have := HK1.out; omega) ((rd_T35 l0_1 x3_1).f0) _ _ ((rd_T35 l0_1 x3_1).f1) true _ ?side1 ?side2 A8.out).mono ?_); (case side1 => repeat (first | exact (Kd.C_below HR272_1.out HB.out) | (with_reducible refine Kd.C_alloc ?_ _) | (with_reducible refine Kd.C_drewN ?_ _) | (with_reducible refine Kd.C_drew ?_))); (case side2 => exact HC272_1.out); rintro e w11 ⟨rfl, hb⟩; have n0_ := Aside0.mk (blk_below (g := gb270) (o := .cells #[.int .i8 a0_0, .slice (some ad272) l0_1.length c0_1] 35 (0, 0)) BK270.out hb); have n1_ := Aside0.mk (below_step HB.out hb); clear BK270; clear HB; have BK270 := n0_; have HB := n1_; clear n0_ n1_; (try clear hb); (try clear hb2); (try clear hk); (try clear hi))); try go_wp2_with (first | (go_at_call 74; (with_reducible refine (ih k1 (by have := HK1.out; omega) ((rd_T35 l0_1 x3_1).f0) _ _ ((rd_T35 l0_1 x3_1).f1) true _ ?side1 ?side2 A8.out).mono ?_); (case side1 => repeat (first | exact (Kd.C_below HR272_1.out HB.out) | (with_reducible refine Kd.C_alloc ?_ _) | (with_reducible refine Kd.C_drewN ?_ _) | (with_reducible refine Kd.C_drew ?_))); (case side2 => exact HC272_1.out); rintro e w11 ⟨rfl, hb⟩; have n0_ := Aside0.mk (blk_below (g := gb270) (o := .cells #[.int .i8 a0_0, .slice (some ad272) l0_1.length c0_1] 35 (0, 0)) BK270.out hb); have n1_ := Aside0.mk (below_step HB.out hb); clear BK270; clear HB; have BK270 := n0_; have HB := n1_; clear n0_ n1_; (try clear hb); (try clear hb2); (try clear hk); (try clear hi))))
              go_roundg k1
              case measure => have := HK1.out; omega
              case rel => exact ⟨(wrap64 (x3_1 + 1)), (by first | rfl | simp [*]), H', ⟨by have := HK1.out; omega⟩, ⟨BK270.out⟩, ⟨by repeat (first | (with_reducible first | exact HB.out | apply below_alloc | apply pw_below_drewN | apply below_drew1 | refine below_set ?_ GE270.out) | exact HB.out)⟩⟩
            · replace c9 := Bool.eq_false_iff.mpr c9
              subst c9
              have H1 : (some false) = some r := by rw [if_neg (show ¬ (false = true) by decide)] at H; exact H
              clear H
              have H := H1
              clear H1
              obtain rfl := Option.some.inj H
              have hcz12_0 : wr.cell? ⟨gb270, 0, none⟩ = some (.int .i8 a0_0) := (blk_cell BK270.out 0).trans rfl
              have hcz12_1 : wr.cell? ⟨gb270, 1, none⟩ = some (.slice A0_1 l0_1.length c0_1) := (blk_cell BK270.out 1).trans rfl
              have p272 : 0 ≤ (x3_1 : Int) := of_decide_eq_true (by first | (with_reducible assumption) | assumption)
              have q272 : x3_1 < (l0_1.length : Int) := of_decide_eq_true (by first | (with_reducible assumption) | assumption)
              obtain ⟨ad272, A272_1, c272_1, e272, hx272_0, hx272_1, hl272_1, hi272_1⟩ := at_T35 HR0_1.out x3_1 p272 q272
              cases e272
              replace hx272_0 := (HB.out.cell (World.block_lt_of_cell? w _ hx272_0)).trans hx272_0
              replace hx272_1 := (HB.out.cell (World.block_lt_of_cell? w _ hx272_1)).trans hx272_1
              have HR272_1 := Aside0.mk hi272_1
              have HC272_1 := Aside0.mk hl272_1
              clear hi272_1 hl272_1
              replace p272 := eq_true p272
              replace q272 := eq_true q272
              go_wp2_with (first | (go_at_call 74; (with_reducible refine (ih k1 (by have := HK1.out; omega) ((rd_T35 l0_1 x3_1).f0) _ _ ((rd_T35 l0_1 x3_1).f1) false _ ?side1 ?side2 A8.out).mono ?_); (case side1 => repeat (first | exact (Kd.C_below HR272_1.out HB.out) | (with_reducible refine Kd.C_alloc ?_ _) | (with_reducible refine Kd.C_drewN ?_ _) | (with_reducible refine Kd.C_drew ?_))); (case side2 => exact HC272_1.out); rintro e w13 ⟨rfl, hb⟩; have n0_ := Aside0.mk (blk_below (g := gb270) (o := .cells #[.int .i8 a0_0, .slice (some ad272) l0_1.length c0_1] 35 (0, 0)) BK270.out hb); have n1_ := Aside0.mk (below_step HB.out hb); clear BK270; clear HB; have BK270 := n0_; have HB := n1_; clear n0_ n1_; (try clear hb); (try clear hb2); (try clear hk); (try clear hi)))
              repeat (go_quiet (first | (go_at_call 74; (with_reducible refine (ih k1 (by have := HK1.out; omega) ((rd_T35 l0_1 x3_1).f0) _ _ ((rd_T35 l0_1 x3_1).f1) false _ ?side1 ?side2 A8.out).mono ?_); (case side1 => repeat (first | exact (Kd.C_below HR272_1.out HB.out) | (with_reducible refine Kd.C_alloc ?_ _) | (with_reducible refine Kd.C_drewN ?_ _) | (with_reducible refine Kd.C_drew ?_))); (case side2 => exact HC272_1.out); rintro e w13 ⟨rfl, hb⟩; have n0_ := Aside0.mk (blk_below (g := gb270) (o := .cells #[.int .i8 a0_0, .slice (some ad272) l0_1.length c0_1] 35 (0, 0)) BK270.out hb); have n1_ := Aside0.mk (below_step HB.out hb); clear BK270; clear HB; have BK270 := n0_; have HB := n1_; clear n0_ n1_; (try clear hb); (try clear hb2); (try clear hk); (try clear hi))); try go_wp2_with (first | (go_at_call 74; (with_reducible refine (ih k1 (by have := HK1.out; omega) ((rd_T35 l0_1 x3_1).f0) _ _ ((rd_T35 l0_1 x3_1).f1) false _ ?side1 ?side2 A8.out).mono ?_); (case side1 => repeat (first | exact (Kd.C_below HR272_1.out HB.out) | (with_reducible refine Kd.C_alloc ?_ _) | (with_reducible refine Kd.C_drewN ?_ _) | (with_reducible refine Kd.C_drew ?_))); (case side2 => exact HC272_1.out); rintro e w13 ⟨rfl, hb⟩; have n0_ := Aside0.mk (blk_below (g := gb270) (o := .cells #[.int .i8 a0_0, .slice (some ad272) l0_1.length c0_1] 35 (0, 0)) BK270.out hb); have n1_ := Aside0.mk (below_step HB.out hb); clear BK270; clear HB; have BK270 := n0_; have HB := n1_; clear n0_ n1_; (try clear hb); (try clear hb2); (try clear hk); (try clear hi))))
              go_ret
              exact ⟨by first | rfl | simp [*], by repeat (first | (with_reducible first | exact HB.out | apply below_alloc | apply pw_below_drewN | apply below_drew1 | refine below_set ?_ GE270.out) | exact HB.out)⟩
          · rw [if_neg c7] at H
            exact absurd H (by simp)
        · rw [if_neg c6] at H
          have c6b0 : decide (x3_1 < (l0_1.length : Int)) = false := decide_eq_false c6
          clear c6
          obtain rfl := Option.some.inj H
          have hcz14_0 : wr.cell? ⟨gb270, 0, none⟩ = some (.int .i8 a0_0) := (blk_cell BK270.out 0).trans rfl
          have hcz14_1 : wr.cell? ⟨gb270, 1, none⟩ = some (.slice A0_1 l0_1.length c0_1) := (blk_cell BK270.out 1).trans rfl
          go_wp2
          repeat (go_quiet (fail); try go_wp2)
          go_ret
          exact ⟨by first | rfl | simp [*], by repeat (first | (with_reducible first | exact HB.out | apply below_alloc | apply pw_below_drewN | apply below_drew1 | refine below_set ?_ GE270.out) | exact HB.out)⟩
  · rw [if_neg c3] at H
    have c3b0 : (t271 == (l0_1.length : Int)) = false := beq_eq_false_iff_ne.mpr c3
    have c3b1 : (t271 != (l0_1.length : Int)) = true := bne_iff_ne.mpr c3
    obtain rfl := Option.some.inj H
    go_enter Try.func74, Try.ntmps74
    go_wp2_with (first | ((with_reducible refine gate_dst (N := 1) rfl ?_); refine box_event ?hg (N := 1) ?hd (cs := #[.int .i8 a0_0, .slice A0_1 l0_1.length c0_1]) (t := 35) ?hr ?_; (case hd => rfl); (case hg => rfl); (case hr => go_simp <;> rfl); intro gb270 hg w15 hbox hb; have n0_ := Aside0.mk (below_step HB.out hb); have n1_ := Aside0.mk (hbox); have n2_ := Aside0.mk ((by rw [hg]; exact (below_size HB.out) : w.heap.size ≤ gb270)); have n3_ := Aside0.mk ((by rw [hg]; exact (below_size HB.out) : w.heap.size ≤ gb270)); clear HB; have HB := n0_; have BK270 := n1_; have GW270 := n2_; have GE270 := n3_; clear n0_ n1_ n2_ n3_; clear hb hbox hg; have hcz16_0 : w15.cell? ⟨gb270, 0, none⟩ = some (.int .i8 a0_0) := (blk_cell BK270.out 0).trans rfl; have hcz16_1 : w15.cell? ⟨gb270, 1, none⟩ = some (.slice A0_1 l0_1.length c0_1) := (blk_cell BK270.out 1).trans rfl) | (go_at_call 80; (with_reducible refine (lychgateref02_Kids.calls k a0_0 t271 _ A2.out).mono ?_); rintro e w' ⟨rfl, ⟨nd, rfl⟩⟩; (try first | exact ⟨rfl, _, World.drewN_drewN _ _ _⟩ | exact ⟨rfl, _, Eq.trans (World.drewN_drewN _ _ _) (congrArg (World.drewN _) (Nat.add_assoc _ _ _))⟩)))
    repeat (go_quiet (first | ((with_reducible refine gate_dst (N := 1) rfl ?_); refine box_event ?hg (N := 1) ?hd (cs := #[.int .i8 a0_0, .slice A0_1 l0_1.length c0_1]) (t := 35) ?hr ?_; (case hd => rfl); (case hg => rfl); (case hr => go_simp <;> rfl); intro gb270 hg w15 hbox hb; have n0_ := Aside0.mk (below_step HB.out hb); have n1_ := Aside0.mk (hbox); have n2_ := Aside0.mk ((by rw [hg]; exact (below_size HB.out) : w.heap.size ≤ gb270)); have n3_ := Aside0.mk ((by rw [hg]; exact (below_size HB.out) : w.heap.size ≤ gb270)); clear HB; have HB := n0_; have BK270 := n1_; have GW270 := n2_; have GE270 := n3_; clear n0_ n1_ n2_ n3_; clear hb hbox hg; have hcz16_0 : w15.cell? ⟨gb270, 0, none⟩ = some (.int .i8 a0_0) := (blk_cell BK270.out 0).trans rfl; have hcz16_1 : w15.cell? ⟨gb270, 1, none⟩ = some (.slice A0_1 l0_1.length c0_1) := (blk_cell BK270.out 1).trans rfl) | (go_at_call 80; (with_reducible refine (lychgateref02_Kids.calls k a0_0 t271 _ A2.out).mono ?_); rintro e w' ⟨rfl, ⟨nd, rfl⟩⟩; (try first | exact ⟨rfl, _, World.drewN_drewN _ _ _⟩ | exact ⟨rfl, _, Eq.trans (World.drewN_drewN _ _ _) (congrArg (World.drewN _) (Nat.add_assoc _ _ _))⟩))); try go_wp2_with (first | ((with_reducible refine gate_dst (N := 1) rfl ?_); refine box_event ?hg (N := 1) ?hd (cs := #[.int .i8 a0_0, .slice A0_1 l0_1.length c0_1]) (t := 35) ?hr ?_; (case hd => rfl); (case hg => rfl); (case hr => go_simp <;> rfl); intro gb270 hg w15 hbox hb; have n0_ := Aside0.mk (below_step HB.out hb); have n1_ := Aside0.mk (hbox); have n2_ := Aside0.mk ((by rw [hg]; exact (below_size HB.out) : w.heap.size ≤ gb270)); have n3_ := Aside0.mk ((by rw [hg]; exact (below_size HB.out) : w.heap.size ≤ gb270)); clear HB; have HB := n0_; have BK270 := n1_; have GW270 := n2_; have GE270 := n3_; clear n0_ n1_ n2_ n3_; clear hb hbox hg; have hcz16_0 : w15.cell? ⟨gb270, 0, none⟩ = some (.int .i8 a0_0) := (blk_cell BK270.out 0).trans rfl; have hcz16_1 : w15.cell? ⟨gb270, 1, none⟩ = some (.slice A0_1 l0_1.length c0_1) := (blk_cell BK270.out 1).trans rfl) | (go_at_call 80; (with_reducible refine (lychgateref02_Kids.calls k a0_0 t271 _ A2.out).mono ?_); rintro e w' ⟨rfl, ⟨nd, rfl⟩⟩; (try first | exact ⟨rfl, _, World.drewN_drewN _ _ _⟩ | exact ⟨rfl, _, Eq.trans (World.drewN_drewN _ _ _) (congrArg (World.drewN _) (Nat.add_assoc _ _ _))⟩))))
    go_ret
    exact ⟨by first | rfl | simp [*], by repeat (first | (with_reducible first | exact HB.out | apply below_alloc | apply pw_below_drewN | apply below_drew1 | refine below_set ?_ GE270.out) | exact HB.out)⟩
def lychgateref02_Check.f (k : Nat) (a0_0 : Int) (l0_1 : List (S35)) : Option (Int) := (lychgateref02_Nodes.f k a0_0 l0_1).bind fun t275 => (if t275 > 8192 then (some 32) else ((lychgateref02_Depth.f k a0_0 l0_1).bind fun t276 => (if t276 > 200 then (some 31) else ((lychgateref02_right.f k a0_0 l0_1).bind fun t277 => (if t277 = true then (some 0) else (some 20))))))
theorem lychgateref02_Check.mono : ∀ a0 a1 k, LeO (lychgateref02_Check.f k a0 a1) (lychgateref02_Check.f (k + 1) a0 a1) := by
  intro a0 a1 k
  unfold lychgateref02_Check.f
  repeat' first
      | (with_reducible exact lychgateref02_Depth.mono _ _ _)
      | (with_reducible exact lychgateref02_Nodes.mono _ _ _)
      | (with_reducible exact lychgateref02_right.mono _ _ _)
      | (with_reducible exact LeO.refl _)
      | (with_reducible exact LeO.none _)
      | (with_reducible refine LeO.ite ?_ ?_)
      | (with_reducible refine LeO.bind ?_ (fun _ => ?_))
      | exact lychgateref02_Depth.mono _ _ _
      | exact lychgateref02_Nodes.mono _ _ _
      | exact lychgateref02_right.mono _ _ _
      | exact LeO.none _
      | refine LeO.ite ?_ ?_
      | refine LeO.bind ?_ (fun _ => ?_)
set_option maxHeartbeats 8000000 in
set_option maxRecDepth 100000 in
theorem lychgateref02_Check.calls (k : Nat) (a0_0 : Int) (A0_1 : Option Addr) (c0_1 : Nat) (l0_1 : List (S35)) (r : Int) (w : World) (hr0_1 : Kd.C k35 w A0_1 l0_1.length l0_1) (hc0_1 : l0_1.length ≤ c0_1) (h : lychgateref02_Check.f k a0_0 l0_1 = some r) :
    Calls Try.prog 66 #[.agg #[.int .i8 a0_0, .slice A0_1 l0_1.length c0_1]] w fun e w' => e = .returned (.int .i64 r) ∧ Below w.heap.size w w' := by
  have hu35 := Try.underlying35
  have HR0_1 := Aside0.mk hr0_1
  have HC0_1 := Aside0.mk hc0_1
  clear hr0_1 hc0_1
  have HB := Aside0.mk (Below.refl w.heap.size w)
  have H : ((lychgateref02_Nodes.f k a0_0 l0_1).bind fun t275 => (if t275 > 8192 then (some 32) else ((lychgateref02_Depth.f k a0_0 l0_1).bind fun t276 => (if t276 > 200 then (some 31) else ((lychgateref02_right.f k a0_0 l0_1).bind fun t277 => (if t277 = true then (some 0) else (some 20))))))) = some r := h
  clear h
  replace H := Option.bind_eq_some_iff.mp H
  obtain ⟨t275, A20, H⟩ := H
  replace H : (if t275 > 8192 then (some 32) else ((lychgateref02_Depth.f k a0_0 l0_1).bind fun t276 => (if t276 > 200 then (some 31) else ((lychgateref02_right.f k a0_0 l0_1).bind fun t277 => (if t277 = true then (some 0) else (some 20)))))) = some r := H
  have A2 := Aside0.mk A20
  clear A20
  by_cases c3 : t275 > 8192
  · rw [if_pos c3] at H
    have c3b0 : decide (8192 < t275) = true := decide_eq_true c3
    clear c3
    obtain rfl := Option.some.inj H
    go_enter Try.func66, Try.ntmps66
    go_wp2_with (first | ((with_reducible refine gate_dst (N := 1) rfl ?_); refine box_event ?hg (N := 1) ?hd (cs := #[.int .i8 a0_0, .slice A0_1 l0_1.length c0_1]) (t := 35) ?hr ?_; (case hd => rfl); (case hg => rfl); (case hr => go_simp <;> rfl); intro gb274 hg w4 hbox hb; have n0_ := Aside0.mk (below_step HB.out hb); have n1_ := Aside0.mk (hbox); have n2_ := Aside0.mk ((by rw [hg]; exact (below_size HB.out) : w.heap.size ≤ gb274)); have n3_ := Aside0.mk ((by rw [hg]; exact (below_size HB.out) : w.heap.size ≤ gb274)); clear HB; have HB := n0_; have BK274 := n1_; have GW274 := n2_; have GE274 := n3_; clear n0_ n1_ n2_ n3_; clear hb hbox hg; have hcz5_0 : w4.cell? ⟨gb274, 0, none⟩ = some (.int .i8 a0_0) := (blk_cell BK274.out 0).trans rfl; have hcz5_1 : w4.cell? ⟨gb274, 1, none⟩ = some (.slice A0_1 l0_1.length c0_1) := (blk_cell BK274.out 1).trans rfl) | ((with_reducible refine gate_callee (f := 70) rfl ?_); refine goesL_ (some 5) rfl rfl Try.func70 (by kernel_rfl) rfl #[.agg #[.int .i8 a0_0, .slice A0_1 l0_1.length c0_1]] rfl (by (try simp only [List.map_toArray, List.map_cons, List.map_nil]); first | done | rfl | (simp only [List.length_drop, List.length_take]; rfl)) ?_; (with_reducible refine (lychgateref02_Nodes.calls k a0_0 _ _ l0_1 t275 _ ?side1 ?side2 A2.out).mono ?_); (case side1 => repeat (first | exact (Kd.C_below HR0_1.out HB.out) | (with_reducible refine Kd.C_alloc ?_ _) | (with_reducible refine Kd.C_drewN ?_ _) | (with_reducible refine Kd.C_drew ?_))); (case side2 => exact HC0_1.out); rintro e w6 ⟨rfl, hb⟩; refine ⟨_, rfl, ?_⟩; have n0_ := Aside0.mk (blk_below (g := gb274) (o := .cells #[.int .i8 a0_0, .slice A0_1 l0_1.length c0_1] 35 (0, 0)) BK274.out hb); have n1_ := Aside0.mk (below_step HB.out hb); clear BK274; clear HB; have BK274 := n0_; have HB := n1_; clear n0_ n1_; (try clear hb); (try clear hb2); (try clear hk); (try clear hi)))
    go_ret
    exact ⟨by first | rfl | simp [*], by repeat (first | (with_reducible first | exact HB.out | apply below_alloc | apply pw_below_drewN | apply below_drew1 | refine below_set ?_ GE274.out) | exact HB.out)⟩
  · rw [if_neg c3] at H
    have c3b0 : decide (8192 < t275) = false := decide_eq_false c3
    clear c3
    replace H := Option.bind_eq_some_iff.mp H
    obtain ⟨t276, A70, H⟩ := H
    replace H : (if t276 > 200 then (some 31) else ((lychgateref02_right.f k a0_0 l0_1).bind fun t277 => (if t277 = true then (some 0) else (some 20)))) = some r := H
    have A7 := Aside0.mk A70
    clear A70
    by_cases c8 : t276 > 200
    · rw [if_pos c8] at H
      have c8b0 : decide (200 < t276) = true := decide_eq_true c8
      clear c8
      obtain rfl := Option.some.inj H
      go_enter Try.func66, Try.ntmps66
      go_wp2_with (first | ((with_reducible refine gate_dst (N := 1) rfl ?_); refine box_event ?hg (N := 1) ?hd (cs := #[.int .i8 a0_0, .slice A0_1 l0_1.length c0_1]) (t := 35) ?hr ?_; (case hd => rfl); (case hg => rfl); (case hr => go_simp <;> rfl); intro gb274 hg w9 hbox hb; have n0_ := Aside0.mk (below_step HB.out hb); have n1_ := Aside0.mk (hbox); have n2_ := Aside0.mk ((by rw [hg]; exact (below_size HB.out) : w.heap.size ≤ gb274)); have n3_ := Aside0.mk ((by rw [hg]; exact (below_size HB.out) : w.heap.size ≤ gb274)); clear HB; have HB := n0_; have BK274 := n1_; have GW274 := n2_; have GE274 := n3_; clear n0_ n1_ n2_ n3_; clear hb hbox hg; have hcz10_0 : w9.cell? ⟨gb274, 0, none⟩ = some (.int .i8 a0_0) := (blk_cell BK274.out 0).trans rfl; have hcz10_1 : w9.cell? ⟨gb274, 1, none⟩ = some (.slice A0_1 l0_1.length c0_1) := (blk_cell BK274.out 1).trans rfl) | ((with_reducible refine gate_callee (f := 70) rfl ?_); refine goesL_ (some 5) rfl rfl Try.func70 (by kernel_rfl) rfl #[.agg #[.int .i8 a0_0, .slice A0_1 l0_1.length c0_1]] rfl (by (try simp only [List.map_toArray, List.map_cons, List.map_nil]); first | done | rfl | (simp only [List.length_drop, List.length_take]; rfl)) ?_; (with_reducible refine (lychgateref02_Nodes.calls k a0_0 _ _ l0_1 t275 _ ?side1 ?side2 A2.out).mono ?_); (case side1 => repeat (first | exact (Kd.C_below HR0_1.out HB.out) | (with_reducible refine Kd.C_alloc ?_ _) | (with_reducible refine Kd.C_drewN ?_ _) | (with_reducible refine Kd.C_drew ?_))); (case side2 => exact HC0_1.out); rintro e w11 ⟨rfl, hb⟩; refine ⟨_, rfl, ?_⟩; have n0_ := Aside0.mk (blk_below (g := gb274) (o := .cells #[.int .i8 a0_0, .slice A0_1 l0_1.length c0_1] 35 (0, 0)) BK274.out hb); have n1_ := Aside0.mk (below_step HB.out hb); clear BK274; clear HB; have BK274 := n0_; have HB := n1_; clear n0_ n1_; (try clear hb); (try clear hb2); (try clear hk); (try clear hi); have hcz12_0 : w11.cell? ⟨gb274, 0, none⟩ = some (.int .i8 a0_0) := (blk_cell BK274.out 0).trans rfl; have hcz12_1 : w11.cell? ⟨gb274, 1, none⟩ = some (.slice A0_1 l0_1.length c0_1) := (blk_cell BK274.out 1).trans rfl) | ((with_reducible refine gate_callee (f := 71) rfl ?_); refine goesL_ (some 8) rfl rfl Try.func71 (by kernel_rfl) rfl #[.agg #[.int .i8 a0_0, .slice A0_1 l0_1.length c0_1]] rfl (by (try simp only [List.map_toArray, List.map_cons, List.map_nil]); first | done | rfl | (simp only [List.length_drop, List.length_take]; rfl)) ?_; (with_reducible refine (lychgateref02_Depth.calls k a0_0 _ _ l0_1 t276 _ ?side1 ?side2 A7.out).mono ?_); (case side1 => repeat (first | exact (Kd.C_below HR0_1.out HB.out) | (with_reducible refine Kd.C_alloc ?_ _) | (with_reducible refine Kd.C_drewN ?_ _) | (with_reducible refine Kd.C_drew ?_))); (case side2 => exact HC0_1.out); rintro e w13 ⟨rfl, hb⟩; refine ⟨_, rfl, ?_⟩; have n0_ := Aside0.mk (blk_below (g := gb274) (o := .cells #[.int .i8 a0_0, .slice A0_1 l0_1.length c0_1] 35 (0, 0)) BK274.out hb); have n1_ := Aside0.mk (below_step HB.out hb); clear BK274; clear HB; have BK274 := n0_; have HB := n1_; clear n0_ n1_; (try clear hb); (try clear hb2); (try clear hk); (try clear hi)))
      go_ret
      exact ⟨by first | rfl | simp [*], by repeat (first | (with_reducible first | exact HB.out | apply below_alloc | apply pw_below_drewN | apply below_drew1 | refine below_set ?_ GE274.out) | exact HB.out)⟩
    · rw [if_neg c8] at H
      have c8b0 : decide (200 < t276) = false := decide_eq_false c8
      clear c8
      replace H := Option.bind_eq_some_iff.mp H
      obtain ⟨t277, A140, H⟩ := H
      replace H : (if t277 = true then (some 0) else (some 20)) = some r := H
      have A14 := Aside0.mk A140
      clear A140
      by_cases c15 : t277 = true
      · subst c15
        have H1 : (some 0) = some r := by rw [if_pos rfl] at H; exact H
        clear H
        have H := H1
        clear H1
        obtain rfl := Option.some.inj H
        go_enter Try.func66, Try.ntmps66
        go_wp2_with (first | ((with_reducible refine gate_dst (N := 1) rfl ?_); refine box_event ?hg (N := 1) ?hd (cs := #[.int .i8 a0_0, .slice A0_1 l0_1.length c0_1]) (t := 35) ?hr ?_; (case hd => rfl); (case hg => rfl); (case hr => go_simp <;> rfl); intro gb274 hg w16 hbox hb; have n0_ := Aside0.mk (below_step HB.out hb); have n1_ := Aside0.mk (hbox); have n2_ := Aside0.mk ((by rw [hg]; exact (below_size HB.out) : w.heap.size ≤ gb274)); have n3_ := Aside0.mk ((by rw [hg]; exact (below_size HB.out) : w.heap.size ≤ gb274)); clear HB; have HB := n0_; have BK274 := n1_; have GW274 := n2_; have GE274 := n3_; clear n0_ n1_ n2_ n3_; clear hb hbox hg; have hcz17_0 : w16.cell? ⟨gb274, 0, none⟩ = some (.int .i8 a0_0) := (blk_cell BK274.out 0).trans rfl; have hcz17_1 : w16.cell? ⟨gb274, 1, none⟩ = some (.slice A0_1 l0_1.length c0_1) := (blk_cell BK274.out 1).trans rfl) | ((with_reducible refine gate_callee (f := 70) rfl ?_); refine goesL_ (some 5) rfl rfl Try.func70 (by kernel_rfl) rfl #[.agg #[.int .i8 a0_0, .slice A0_1 l0_1.length c0_1]] rfl (by (try simp only [List.map_toArray, List.map_cons, List.map_nil]); first | done | rfl | (simp only [List.length_drop, List.length_take]; rfl)) ?_; (with_reducible refine (lychgateref02_Nodes.calls k a0_0 _ _ l0_1 t275 _ ?side1 ?side2 A2.out).mono ?_); (case side1 => repeat (first | exact (Kd.C_below HR0_1.out HB.out) | (with_reducible refine Kd.C_alloc ?_ _) | (with_reducible refine Kd.C_drewN ?_ _) | (with_reducible refine Kd.C_drew ?_))); (case side2 => exact HC0_1.out); rintro e w18 ⟨rfl, hb⟩; refine ⟨_, rfl, ?_⟩; have n0_ := Aside0.mk (blk_below (g := gb274) (o := .cells #[.int .i8 a0_0, .slice A0_1 l0_1.length c0_1] 35 (0, 0)) BK274.out hb); have n1_ := Aside0.mk (below_step HB.out hb); clear BK274; clear HB; have BK274 := n0_; have HB := n1_; clear n0_ n1_; (try clear hb); (try clear hb2); (try clear hk); (try clear hi); have hcz19_0 : w18.cell? ⟨gb274, 0, none⟩ = some (.int .i8 a0_0) := (blk_cell BK274.out 0).trans rfl; have hcz19_1 : w18.cell? ⟨gb274, 1, none⟩ = some (.slice A0_1 l0_1.length c0_1) := (blk_cell BK274.out 1).trans rfl) | ((with_reducible refine gate_callee (f := 71) rfl ?_); refine goesL_ (some 8) rfl rfl Try.func71 (by kernel_rfl) rfl #[.agg #[.int .i8 a0_0, .slice A0_1 l0_1.length c0_1]] rfl (by (try simp only [List.map_toArray, List.map_cons, List.map_nil]); first | done | rfl | (simp only [List.length_drop, List.length_take]; rfl)) ?_; (with_reducible refine (lychgateref02_Depth.calls k a0_0 _ _ l0_1 t276 _ ?side1 ?side2 A7.out).mono ?_); (case side1 => repeat (first | exact (Kd.C_below HR0_1.out HB.out) | (with_reducible refine Kd.C_alloc ?_ _) | (with_reducible refine Kd.C_drewN ?_ _) | (with_reducible refine Kd.C_drew ?_))); (case side2 => exact HC0_1.out); rintro e w20 ⟨rfl, hb⟩; refine ⟨_, rfl, ?_⟩; have n0_ := Aside0.mk (blk_below (g := gb274) (o := .cells #[.int .i8 a0_0, .slice A0_1 l0_1.length c0_1] 35 (0, 0)) BK274.out hb); have n1_ := Aside0.mk (below_step HB.out hb); clear BK274; clear HB; have BK274 := n0_; have HB := n1_; clear n0_ n1_; (try clear hb); (try clear hb2); (try clear hk); (try clear hi); have hcz21_0 : w20.cell? ⟨gb274, 0, none⟩ = some (.int .i8 a0_0) := (blk_cell BK274.out 0).trans rfl; have hcz21_1 : w20.cell? ⟨gb274, 1, none⟩ = some (.slice A0_1 l0_1.length c0_1) := (blk_cell BK274.out 1).trans rfl) | ((with_reducible refine gate_callee (f := 74) rfl ?_); refine goesL_ (some 11) rfl rfl Try.func74 (by kernel_rfl) rfl #[.agg #[.int .i8 a0_0, .slice A0_1 l0_1.length c0_1]] rfl (by (try simp only [List.map_toArray, List.map_cons, List.map_nil]); first | done | rfl | (simp only [List.length_drop, List.length_take]; rfl)) ?_; (with_reducible refine (lychgateref02_right.calls k a0_0 _ _ l0_1 true _ ?side1 ?side2 A14.out).mono ?_); (case side1 => repeat (first | exact (Kd.C_below HR0_1.out HB.out) | (with_reducible refine Kd.C_alloc ?_ _) | (with_reducible refine Kd.C_drewN ?_ _) | (with_reducible refine Kd.C_drew ?_))); (case side2 => exact HC0_1.out); rintro e w22 ⟨rfl, hb⟩; refine ⟨_, rfl, ?_⟩; have n0_ := Aside0.mk (blk_below (g := gb274) (o := .cells #[.int .i8 a0_0, .slice A0_1 l0_1.length c0_1] 35 (0, 0)) BK274.out hb); have n1_ := Aside0.mk (below_step HB.out hb); clear BK274; clear HB; have BK274 := n0_; have HB := n1_; clear n0_ n1_; (try clear hb); (try clear hb2); (try clear hk); (try clear hi)))
        go_ret
        exact ⟨by first | rfl | simp [*], by repeat (first | (with_reducible first | exact HB.out | apply below_alloc | apply pw_below_drewN | apply below_drew1 | refine below_set ?_ GE274.out) | exact HB.out)⟩
      · replace c15 := Bool.eq_false_iff.mpr c15
        subst c15
        have H1 : (some 20) = some r := by rw [if_neg (show ¬ (false = true) by decide)] at H; exact H
        clear H
        have H := H1
        clear H1
        obtain rfl := Option.some.inj H
        go_enter Try.func66, Try.ntmps66
        go_wp2_with (first | ((with_reducible refine gate_dst (N := 1) rfl ?_); refine box_event ?hg (N := 1) ?hd (cs := #[.int .i8 a0_0, .slice A0_1 l0_1.length c0_1]) (t := 35) ?hr ?_; (case hd => rfl); (case hg => rfl); (case hr => go_simp <;> rfl); intro gb274 hg w23 hbox hb; have n0_ := Aside0.mk (below_step HB.out hb); have n1_ := Aside0.mk (hbox); have n2_ := Aside0.mk ((by rw [hg]; exact (below_size HB.out) : w.heap.size ≤ gb274)); have n3_ := Aside0.mk ((by rw [hg]; exact (below_size HB.out) : w.heap.size ≤ gb274)); clear HB; have HB := n0_; have BK274 := n1_; have GW274 := n2_; have GE274 := n3_; clear n0_ n1_ n2_ n3_; clear hb hbox hg; have hcz24_0 : w23.cell? ⟨gb274, 0, none⟩ = some (.int .i8 a0_0) := (blk_cell BK274.out 0).trans rfl; have hcz24_1 : w23.cell? ⟨gb274, 1, none⟩ = some (.slice A0_1 l0_1.length c0_1) := (blk_cell BK274.out 1).trans rfl) | ((with_reducible refine gate_callee (f := 70) rfl ?_); refine goesL_ (some 5) rfl rfl Try.func70 (by kernel_rfl) rfl #[.agg #[.int .i8 a0_0, .slice A0_1 l0_1.length c0_1]] rfl (by (try simp only [List.map_toArray, List.map_cons, List.map_nil]); first | done | rfl | (simp only [List.length_drop, List.length_take]; rfl)) ?_; (with_reducible refine (lychgateref02_Nodes.calls k a0_0 _ _ l0_1 t275 _ ?side1 ?side2 A2.out).mono ?_); (case side1 => repeat (first | exact (Kd.C_below HR0_1.out HB.out) | (with_reducible refine Kd.C_alloc ?_ _) | (with_reducible refine Kd.C_drewN ?_ _) | (with_reducible refine Kd.C_drew ?_))); (case side2 => exact HC0_1.out); rintro e w25 ⟨rfl, hb⟩; refine ⟨_, rfl, ?_⟩; have n0_ := Aside0.mk (blk_below (g := gb274) (o := .cells #[.int .i8 a0_0, .slice A0_1 l0_1.length c0_1] 35 (0, 0)) BK274.out hb); have n1_ := Aside0.mk (below_step HB.out hb); clear BK274; clear HB; have BK274 := n0_; have HB := n1_; clear n0_ n1_; (try clear hb); (try clear hb2); (try clear hk); (try clear hi); have hcz26_0 : w25.cell? ⟨gb274, 0, none⟩ = some (.int .i8 a0_0) := (blk_cell BK274.out 0).trans rfl; have hcz26_1 : w25.cell? ⟨gb274, 1, none⟩ = some (.slice A0_1 l0_1.length c0_1) := (blk_cell BK274.out 1).trans rfl) | ((with_reducible refine gate_callee (f := 71) rfl ?_); refine goesL_ (some 8) rfl rfl Try.func71 (by kernel_rfl) rfl #[.agg #[.int .i8 a0_0, .slice A0_1 l0_1.length c0_1]] rfl (by (try simp only [List.map_toArray, List.map_cons, List.map_nil]); first | done | rfl | (simp only [List.length_drop, List.length_take]; rfl)) ?_; (with_reducible refine (lychgateref02_Depth.calls k a0_0 _ _ l0_1 t276 _ ?side1 ?side2 A7.out).mono ?_); (case side1 => repeat (first | exact (Kd.C_below HR0_1.out HB.out) | (with_reducible refine Kd.C_alloc ?_ _) | (with_reducible refine Kd.C_drewN ?_ _) | (with_reducible refine Kd.C_drew ?_))); (case side2 => exact HC0_1.out); rintro e w27 ⟨rfl, hb⟩; refine ⟨_, rfl, ?_⟩; have n0_ := Aside0.mk (blk_below (g := gb274) (o := .cells #[.int .i8 a0_0, .slice A0_1 l0_1.length c0_1] 35 (0, 0)) BK274.out hb); have n1_ := Aside0.mk (below_step HB.out hb); clear BK274; clear HB; have BK274 := n0_; have HB := n1_; clear n0_ n1_; (try clear hb); (try clear hb2); (try clear hk); (try clear hi); have hcz28_0 : w27.cell? ⟨gb274, 0, none⟩ = some (.int .i8 a0_0) := (blk_cell BK274.out 0).trans rfl; have hcz28_1 : w27.cell? ⟨gb274, 1, none⟩ = some (.slice A0_1 l0_1.length c0_1) := (blk_cell BK274.out 1).trans rfl) | ((with_reducible refine gate_callee (f := 74) rfl ?_); refine goesL_ (some 11) rfl rfl Try.func74 (by kernel_rfl) rfl #[.agg #[.int .i8 a0_0, .slice A0_1 l0_1.length c0_1]] rfl (by (try simp only [List.map_toArray, List.map_cons, List.map_nil]); first | done | rfl | (simp only [List.length_drop, List.length_take]; rfl)) ?_; (with_reducible refine (lychgateref02_right.calls k a0_0 _ _ l0_1 false _ ?side1 ?side2 A14.out).mono ?_); (case side1 => repeat (first | exact (Kd.C_below HR0_1.out HB.out) | (with_reducible refine Kd.C_alloc ?_ _) | (with_reducible refine Kd.C_drewN ?_ _) | (with_reducible refine Kd.C_drew ?_))); (case side2 => exact HC0_1.out); rintro e w29 ⟨rfl, hb⟩; refine ⟨_, rfl, ?_⟩; have n0_ := Aside0.mk (blk_below (g := gb274) (o := .cells #[.int .i8 a0_0, .slice A0_1 l0_1.length c0_1] 35 (0, 0)) BK274.out hb); have n1_ := Aside0.mk (below_step HB.out hb); clear BK274; clear HB; have BK274 := n0_; have HB := n1_; clear n0_ n1_; (try clear hb); (try clear hb2); (try clear hk); (try clear hi)))
        go_ret
        exact ⟨by first | rfl | simp [*], by repeat (first | (with_reducible first | exact HB.out | apply below_alloc | apply pw_below_drewN | apply below_drew1 | refine below_set ?_ GE274.out) | exact HB.out)⟩
end Go.Proofs.Ytjmpejbciniceaa.X
namespace Go.Proofs.Ytjmpejbciniceaa.X
open Go.RowKit Go.Proofs.YtjmpejbciniceaaW.PrintWords Go.Proofs.YtjmpejbciniceaaW.PrintLast Go.Proofs.YtjmpejbciniceaaW.PrintMore
set_option linter.unusedVariables false
set_option linter.unusedSimpArgs false
theorem drop_rd (l : List S35) (i : Nat) (h : i < l.length) : l.drop i = rd_T35 l i :: l.drop (i + 1) := by
  rw [List.drop_eq_getElem_cons h]
  congr 1
  simp [rd_T35, List.getD_eq_getElem?_getD, h]
theorem nodesL_rd (l : List S35) (i : Nat) (h : i < l.length) : nodesL (rd_T35 l i).f1 < nodesL l := by
  have := nodesL_take l i h
  rw [nodes_eq] at this
  have := nodesL_take_le l (i + 1)
  omega
theorem S35.eta (x : S35) : (⟨x.f0, x.f1⟩ : S35) = x := by cases x; rfl
theorem Ev_eq {α : Type} {g : Nat → Option α} {r r' : α} (h : Ev g r) (e : r = r') : Ev g r' := e ▸ h
theorem w64 (i : Int) (h0 : -9223372036854775808 ≤ i) (h1 : i ≤ 9223372036854775807) : wrap64 i = i := by unfold wrap64; omega
theorem length_le_nodesL (l : List S35) : l.length ≤ nodesL l := by
  induction l with
  | nil => simp
  | cons x l ih => simp only [List.length_cons, nodesL]; have := nodes_eq x; omega
theorem nodesL_drop (l : List S35) (i : Nat) (h : i < l.length) : nodesL (l.drop i) = nodes (rd_T35 l i) + nodesL (l.drop (i + 1)) := by
  rw [drop_rd l i h, nodesL]
mutual
def depth : S35 → Nat
  | ⟨_, l⟩ => 1 + depthL l
def depthL : List S35 → Nat
  | [] => 0
  | x :: l => max (depth x) (depthL l)
end
theorem depth_eq (x : S35) : depth x = 1 + depthL x.f1 := by cases x; rw [depth]
theorem depthL_drop (l : List S35) (i : Nat) (h : i < l.length) : depthL (l.drop i) = max (depth (rd_T35 l i)) (depthL (l.drop (i + 1))) := by
  rw [drop_rd l i h, depthL]
theorem deep_ev (n : Nat) : ∀ (k : Int) (l : List S35) (left : Int), nodesL l < n → nodesL l ≤ 8192 → 1 ≤ left → left ≤ 201 →
    Ev (fun f => types_deep.f f k l left) (min ((1 + depthL l : Nat) : Int) left) := by
  induction n with
  | zero => intro k l left h; omega
  | succ n ih =>
  intro k l left hn h8 h1 h2
  have hlen := length_le_nodesL l
  by_cases hl : left ≤ 1
  · refine Ev.step (f := fun _ => some left) (fun f => by simp only [types_deep.f]; rw [if_pos hl]) (Ev_eq (Ev.now _) ?_)
    omega
  · have loop : ∀ (d i : Nat) (acc : Int), i ≤ l.length → l.length - i = d → 0 ≤ acc → acc ≤ 200 →
        Ev (fun f => types_deep.l0 f left acc l (l.length : Int) (i : Int)) (max acc (min ((depthL (l.drop i) : Nat) : Int) (left - 1)) + 1) := by
      intro d
      induction d with
      | zero =>
        intro i acc hi hd h0 h200
        refine Ev.step (f := fun _ => some (acc + 1)) (fun f => by simp only [types_deep.l0]; rw [if_neg (by omega), w64 _ (by omega) (by omega)]) (Ev_eq (Ev.now _) ?_)
        rw [List.drop_eq_nil_of_le (by omega), depthL]
        simp
        omega
      | succ d ihd =>
        intro i acc hi hd h0 h200
        have hlt : i < l.length := by omega
        have hr := nodesL_rd l i hlt
        have hdr := depthL_drop l i hlt
        have e1 := ih (rd_T35 l i).f0 (rd_T35 l i).f1 (left - 1) (by omega) (by omega) (by omega) (by omega)
        rw [← depth_eq] at e1
        have e2 := ihd (i + 1) (mx acc (min ((depth (rd_T35 l i) : Nat) : Int) (left - 1))) (by omega) (by omega) (by unfold mx; split <;> omega) (by unfold mx; split <;> omega)
        refine Ev.step (f := fun f => (types_deep.f f (rd_T35 l i).f0 (rd_T35 l i).f1 (left - 1)).bind fun t => types_deep.l0 f left (mx acc t) l (l.length : Int) ((i + 1 : Nat) : Int)) (fun f => ?_) (Ev.bind e1 (Ev_eq e2 ?_))
        · simp only [types_deep.l0]
          rw [if_pos (by omega), if_pos (by omega), if_pos (by omega), w64 (left - 1) (by omega) (by omega), w64 ((i : Int) + 1) (by omega) (by omega)]
          rfl
        · rw [hdr]
          unfold mx
          split <;> omega
    refine Ev.step (f := fun f => types_deep.l0 f left 0 l (l.length : Int) 0) (fun f => by simp only [types_deep.f]; rw [if_neg hl]) (Ev_eq (loop l.length 0 0 (by omega) rfl (by omega) (by omega)) ?_)
    rw [List.drop_zero]
    omega
def partsI (k : Int) : Int := if k = 0 ∨ k = 1 ∨ k = 2 then 0 else if k = 3 ∨ k = 4 ∨ k = 5 then 2 else -1
theorem parts_is (f : Nat) (k : Int) : types_parts.f (f + 1) k = some (partsI k) := by
  unfold types_parts.f partsI
  simp only [types_parts.j0]
  by_cases h0 : k = 0
  · simp [h0]
  by_cases h1 : k = 1
  · simp [h1]
  by_cases h2 : k = 2
  · simp [h2]
  by_cases h3 : k = 3
  · simp [h3]
  by_cases h4 : k = 4
  · simp [h4]
  by_cases h5 : k = 5
  · simp [h5]
  simp [h0, h1, h2, h3, h4, h5]
theorem parts_ev (k : Int) : Ev (fun f => types_parts.f f k) (partsI k) := Ev.step (f := fun _ => some (partsI k)) (fun f => parts_is f k) (Ev.now _)
mutual
def rightB : S35 → Bool
  | ⟨k, l⟩ => decide (partsI k = (l.length : Int)) && rightL l
def rightL : List S35 → Bool
  | [] => true
  | x :: l => rightB x && rightL l
end
theorem rightB_eq (x : S35) : rightB x = (decide (partsI x.f0 = (x.f1.length : Int)) && rightL x.f1) := by cases x; rw [rightB]
theorem rightL_drop (l : List S35) (i : Nat) (h : i < l.length) : rightL (l.drop i) = (rightB (rd_T35 l i) && rightL (l.drop (i + 1))) := by
  rw [drop_rd l i h, rightL]
theorem right_ev (n : Nat) : ∀ (k : Int) (l : List S35), nodesL l < n → nodesL l ≤ 8192 → Ev (fun f => types_right.f f k l) (rightB ⟨k, l⟩) := by
  induction n with
  | zero => intro k l h; omega
  | succ n ih =>
  intro k l hn h8
  have hlen := length_le_nodesL l
  have loop : ∀ (d i : Nat), i ≤ l.length → l.length - i = d → Ev (fun f => types_right.l0 f l (l.length : Int) (i : Int)) (rightL (l.drop i)) := by
    intro d
    induction d with
    | zero =>
      intro i hi hd
      refine Ev.step (f := fun _ => some true) (fun f => by simp only [types_right.l0]; rw [if_neg (by omega)]) (Ev_eq (Ev.now _) ?_)
      rw [List.drop_eq_nil_of_le (by omega), rightL]
    | succ d ihd =>
      intro i hi hd
      have hlt : i < l.length := by omega
      have hr := nodesL_rd l i hlt
      have e1 := ih (rd_T35 l i).f0 (rd_T35 l i).f1 (by omega) (by omega)
      rw [S35.eta] at e1
      refine Ev.step (f := fun f => (types_right.f f (rd_T35 l i).f0 (rd_T35 l i).f1).bind fun t => if t = true then types_right.l0 f l (l.length : Int) ((i + 1 : Nat) : Int) else some false) (fun f => ?_) (Ev.bind e1 ?_)
      · simp only [types_right.l0]
        rw [if_pos (by omega), if_pos (by omega), if_pos (by omega), w64 ((i : Int) + 1) (by omega) (by omega)]
        rfl
      · rw [rightL_drop l i hlt]
        cases rightB (rd_T35 l i) with
        | true => simpa using ihd (i + 1) (by omega) (by omega)
        | false => simpa using Ev.now _
  refine Ev.step (f := fun f => (types_parts.f f k).bind fun t => if t = (l.length : Int) then types_right.l0 f l (l.length : Int) 0 else some false) (fun f => by simp only [types_right.f]) (Ev.bind (parts_ev k) ?_)
  rw [rightB]
  by_cases hp : partsI k = (l.length : Int)
  · simp only [hp, if_true, decide_true, Bool.true_and]
    exact Ev_eq (loop l.length 0 (by omega) rfl) (by rw [List.drop_zero])
  · simpa [hp] using Ev.now _
def checkI (t : S35) : Int := if 8192 < nodes t then 32 else if 200 < depth t then 31 else if rightB t = true then 0 else 20
theorem Check_ev (k : Int) (l : List S35) : Ev (fun f => types_Check.f f k l) (checkI ⟨k, l⟩) := by
  unfold checkI types_Check.f types_Nodes.f types_Depth.f types_Nodes.f
  rw [nodes, depth]
  by_cases h8 : 8192 < 1 + nodesL l
  · rw [if_pos h8]
    have : ((min (1 + nodesL l) 8193 : Nat) : Int) > 8192 := by omega
    simpa [this] using Ev.now _
  · rw [if_neg h8]
    have h9 : ¬ ((min (1 + nodesL l) 8193 : Nat) : Int) > 8192 := by omega
    simp only [Option.bind_some, h9, if_false]
    have e1 := deep_ev (nodesL l + 1) k l 201 (by omega) (by omega) (by omega) (by omega)
    refine Ev.bind (a := (min ((1 + depthL l : Nat) : Int) 201)) (Ev_eq (Ev.bind e1 (Ev.now _)) rfl) ?_
    by_cases h2 : 200 < 1 + depthL l
    · rw [if_pos h2]
      have h3 : (min ((1 + depthL l : Nat) : Int) 201) > 200 := by omega
      simp only [h3, if_true]
      exact Ev.now _
    · rw [if_neg h2]
      have h3 : ¬ (min ((1 + depthL l : Nat) : Int) 201) > 200 := by omega
      simp only [h3, if_false]
      refine Ev.bind (right_ev (nodesL l + 1) k l (by omega) (by omega)) ?_
      cases rightB ⟨k, l⟩ <;> simpa using Ev.now _
theorem check_nodes {t : S35} (h : checkI t = 0) : nodes t ≤ 8192 ∧ depth t ≤ 200 ∧ rightB t = true := by
  unfold checkI at h
  split at h
  · omega
  split at h
  · omega
  split at h
  · exact ⟨by omega, by omega, by assumption⟩
  · omega
end Go.Proofs.Ytjmpejbciniceaa.X
namespace Go.Proofs.Ytjmpejbciniceaa.X
open Go.RowKit Go.Proofs.YtjmpejbciniceaaW.PrintWords Go.Proofs.YtjmpejbciniceaaW.PrintLast Go.Proofs.YtjmpejbciniceaaW.PrintMore
set_option linter.unusedVariables false
set_option linter.unusedSimpArgs false
def IsT (w : World) (v : Value) (t : S35) : Prop := ∃ A c, v = .agg #[.int .i8 t.f0, .slice A t.f1.length c] ∧ t.f1.length ≤ c ∧ Kd.C k35 w A t.f1.length t.f1
theorem IsT.below {w w' : World} {v : Value} {t : S35} (h : IsT w v t) (hb : Below w.heap.size w w') : IsT w' v t := by
  obtain ⟨A, c, e, h1, h2⟩ := h
  exact ⟨A, c, e, h1, Kd.C_below h2 hb⟩
theorem IsT.zero (w : World) : IsT w (.agg #[.int .i8 0, .slice none 0 0]) z35 := ⟨none, 0, rfl, Nat.le_refl _, rfl, by simp [z35], fun h => absurd h (by simp [z35])⟩
theorem IsT.mk {w : World} {k : Int} {A : Option Addr} {l : List S35} {c : Nat} (h1 : l.length ≤ c) (h2 : Kd.C k35 w A l.length l) : IsT w (.agg #[.int .i8 k, .slice A l.length c]) ⟨k, l⟩ := ⟨A, c, rfl, h1, h2⟩
theorem Check_calls {t : S35} {v : Value} {w : World} (h : IsT w v t) : Calls Try.prog 10 #[v] w fun e w' => e = .returned (.int .i64 (checkI t)) ∧ Below w.heap.size w w' := by
  obtain ⟨A, c, rfl, h1, h2⟩ := h
  obtain ⟨k, hk⟩ := (Check_ev t.f0 t.f1).rounds
  rw [S35.eta] at hk
  exact types_Check.calls k t.f0 A c t.f1 _ w h2 h1 hk
end Go.Proofs.Ytjmpejbciniceaa.X
namespace Go.Proofs.Ytjmpejbciniceaa.X
open Go.RowKit Go.Proofs.YtjmpejbciniceaaW.PrintWords Go.Proofs.YtjmpejbciniceaaW.PrintLast Go.Proofs.YtjmpejbciniceaaW.PrintMore
set_option linter.unusedVariables false
set_option linter.unusedSimpArgs false
theorem Nodes_calls {t : S35} {v : Value} {w : World} (h : IsT w v t) : Calls Try.prog 19 #[v] w fun e w' => e = .returned (.int .i64 ((min (nodes t) 8193 : Nat) : Int)) ∧ Below w.heap.size w w' := by
  obtain ⟨A, c, rfl, h1, h2⟩ := h
  exact types_Nodes.calls t.f0 A c t.f1 _ w h2 h1 (by rw [types_Nodes.f, nodes_eq])
theorem Depth_ev (k : Int) (l : List S35) : Ev (fun f => types_Depth.f f k l) (if 8192 < nodes ⟨k, l⟩ then 201 else min (depth ⟨k, l⟩ : Int) 201) := by
  unfold types_Depth.f types_Nodes.f
  rw [nodes, depth]
  by_cases h8 : 8192 < 1 + nodesL l
  · rw [if_pos h8]
    have : ((min (1 + nodesL l) 8193 : Nat) : Int) > 8192 := by omega
    simpa [this] using Ev.now _
  · rw [if_neg h8]
    have h9 : ¬ ((min (1 + nodesL l) 8193 : Nat) : Int) > 8192 := by omega
    simp only [Option.bind_some, h9, if_false]
    exact Ev.bind (deep_ev (nodesL l + 1) k l 201 (by omega) (by omega) (by omega) (by omega)) (Ev.now _)
def depthI (t : S35) : Int := if 8192 < nodes t then 201 else min (depth t : Int) 201
theorem Depth_calls {t : S35} {v : Value} {w : World} (h : IsT w v t) : Calls Try.prog 20 #[v] w fun e w' => e = .returned (.int .i64 (depthI t)) ∧ Below w.heap.size w w' := by
  obtain ⟨A, c, rfl, h1, h2⟩ := h
  obtain ⟨k, hk⟩ := ((Ev_eq (Depth_ev t.f0 t.f1) (by rw [S35.eta]; rfl) : Ev (fun f => types_Depth.f f t.f0 t.f1) (depthI t))).rounds
  exact types_Depth.calls k t.f0 A c t.f1 _ w h2 h1 hk
end Go.Proofs.Ytjmpejbciniceaa.X
namespace Go.Proofs.Ytjmpejbciniceaa.X
open Go.RowKit Go.Proofs.YtjmpejbciniceaaW.PrintWords Go.Proofs.YtjmpejbciniceaaW.PrintLast Go.Proofs.YtjmpejbciniceaaW.PrintMore
set_option linter.unusedVariables false
set_option linter.unusedSimpArgs false
theorem refcount_ev (n : Nat) : ∀ (k : Int) (l : List S35) (c : Int), nodesL l < n → 0 ≤ c → c ≤ 8192 → Ev (fun f => lychgateref02_count.f f k l c) (min (c + 1 + (nodesL l : Int)) 8193) := by
  induction n with
  | zero => intro k l c h; omega
  | succ n ih =>
  intro k l c hn h0 h8
  have loop : ∀ (d i : Nat) (c : Int), i ≤ l.length → l.length - i = d → (i : Int) ≤ c → 0 ≤ c → c ≤ 8193 → Ev (fun f => lychgateref02_count.l0 f c (i : Int) k l) (min (c + (nodesL (l.drop i) : Int)) 8193) := by
    intro d
    induction d with
    | zero =>
      intro i c hi hd hic h0 h8
      refine Ev.step (f := fun _ => some c) (fun f => by simp only [lychgateref02_count.l0]; rw [if_neg (by omega)]) (Ev_eq (Ev.now _) ?_)
      rw [List.drop_eq_nil_of_le (by omega), nodesL]
      omega
    | succ d ihd =>
      intro i c hi hd hic h0 h8
      have hlt : i < l.length := by omega
      by_cases hc : c ≤ 8192
      · have hr := nodesL_rd l i hlt
        have e1 := ih (rd_T35 l i).f0 (rd_T35 l i).f1 c (by omega) (by omega) (by omega)
        have hd2 := nodesL_drop l i hlt
        rw [nodes_eq] at hd2
        have e2 := ihd (i + 1) (min (c + 1 + (nodesL (rd_T35 l i).f1 : Int)) 8193) (by omega) (by omega) (by omega) (by omega) (by omega)
        refine Ev.step (f := fun f => (lychgateref02_count.f f (rd_T35 l i).f0 (rd_T35 l i).f1 c).bind fun t => lychgateref02_count.l0 f t ((i + 1 : Nat) : Int) k l) (fun f => ?_) (Ev.bind e1 (Ev_eq e2 ?_))
        · simp only [lychgateref02_count.l0]
          rw [if_pos (by omega), if_pos hc, if_pos (by omega), w64 ((i : Int) + 1) (by omega) (by omega)]
          rfl
        · omega
      · refine Ev.step (f := fun _ => some c) (fun f => by simp only [lychgateref02_count.l0]; rw [if_pos (by omega), if_neg hc]) (Ev_eq (Ev.now _) ?_)
        omega
  refine Ev.step (f := fun f => lychgateref02_count.l0 f (c + 1) 0 k l) (fun f => by simp only [lychgateref02_count.f]; rw [w64 (c + 1) (by omega) (by omega)]) (Ev_eq (loop l.length 0 (c + 1) (by omega) rfl (by omega) (by omega) (by omega)) ?_)
  rw [List.drop_zero]
theorem refNodes_ev (k : Int) (l : List S35) : Ev (fun f => lychgateref02_Nodes.f f k l) ((min (nodes ⟨k, l⟩) 8193 : Nat) : Int) := by
  unfold lychgateref02_Nodes.f
  refine Ev.bind (refcount_ev (nodesL l + 1) k l 0 (by omega) (by omega) (by omega)) (Ev_eq (Ev.now _) ?_)
  rw [nodes]
  unfold mn
  split <;> omega
theorem refdeep_ev (n : Nat) : ∀ (k : Int) (l : List S35) (left : Int), nodesL l < n → nodesL l ≤ 8192 → 1 ≤ left → left ≤ 201 →
    Ev (fun f => lychgateref02_deep.f f k l left) (min ((1 + depthL l : Nat) : Int) left) := by
  induction n with
  | zero => intro k l left h; omega
  | succ n ih =>
  intro k l left hn h8 h1 h2
  have hlen := length_le_nodesL l
  by_cases hl : left ≤ 1
  · refine Ev.step (f := fun _ => some left) (fun f => by simp only [lychgateref02_deep.f]; rw [if_pos hl]) (Ev_eq (Ev.now _) ?_)
    omega
  · have loop : ∀ (d i : Nat) (acc : Int), i ≤ l.length → l.length - i = d → 0 ≤ acc → acc ≤ 200 →
        Ev (fun f => lychgateref02_deep.l0 f left acc (i : Int) k l) (min (max acc (min ((depthL (l.drop i) : Nat) : Int) (left - 1)) + 1) left) := by
      intro d
      induction d with
      | zero =>
        intro i acc hi hd h0 h200
        refine Ev.step (f := fun _ => some (mn (1 + acc) left)) (fun f => by simp only [lychgateref02_deep.l0]; rw [if_neg (by omega), w64 _ (by omega) (by omega)]) (Ev_eq (Ev.now _) ?_)
        rw [List.drop_eq_nil_of_le (by omega), depthL]
        unfold mn
        simp
        split <;> omega
      | succ d ihd =>
        intro i acc hi hd h0 h200
        have hlt : i < l.length := by omega
        have hr := nodesL_rd l i hlt
        have hdr := depthL_drop l i hlt
        have e1 := ih (rd_T35 l i).f0 (rd_T35 l i).f1 (left - 1) (by omega) (by omega) (by omega) (by omega)
        rw [← depth_eq] at e1
        have e2 := ihd (i + 1) (mx acc (min ((depth (rd_T35 l i) : Nat) : Int) (left - 1))) (by omega) (by omega) (by unfold mx; split <;> omega) (by unfold mx; split <;> omega)
        refine Ev.step (f := fun f => (lychgateref02_deep.f f (rd_T35 l i).f0 (rd_T35 l i).f1 (left - 1)).bind fun t => lychgateref02_deep.l0 f left (mx acc t) ((i + 1 : Nat) : Int) k l) (fun f => ?_) (Ev.bind e1 (Ev_eq e2 ?_))
        · simp only [lychgateref02_deep.l0]
          rw [if_pos (by omega), if_pos (by omega), w64 (left - 1) (by omega) (by omega), w64 ((i : Int) + 1) (by omega) (by omega)]
          rfl
        · rw [hdr]
          unfold mx
          split <;> omega
    refine Ev.step (f := fun f => lychgateref02_deep.l0 f left 0 0 k l) (fun f => by simp only [lychgateref02_deep.f]; rw [if_neg hl]) (Ev_eq (loop l.length 0 0 (by omega) rfl (by omega) (by omega)) ?_)
    rw [List.drop_zero]
    omega
theorem refDepth_ev (k : Int) (l : List S35) : Ev (fun f => lychgateref02_Depth.f f k l) (if 8192 < nodes ⟨k, l⟩ then 201 else min (depth ⟨k, l⟩ : Int) 201) := by
  unfold lychgateref02_Depth.f
  refine Ev.bind (refNodes_ev k l) ?_
  rw [nodes, depth]
  by_cases h8 : 8192 < 1 + nodesL l
  · rw [if_pos h8]
    have h9 : ((min (1 + nodesL l) 8193 : Nat) : Int) > 8192 := by omega
    simp only [h9, if_true]
    exact Ev.now _
  · rw [if_neg h8]
    have h9 : ¬ ((min (1 + nodesL l) 8193 : Nat) : Int) > 8192 := by omega
    simp only [h9, if_false]
    exact Ev.bind (refdeep_ev (nodesL l + 1) k l 201 (by omega) (by omega) (by omega) (by omega)) (Ev.now _)
theorem Kids_ev (k : Int) : Ev (fun f => lychgateref02_Kids.f f k) (partsI k) := Ev.step (f := fun _ => some (partsI k)) (fun f => parts_is f k) (Ev.now _)
theorem refright_ev (n : Nat) : ∀ (k : Int) (l : List S35), nodesL l < n → nodesL l ≤ 8192 → Ev (fun f => lychgateref02_right.f f k l) (rightB ⟨k, l⟩) := by
  induction n with
  | zero => intro k l h; omega
  | succ n ih =>
  intro k l hn h8
  have hlen := length_le_nodesL l
  have loop : ∀ (d i : Nat), i ≤ l.length → l.length - i = d → Ev (fun f => lychgateref02_right.l0 f (i : Int) k l) (rightL (l.drop i)) := by
    intro d
    induction d with
    | zero =>
      intro i hi hd
      refine Ev.step (f := fun _ => some true) (fun f => by simp only [lychgateref02_right.l0]; rw [if_neg (by omega)]) (Ev_eq (Ev.now _) ?_)
      rw [List.drop_eq_nil_of_le (by omega), rightL]
    | succ d ihd =>
      intro i hi hd
      have hlt : i < l.length := by omega
      have hr := nodesL_rd l i hlt
      have e1 := ih (rd_T35 l i).f0 (rd_T35 l i).f1 (by omega) (by omega)
      rw [S35.eta] at e1
      refine Ev.step (f := fun f => (lychgateref02_right.f f (rd_T35 l i).f0 (rd_T35 l i).f1).bind fun t => if t = true then lychgateref02_right.l0 f ((i + 1 : Nat) : Int) k l else some false) (fun f => ?_) (Ev.bind e1 ?_)
      · simp only [lychgateref02_right.l0]
        rw [if_pos (by omega), if_pos (by omega), w64 ((i : Int) + 1) (by omega) (by omega)]
        rfl
      · rw [rightL_drop l i hlt]
        cases rightB (rd_T35 l i) with
        | true => simpa using ihd (i + 1) (by omega) (by omega)
        | false => simpa using Ev.now _
  refine Ev.step (f := fun f => (lychgateref02_Kids.f f k).bind fun t => if t = (l.length : Int) then lychgateref02_right.l0 f 0 k l else some false) (fun f => by simp only [lychgateref02_right.f]) (Ev.bind (Kids_ev k) ?_)
  rw [rightB]
  by_cases hp : partsI k = (l.length : Int)
  · simp only [hp, if_true, decide_true, Bool.true_and]
    exact Ev_eq (loop l.length 0 (by omega) rfl) (by rw [List.drop_zero])
  · simpa [hp] using Ev.now _
theorem refCheck_ev (k : Int) (l : List S35) : Ev (fun f => lychgateref02_Check.f f k l) (checkI ⟨k, l⟩) := by
  unfold checkI lychgateref02_Check.f
  refine Ev.bind (refNodes_ev k l) ?_
  by_cases h8 : 8192 < nodes ⟨k, l⟩
  · rw [if_pos h8]
    have h9 : ((min (nodes ⟨k, l⟩) 8193 : Nat) : Int) > 8192 := by omega
    simp only [h9, if_true]
    exact Ev.now _
  · rw [if_neg h8]
    have h9 : ¬ ((min (nodes ⟨k, l⟩) 8193 : Nat) : Int) > 8192 := by omega
    simp only [h9, if_false]
    refine Ev.bind (refDepth_ev k l) ?_
    rw [if_neg h8]
    by_cases h2 : 200 < depth ⟨k, l⟩
    · rw [if_pos h2]
      have h3 : (min (depth ⟨k, l⟩ : Int) 201) > 200 := by omega
      simp only [h3, if_true]
      exact Ev.now _
    · rw [if_neg h2]
      have h3 : ¬ (min (depth ⟨k, l⟩ : Int) 201) > 200 := by omega
      simp only [h3, if_false]
      rw [nodes] at h8
      refine Ev.bind (refright_ev (nodesL l + 1) k l (by omega) (by omega)) ?_
      cases rightB ⟨k, l⟩ <;> simpa using Ev.now _
end Go.Proofs.Ytjmpejbciniceaa.X
namespace Go.Proofs.Ytjmpejbciniceaa.X
open Go.RowKit Go.Proofs.YtjmpejbciniceaaW.PrintWords Go.Proofs.YtjmpejbciniceaaW.PrintLast Go.Proofs.YtjmpejbciniceaaW.PrintMore
set_option linter.unusedVariables false
set_option linter.unusedSimpArgs false
def leafB (k : Int) : Bool := decide (k = 0) || (decide (k = 1) || (decide (k = 2) || decide (k = 3)))
theorem typed_is (k : Int) : lychgateref15_typed.f k = some (leafB k) := by
  unfold lychgateref15_typed.f leafB
  by_cases h0 : k = 0
  · simp [h0]
  · by_cases h1 : k = 1
    · simp [h1]
    · by_cases h2 : k = 2
      · simp [h2]
      · simp [h0, h1, h2]
        rfl
theorem toed_is (k : Int) : lychgateref15_toed.f k = some (decide (k = 1)) := by
  unfold lychgateref15_toed.f
  rfl
mutual
def cnodes : S47 → Nat
  | ⟨k, t, u, _, _, l⟩ => 1 + (if leafB k then min (nodes t) 8193 else 0) + (if k = 1 then min (nodes u) 8193 else 0) + cnodesL l
def cnodesL : List S47 → Nat
  | [] => 0
  | x :: l => cnodes x + cnodesL l
end
mutual
def cdepth : S47 → Nat
  | ⟨k, t, u, _, _, l⟩ => 1 + max (if leafB k then (depthI t).toNat else 0) (max (if k = 1 then (depthI u).toNat else 0) (cdepthL l))
def cdepthL : List S47 → Nat
  | [] => 0
  | x :: l => max (cdepth x) (cdepthL l)
end
theorem cnodes_eq (x : S47) : cnodes x = 1 + (if leafB x.f0 then min (nodes x.f1) 8193 else 0) + (if x.f0 = 1 then min (nodes x.f2) 8193 else 0) + cnodesL x.f5 := by cases x; rw [cnodes]
theorem cdepth_eq (x : S47) : cdepth x = 1 + max (if leafB x.f0 then (depthI x.f1).toNat else 0) (max (if x.f0 = 1 then (depthI x.f2).toNat else 0) (cdepthL x.f5)) := by cases x; rw [cdepth]
theorem drop_rd47 (l : List S47) (i : Nat) (h : i < l.length) : l.drop i = rd_T47 l i :: l.drop (i + 1) := by
  rw [List.drop_eq_getElem_cons h]
  congr 1
  simp [rd_T47, List.getD_eq_getElem?_getD, h]
theorem cnodesL_drop (l : List S47) (i : Nat) (h : i < l.length) : cnodesL (l.drop i) = cnodes (rd_T47 l i) + cnodesL (l.drop (i + 1)) := by rw [drop_rd47 l i h, cnodesL]
theorem cdepthL_drop (l : List S47) (i : Nat) (h : i < l.length) : cdepthL (l.drop i) = max (cdepth (rd_T47 l i)) (cdepthL (l.drop (i + 1))) := by rw [drop_rd47 l i h, cdepthL]
theorem cnodesL_append (l m : List S47) : cnodesL (l ++ m) = cnodesL l + cnodesL m := by
  induction l with
  | nil => simp [cnodesL]
  | cons x l ih => simp only [List.cons_append, cnodesL, ih]; omega
theorem cnodesL_drop_le (l : List S47) (i : Nat) : cnodesL (l.drop i) ≤ cnodesL l := by
  have := cnodesL_append (l.take i) (l.drop i)
  rw [List.take_append_drop] at this
  omega
theorem length_le_cnodesL (l : List S47) : l.length ≤ cnodesL l := by
  induction l with
  | nil => simp
  | cons x l ih => simp only [List.length_cons, cnodesL]; have := cnodes_eq x; omega
theorem rcount_ev (n : Nat) : ∀ (x : S47) (c : Int), cnodes x < n → 0 ≤ c → c ≤ 8192 → ∃ r : Int, Ev (fun f => lychgateref15_count.f f x.f0 x.f1.f0 x.f1.f1 x.f2.f0 x.f2.f1 x.f3 x.f4 x.f5 c) r ∧ (c + cnodes x ≤ 8192 → r = c + cnodes x) ∧ (8192 < c + cnodes x → 8192 < r) ∧ r ≤ 30000 ∧ c + 1 ≤ r := by
  induction n with
  | zero => intro x c h; omega
  | succ n ih =>
  intro x c hn h0 h8
  obtain ⟨k, t, u, la, ne, l⟩ := x
  rw [cnodes_eq] at hn
  simp only at hn
  have loop : ∀ (d i : Nat) (c : Int), i ≤ l.length → l.length - i = d → (i : Int) ≤ c → c ≤ 30000 → ∃ r : Int, Ev (fun f => lychgateref15_count.l0 f c (i : Int) k t.f0 t.f1 u.f0 u.f1 la ne l) r ∧ (c + cnodesL (l.drop i) ≤ 8192 → r = c + cnodesL (l.drop i)) ∧ (8192 < c + cnodesL (l.drop i) → 8192 < r) ∧ r ≤ 30000 ∧ c ≤ r := by
    intro d
    induction d with
    | zero =>
      intro i c hi hd hic h0
      refine ⟨c, Ev.step (f := fun _ => some c) (fun f => by simp only [lychgateref15_count.l0]; rw [if_neg (by omega)]) (Ev.now _), ?_⟩
      rw [List.drop_eq_nil_of_le (by omega), cnodesL]
      omega
    | succ d ihd =>
      intro i c hi hd hic h0
      have hlt : i < l.length := by omega
      have hd2 := cnodesL_drop l i hlt
      have hd3 := cnodesL_drop_le l i
      by_cases hc : c ≤ 8192
      · obtain ⟨r1, e1, a1, b1, k1, m1⟩ := ih (rd_T47 l i) c (by omega) (by omega) hc
        obtain ⟨r2, e2, a2, b2, k2, m2⟩ := ihd (i + 1) r1 (by omega) (by omega) (by omega) k1
        refine ⟨r2, ?_, by omega, by omega, k2, by omega⟩
        refine Ev.step (f := fun f => (lychgateref15_count.f f (rd_T47 l i).f0 (rd_T47 l i).f1.f0 (rd_T47 l i).f1.f1 (rd_T47 l i).f2.f0 (rd_T47 l i).f2.f1 (rd_T47 l i).f3 (rd_T47 l i).f4 (rd_T47 l i).f5 c).bind fun t0 => lychgateref15_count.l0 f t0 ((i + 1 : Nat) : Int) k t.f0 t.f1 u.f0 u.f1 la ne l) (fun f => ?_) (Ev.bind e1 e2)
        simp only [lychgateref15_count.l0]
        rw [if_pos (by omega), if_pos hc, if_pos (by omega), w64 ((i : Int) + 1) (by omega) (by omega)]
        rfl
      · refine ⟨c, Ev.step (f := fun _ => some c) (fun f => by simp only [lychgateref15_count.l0]; rw [if_pos (by omega), if_neg hc]) (Ev.now _), by omega, by omega, by omega, by omega⟩
  have hj1 : ∀ c : Int, 0 ≤ c → c ≤ 30000 → ∃ r : Int, Ev (fun f => lychgateref15_count.j1 f c k t.f0 t.f1 u.f0 u.f1 la ne l) r ∧ (c + cnodesL l ≤ 8192 → r = c + cnodesL l) ∧ (8192 < c + cnodesL l → 8192 < r) ∧ r ≤ 30000 ∧ c ≤ r := by
    intro c h0 h8
    obtain ⟨r, e, h⟩ := loop l.length 0 c (by omega) (by omega) (by omega) h8
    rw [List.drop_zero] at h
    exact ⟨r, Ev.step (f := fun f => lychgateref15_count.l0 f c 0 k t.f0 t.f1 u.f0 u.f1 la ne l) (fun f => by simp only [lychgateref15_count.j1]) e, h⟩
  have nu := refNodes_ev u.f0 u.f1
  rw [S35.eta] at nu
  have nt := refNodes_ev t.f0 t.f1
  rw [S35.eta] at nt
  have hj0 : ∀ c : Int, 0 ≤ c → c ≤ 20000 → ∃ r : Int, Ev (fun f => lychgateref15_count.j0 f c k t.f0 t.f1 u.f0 u.f1 la ne l) r ∧ (c + ((if k = 1 then min (nodes u) 8193 else 0 : Nat) : Int) + cnodesL l ≤ 8192 → r = c + ((if k = 1 then min (nodes u) 8193 else 0 : Nat) : Int) + cnodesL l) ∧ (8192 < c + ((if k = 1 then min (nodes u) 8193 else 0 : Nat) : Int) + cnodesL l → 8192 < r) ∧ r ≤ 30000 ∧ c ≤ r := by
    intro c h0 h8
    by_cases hk : k = 1
    · obtain ⟨r, e, h⟩ := hj1 (c + ((min (nodes u) 8193 : Nat) : Int)) (by omega) (by omega)
      refine ⟨r, Ev.step (f := fun f => (lychgateref02_Nodes.f f u.f0 u.f1).bind fun t0 => lychgateref15_count.j1 f (wrap64 (c + t0)) k t.f0 t.f1 u.f0 u.f1 la ne l) (fun f => by simp only [lychgateref15_count.j0, toed_is, hk, decide_true, Option.bind_some, if_true]) (Ev.bind nu (by rw [w64 _ (by omega) (by omega)]; exact e)), ?_⟩
      rw [if_pos hk]
      omega
    · obtain ⟨r, e, h⟩ := hj1 c h0 (by omega)
      refine ⟨r, Ev.step (f := fun f => lychgateref15_count.j1 f c k t.f0 t.f1 u.f0 u.f1 la ne l) (fun f => by simp [lychgateref15_count.j0, toed_is, hk]) e, ?_⟩
      rw [if_neg hk]
      omega
  rw [cnodes_eq]
  simp only
  by_cases hk : leafB k = true
  · obtain ⟨r, e, h⟩ := hj0 (c + 1 + ((min (nodes t) 8193 : Nat) : Int)) (by omega) (by omega)
    refine ⟨r, Ev.step (f := fun f => (lychgateref02_Nodes.f f t.f0 t.f1).bind fun t0 => lychgateref15_count.j0 f (wrap64 (c + 1 + t0)) k t.f0 t.f1 u.f0 u.f1 la ne l) (fun f => by simp only [lychgateref15_count.f, typed_is, hk, Option.bind_some, if_true]; rw [w64 (c + 1) (by omega) (by omega)]) (Ev.bind nt (by rw [w64 _ (by omega) (by omega)]; exact e)), ?_⟩
    rw [if_pos hk]
    omega
  · obtain ⟨r, e, h⟩ := hj0 (c + 1) (by omega) (by omega)
    refine ⟨r, Ev.step (f := fun f => lychgateref15_count.j0 f (c + 1) k t.f0 t.f1 u.f0 u.f1 la ne l) (fun f => by simp [lychgateref15_count.f, typed_is, hk]; rw [w64 (c + 1) (by omega) (by omega)]) e, ?_⟩
    rw [if_neg hk]
    omega
theorem depthI_ge (t : S35) : 0 ≤ depthI t ∧ depthI t ≤ 201 := by
  unfold depthI
  split <;> omega
theorem rdeep_ev (n : Nat) : ∀ (x : S47) (left : Int), cnodes x < n → cnodes x ≤ 8192 → 1 ≤ left → left ≤ 201 → Ev (fun f => lychgateref15_deep.f f x.f0 x.f1.f0 x.f1.f1 x.f2.f0 x.f2.f1 x.f3 x.f4 x.f5 left) (min (cdepth x : Int) left) := by
  induction n with
  | zero => intro x c h; omega
  | succ n ih =>
  intro x left hn h8 h1 h2
  obtain ⟨k, t, u, la, ne, l⟩ := x
  rw [cnodes_eq] at hn h8
  rw [cdepth_eq]
  simp only at hn h8 ⊢
  have hlen := length_le_cnodesL l
  by_cases hl : left ≤ 1
  · refine Ev.step (f := fun _ => some left) (fun f => by simp only [lychgateref15_deep.f]; rw [if_pos hl]) (Ev_eq (Ev.now _) ?_)
    omega
  · have loop : ∀ (d i : Nat) (acc : Int), i ≤ l.length → l.length - i = d → 0 ≤ acc → acc ≤ 201 →
        Ev (fun f => lychgateref15_deep.l0 f left acc (i : Int) k t.f0 t.f1 u.f0 u.f1 la ne l) (min (max acc ((cdepthL (l.drop i) : Nat) : Int) + 1) left) := by
      intro d
      induction d with
      | zero =>
        intro i acc hi hd h0 h200
        refine Ev.step (f := fun _ => some (mn (1 + acc) left)) (fun f => by simp only [lychgateref15_deep.l0]; rw [if_neg (by omega), w64 _ (by omega) (by omega)]) (Ev_eq (Ev.now _) ?_)
        rw [List.drop_eq_nil_of_le (by omega), cdepthL]
        unfold mn
        split <;> omega
      | succ d ihd =>
        intro i acc hi hd h0 h200
        have hlt : i < l.length := by omega
        have hd2 := cnodesL_drop l i hlt
        have hd3 := cnodesL_drop_le l i
        have hdr := cdepthL_drop l i hlt
        have e1 := ih (rd_T47 l i) (left - 1) (by omega) (by omega) (by omega) (by omega)
        have e2 := ihd (i + 1) (mx acc (min (cdepth (rd_T47 l i) : Int) (left - 1))) (by omega) (by omega) (by unfold mx; split <;> omega) (by unfold mx; split <;> omega)
        refine Ev.step (f := fun f => (lychgateref15_deep.f f (rd_T47 l i).f0 (rd_T47 l i).f1.f0 (rd_T47 l i).f1.f1 (rd_T47 l i).f2.f0 (rd_T47 l i).f2.f1 (rd_T47 l i).f3 (rd_T47 l i).f4 (rd_T47 l i).f5 (left - 1)).bind fun t0 => lychgateref15_deep.l0 f left (mx acc t0) ((i + 1 : Nat) : Int) k t.f0 t.f1 u.f0 u.f1 la ne l) (fun f => ?_) (Ev.bind e1 (Ev_eq e2 ?_))
        · simp only [lychgateref15_deep.l0]
          rw [if_pos (by omega), if_pos (by omega), w64 (left - 1) (by omega) (by omega), w64 ((i : Int) + 1) (by omega) (by omega)]
          rfl
        · rw [hdr]
          unfold mx
          split <;> omega
    have hj1 : ∀ acc : Int, 0 ≤ acc → acc ≤ 201 → Ev (fun f => lychgateref15_deep.j1 f left acc k t.f0 t.f1 u.f0 u.f1 la ne l) (min (max acc ((cdepthL l : Nat) : Int) + 1) left) := by
      intro acc h0 h8
      have e := loop l.length 0 acc (by omega) (by omega) h0 h8
      rw [List.drop_zero] at e
      exact Ev.step (f := fun f => lychgateref15_deep.l0 f left acc 0 k t.f0 t.f1 u.f0 u.f1 la ne l) (fun f => by simp only [lychgateref15_deep.j1]) e
    have nu := refDepth_ev u.f0 u.f1
    rw [S35.eta] at nu
    have nt := refDepth_ev t.f0 t.f1
    rw [S35.eta] at nt
    replace nu : Ev (fun f => lychgateref02_Depth.f f u.f0 u.f1) (depthI u) := nu
    replace nt : Ev (fun f => lychgateref02_Depth.f f t.f0 t.f1) (depthI t) := nt
    have gu := depthI_ge u
    have gt := depthI_ge t
    have hj0 : ∀ acc : Int, 0 ≤ acc → acc ≤ 201 → Ev (fun f => lychgateref15_deep.j0 f left acc k t.f0 t.f1 u.f0 u.f1 la ne l) (min (max (max acc ((if k = 1 then (depthI u).toNat else 0 : Nat) : Int)) ((cdepthL l : Nat) : Int) + 1) left) := by
      intro acc h0 h8
      by_cases hk : k = 1
      · refine Ev.step (f := fun f => (lychgateref02_Depth.f f u.f0 u.f1).bind fun t0 => lychgateref15_deep.j1 f left (mx acc t0) k t.f0 t.f1 u.f0 u.f1 la ne l) (fun f => by simp only [lychgateref15_deep.j0, toed_is, hk, decide_true, Option.bind_some, if_true]) (Ev.bind nu (Ev_eq (hj1 (mx acc (depthI u)) (by unfold mx; split <;> omega) (by unfold mx; split <;> omega)) ?_))
        rw [if_pos hk]
        unfold mx
        split <;> omega
      · refine Ev.step (f := fun f => lychgateref15_deep.j1 f left acc k t.f0 t.f1 u.f0 u.f1 la ne l) (fun f => by simp [lychgateref15_deep.j0, toed_is, hk]) (Ev_eq (hj1 acc h0 h8) ?_)
        rw [if_neg hk]
        omega
    by_cases hk : leafB k = true
    · refine Ev.step (f := fun f => (lychgateref02_Depth.f f t.f0 t.f1).bind fun t0 => lychgateref15_deep.j0 f left (mx 0 t0) k t.f0 t.f1 u.f0 u.f1 la ne l) (fun f => by simp only [lychgateref15_deep.f, typed_is, hk, Option.bind_some, if_true]; rw [if_neg hl]) (Ev.bind nt (Ev_eq (hj0 (mx 0 (depthI t)) (by unfold mx; split <;> omega) (by unfold mx; split <;> omega)) ?_))
      rw [if_pos hk]
      unfold mx
      split <;> omega
    · refine Ev.step (f := fun f => lychgateref15_deep.j0 f left 0 k t.f0 t.f1 u.f0 u.f1 la ne l) (fun f => by simp [lychgateref15_deep.f, typed_is, hk, hl]) (Ev_eq (hj0 0 (by omega) (by omega)) ?_)
      rw [if_neg hk]
      omega
end Go.Proofs.Ytjmpejbciniceaa.X
