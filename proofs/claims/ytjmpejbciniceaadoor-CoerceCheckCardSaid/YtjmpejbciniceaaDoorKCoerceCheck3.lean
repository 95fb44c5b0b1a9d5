/- Texts of this claim, joined: GDeep15, HCallH, HTake, HReg0, HNodes. -/
import Derived.Deep.RegionHeld3
import Derived.KernelRfl
import Derived.Defers
import Derived.Recover
import Derived.Laws.Pointers
import Derived.Outline
import Derived.WalkLawsBesides
import Derived.Test.YtjmpejbciniceaaDoorKCoerceCheck1
import Derived.Test.YtjmpejbciniceaaDoorKCoerceCheck2
namespace Go.Proofs.YtjmpejbciniceaaDoor.X
open Go.RowKit Go.Proofs.YtjmpejbciniceaaDoorW.PrintWords Go.Proofs.YtjmpejbciniceaaDoorW.PrintLast Go.Proofs.YtjmpejbciniceaaDoorW.PrintMore
attribute [local go_sem] max2_int min2_int max_two min_two max_three min_three max_four min_four
set_option linter.unusedVariables false
set_option linter.unusedSimpArgs false
mutual
def lychgateref15_deep.j0 : Nat → Int → Int → Int → Int → List (S43) → Int → List (S43) → Int → Bool → List (S54) → Option (Int)
  | 0, _, _, _, _, _, _, _, _, _, _ => none
  | k + 1, x1, x5, x186000, x186001, x186002, x186003, x186004, x186005, x186006, x186007 => (lychgateref15_toed.f x186000).bind fun t188 => (if t188 = true then ((lychgateref02_Depth.f k x186003 x186004).bind fun t189 => (lychgateref15_deep.j1 k x1 (mx x5 t189) x186000 x186001 x186002 x186003 x186004 x186005 x186006 x186007)) else (lychgateref15_deep.j1 k x1 x5 x186000 x186001 x186002 x186003 x186004 x186005 x186006 x186007))
def lychgateref15_deep.j1 : Nat → Int → Int → Int → Int → List (S43) → Int → List (S43) → Int → Bool → List (S54) → Option (Int)
  | 0, _, _, _, _, _, _, _, _, _, _ => none
  | k + 1, x1, x5, x186000, x186001, x186002, x186003, x186004, x186005, x186006, x186007 => lychgateref15_deep.l0 k x1 x5 0 x186000 x186001 x186002 x186003 x186004 x186005 x186006 x186007
def lychgateref15_deep.l0 : Nat → Int → Int → Int → Int → Int → List (S43) → Int → List (S43) → Int → Bool → List (S54) → Option (Int)
  | 0, _, _, _, _, _, _, _, _, _, _, _ => none
  | k + 1, x1, x5, x6, x186000, x186001, x186002, x186003, x186004, x186005, x186006, x186007 => if x6 < (x186007.length : Int) then (if 0 ≤ x6 then ((lychgateref15_deep.f k ((rd_T54 x186007 x6).f0) ((rd_T54 x186007 x6).f1.f0) ((rd_T54 x186007 x6).f1.f1) ((rd_T54 x186007 x6).f2.f0) ((rd_T54 x186007 x6).f2.f1) ((rd_T54 x186007 x6).f3) ((rd_T54 x186007 x6).f4) ((rd_T54 x186007 x6).f5) (wrap64 (x1 - 1))).bind fun t191 => (lychgateref15_deep.l0 k x1 (mx x5 t191) (wrap64 (x6 + 1)) x186000 x186001 x186002 x186003 x186004 x186005 x186006 x186007)) else (none)) else (some (mn (wrap64 (1 + x5)) x1))
def lychgateref15_deep.f : Nat → Int → Int → List (S43) → Int → List (S43) → Int → Bool → List (S54) → Int → Option (Int)
  | 0, _, _, _, _, _, _, _, _, _ => none
  | k + 1, a0_0, a0_1, l0_2, a0_3, l0_4, a0_5, a0_6, l0_7, a1 => if a1 ≤ 1 then (some a1) else ((lychgateref15_typed.f a0_0).bind fun t186 => (if t186 = true then ((lychgateref02_Depth.f k a0_1 l0_2).bind fun t187 => (lychgateref15_deep.j0 k a1 (mx 0 t187) a0_0 a0_1 l0_2 a0_3 l0_4 a0_5 a0_6 l0_7)) else (lychgateref15_deep.j0 k a1 0 a0_0 a0_1 l0_2 a0_3 l0_4 a0_5 a0_6 l0_7)))
end
theorem lychgateref15_deep.mono_l : ∀ k, (∀ y0 y1 y2 y3 y4 y5 y6 y7 y8, LeO (lychgateref15_deep.f k y0 y1 y2 y3 y4 y5 y6 y7 y8) (lychgateref15_deep.f (k + 1) y0 y1 y2 y3 y4 y5 y6 y7 y8)) ∧ (∀ y0 y1 y2 y3 y4 y5 y6 y7 y8 y9, LeO (lychgateref15_deep.j0 k y0 y1 y2 y3 y4 y5 y6 y7 y8 y9) (lychgateref15_deep.j0 (k + 1) y0 y1 y2 y3 y4 y5 y6 y7 y8 y9)) ∧ (∀ y0 y1 y2 y3 y4 y5 y6 y7 y8 y9, LeO (lychgateref15_deep.j1 k y0 y1 y2 y3 y4 y5 y6 y7 y8 y9) (lychgateref15_deep.j1 (k + 1) y0 y1 y2 y3 y4 y5 y6 y7 y8 y9)) ∧ (∀ y0 y1 y2 y3 y4 y5 y6 y7 y8 y9 y10, LeO (lychgateref15_deep.l0 k y0 y1 y2 y3 y4 y5 y6 y7 y8 y9 y10) (lychgateref15_deep.l0 (k + 1) y0 y1 y2 y3 y4 y5 y6 y7 y8 y9 y10))
  | 0 => ⟨fun _ _ _ _ _ _ _ _ _ r h => by simp [lychgateref15_deep.f] at h, fun _ _ _ _ _ _ _ _ _ _ r h => by simp [lychgateref15_deep.j0] at h, fun _ _ _ _ _ _ _ _ _ _ r h => by simp [lychgateref15_deep.j1] at h, fun _ _ _ _ _ _ _ _ _ _ _ r h => by simp [lychgateref15_deep.l0] at h⟩
  | k + 1 => by
    obtain ⟨ih0, ih1, ih2, ih3⟩ := lychgateref15_deep.mono_l k
    refine ⟨?_, ?_, ?_, ?_⟩
    · intro y0 y1 y2 y3 y4 y5 y6 y7 y8
      unfold lychgateref15_deep.f
      repeat' first
      | (with_reducible exact ih0 _ _ _ _ _ _ _ _ _)
      | (with_reducible exact ih1 _ _ _ _ _ _ _ _ _ _)
      | (with_reducible exact ih2 _ _ _ _ _ _ _ _ _ _)
      | (with_reducible exact ih3 _ _ _ _ _ _ _ _ _ _ _)
      | (with_reducible exact lychgateref02_Depth.mono _ _ _)
      | (with_reducible exact LeO.refl _)
      | (with_reducible exact LeO.none _)
      | (with_reducible refine LeO.ite ?_ ?_)
      | (with_reducible refine LeO.bind ?_ (fun _ => ?_))
      | exact ih0 _ _ _ _ _ _ _ _ _
      | exact ih1 _ _ _ _ _ _ _ _ _ _
      | exact ih2 _ _ _ _ _ _ _ _ _ _
      | exact ih3 _ _ _ _ _ _ _ _ _ _ _
      | exact lychgateref02_Depth.mono _ _ _
      | exact LeO.none _
      | refine LeO.ite ?_ ?_
      | refine LeO.bind ?_ (fun _ => ?_)
    · intro y0 y1 y2 y3 y4 y5 y6 y7 y8 y9
      unfold lychgateref15_deep.j0
      repeat' first
      | (with_reducible exact ih0 _ _ _ _ _ _ _ _ _)
      | (with_reducible exact ih1 _ _ _ _ _ _ _ _ _ _)
      | (with_reducible exact ih2 _ _ _ _ _ _ _ _ _ _)
      | (with_reducible exact ih3 _ _ _ _ _ _ _ _ _ _ _)
      | (with_reducible exact lychgateref02_Depth.mono _ _ _)
      | (with_reducible exact LeO.refl _)
      | (with_reducible exact LeO.none _)
      | (with_reducible refine LeO.ite ?_ ?_)
      | (with_reducible refine LeO.bind ?_ (fun _ => ?_))
      | exact ih0 _ _ _ _ _ _ _ _ _
      | exact ih1 _ _ _ _ _ _ _ _ _ _
      | exact ih2 _ _ _ _ _ _ _ _ _ _
      | exact ih3 _ _ _ _ _ _ _ _ _ _ _
      | exact lychgateref02_Depth.mono _ _ _
      | exact LeO.none _
      | refine LeO.ite ?_ ?_
      | refine LeO.bind ?_ (fun _ => ?_)
    · intro y0 y1 y2 y3 y4 y5 y6 y7 y8 y9
      unfold lychgateref15_deep.j1
      repeat' first
      | (with_reducible exact ih0 _ _ _ _ _ _ _ _ _)
      | (with_reducible exact ih1 _ _ _ _ _ _ _ _ _ _)
      | (with_reducible exact ih2 _ _ _ _ _ _ _ _ _ _)
      | (with_reducible exact ih3 _ _ _ _ _ _ _ _ _ _ _)
      | (with_reducible exact lychgateref02_Depth.mono _ _ _)
      | (with_reducible exact LeO.refl _)
      | (with_reducible exact LeO.none _)
      | (with_reducible refine LeO.ite ?_ ?_)
      | (with_reducible refine LeO.bind ?_ (fun _ => ?_))
      | exact ih0 _ _ _ _ _ _ _ _ _
      | exact ih1 _ _ _ _ _ _ _ _ _ _
      | exact ih2 _ _ _ _ _ _ _ _ _ _
      | exact ih3 _ _ _ _ _ _ _ _ _ _ _
      | exact lychgateref02_Depth.mono _ _ _
      | exact LeO.none _
      | refine LeO.ite ?_ ?_
      | refine LeO.bind ?_ (fun _ => ?_)
    · intro y0 y1 y2 y3 y4 y5 y6 y7 y8 y9 y10
      unfold lychgateref15_deep.l0
      repeat' first
      | (with_reducible exact ih0 _ _ _ _ _ _ _ _ _)
      | (with_reducible exact ih1 _ _ _ _ _ _ _ _ _ _)
      | (with_reducible exact ih2 _ _ _ _ _ _ _ _ _ _)
      | (with_reducible exact ih3 _ _ _ _ _ _ _ _ _ _ _)
      | (with_reducible exact lychgateref02_Depth.mono _ _ _)
      | (with_reducible exact LeO.refl _)
      | (with_reducible exact LeO.none _)
      | (with_reducible refine LeO.ite ?_ ?_)
      | (with_reducible refine LeO.bind ?_ (fun _ => ?_))
      | exact ih0 _ _ _ _ _ _ _ _ _
      | exact ih1 _ _ _ _ _ _ _ _ _ _
      | exact ih2 _ _ _ _ _ _ _ _ _ _
      | exact ih3 _ _ _ _ _ _ _ _ _ _ _
      | exact lychgateref02_Depth.mono _ _ _
      | exact LeO.none _
      | refine LeO.ite ?_ ?_
      | refine LeO.bind ?_ (fun _ => ?_)
theorem lychgateref15_deep.mono : ∀ a0 a1 a2 a3 a4 a5 a6 a7 a8 k, LeO (lychgateref15_deep.f k a0 a1 a2 a3 a4 a5 a6 a7 a8) (lychgateref15_deep.f (k + 1) a0 a1 a2 a3 a4 a5 a6 a7 a8) := by
  intro a0 a1 a2 a3 a4 a5 a6 a7 a8 k
  obtain ⟨ih0, ih1, ih2, ih3⟩ := lychgateref15_deep.mono_l k
  exact ih0 a0 a1 a2 a3 a4 a5 a6 a7 a8
set_option maxHeartbeats 8000000 in
set_option maxRecDepth 100000 in
theorem lychgateref15_deep.calls (k : Nat) : ∀ (a0_0 : Int) (a0_1 : Int) (A0_2 : Option Addr) (c0_2 : Nat) (l0_2 : List (S43)) (a0_3 : Int) (A0_4 : Option Addr) (c0_4 : Nat) (l0_4 : List (S43)) (a0_5 : Int) (a0_6 : Bool) (A0_7 : Option Addr) (c0_7 : Nat) (l0_7 : List (S54)) (a1 : Int) (r : Int) (w : World) (hr0_2 : Kd.C k43 w A0_2 l0_2.length l0_2) (hc0_2 : l0_2.length ≤ c0_2) (hr0_4 : Kd.C k43 w A0_4 l0_4.length l0_4) (hc0_4 : l0_4.length ≤ c0_4) (hr0_7 : Kd.C k54 w A0_7 l0_7.length l0_7) (hc0_7 : l0_7.length ≤ c0_7) (h : lychgateref15_deep.f k a0_0 a0_1 l0_2 a0_3 l0_4 a0_5 a0_6 l0_7 a1 = some r),
    Calls Tryd.prog 49 #[.agg #[.int .i8 a0_0, .int .i8 a0_1, .slice A0_2 l0_2.length c0_2, .int .i8 a0_3, .slice A0_4 l0_4.length c0_4, .int .i64 a0_5, .bool a0_6, .slice A0_7 l0_7.length c0_7], .int .i64 a1] w fun e w' => e = .returned (.int .i64 r) ∧ Below w.heap.size w w' := by
  induction k using Nat.strongRecOn with
  | _ k ih =>
  intro a0_0 a0_1 A0_2 c0_2 l0_2 a0_3 A0_4 c0_4 l0_4 a0_5 a0_6 A0_7 c0_7 l0_7 a1 r w hr0_2 hc0_2 hr0_4 hc0_4 hr0_7 hc0_7 h
  cases k with
  | zero => exact absurd h (by simp [lychgateref15_deep.f])
  | succ k =>
  simp only [lychgateref15_deep.f] at h
  have hu54 := Tryd.underlying54
  have hu43 := Tryd.underlying43
  have HR0_2 := Aside0.mk hr0_2
  have HC0_2 := Aside0.mk hc0_2
  clear hr0_2 hc0_2
  have HR0_4 := Aside0.mk hr0_4
  have HC0_4 := Aside0.mk hc0_4
  clear hr0_4 hc0_4
  have HR0_7 := Aside0.mk hr0_7
  have HC0_7 := Aside0.mk hc0_7
  clear hr0_7 hc0_7
  have HB := Aside0.mk (Below.refl w.heap.size w)
  have H : (if a1 ≤ 1 then (some a1) else ((lychgateref15_typed.f a0_0).bind fun t186 => (if t186 = true then ((lychgateref02_Depth.f k a0_1 l0_2).bind fun t187 => (lychgateref15_deep.j0 k a1 (mx 0 t187) a0_0 a0_1 l0_2 a0_3 l0_4 a0_5 a0_6 l0_7)) else (lychgateref15_deep.j0 k a1 0 a0_0 a0_1 l0_2 a0_3 l0_4 a0_5 a0_6 l0_7)))) = some r := h
  clear h
  by_cases c3 : a1 ≤ 1
  · rw [if_pos c3] at H
    have c3b0 : decide (a1 ≤ 1) = true := decide_eq_true c3
    clear c3
    obtain rfl := Option.some.inj H
    go_enter Tryd.func49, Tryd.ntmps49
    go_wp2_with (first | ((with_reducible refine gate_dst (N := 2) rfl ?_); refine box_event ?hg (N := 2) ?hd (cs := #[.int .i8 a0_0, .int .i8 a0_1, .slice A0_2 l0_2.length c0_2, .int .i8 a0_3, .slice A0_4 l0_4.length c0_4, .int .i64 a0_5, .bool a0_6, .slice A0_7 l0_7.length c0_7]) (t := 54) ?hr ?_; (case hd => rfl); (case hg => rfl); (case hr => go_simp <;> rfl); intro gb185 hg w4 hbox hb; have n0_ := Aside0.mk (below_step (by repeat (first | (with_reducible first | exact HB.out | apply below_alloc | apply pw_below_drewN | apply below_drew1) | exact HB.out)) hb); have n1_ := Aside0.mk (hbox); have n2_ := Aside0.mk ((by rw [hg]; exact (below_size (by repeat (first | (with_reducible first | exact HB.out | apply below_alloc | apply pw_below_drewN | apply below_drew1) | exact HB.out))) : w.heap.size ≤ gb185)); have n3_ := Aside0.mk ((by rw [hg]; exact (below_size (by repeat (first | (with_reducible first | exact HB.out | apply below_alloc | apply pw_below_drewN | apply below_drew1) | exact HB.out))) : w.heap.size ≤ gb185)); clear HB; have HB := n0_; have BK185 := n1_; have GW185 := n2_; have GE185 := n3_; clear n0_ n1_ n2_ n3_; clear hb hbox hg))
    go_ret
    exact ⟨by first | rfl | simp [*], by repeat (first | (with_reducible first | exact HB.out | apply below_alloc | apply pw_below_drewN | apply below_drew1 | refine below_set ?_ GE185.out) | exact HB.out)⟩
  · rw [if_neg c3] at H
    have c3b0 : decide (a1 ≤ 1) = false := decide_eq_false c3
    clear c3
    replace H := Option.bind_eq_some_iff.mp H
    obtain ⟨t186, A50, H⟩ := H
    replace H : (if t186 = true then ((lychgateref02_Depth.f k a0_1 l0_2).bind fun t187 => (lychgateref15_deep.j0 k a1 (mx 0 t187) a0_0 a0_1 l0_2 a0_3 l0_4 a0_5 a0_6 l0_7)) else (lychgateref15_deep.j0 k a1 0 a0_0 a0_1 l0_2 a0_3 l0_4 a0_5 a0_6 l0_7)) = some r := H
    have A5 := Aside0.mk A50
    clear A50
    have HC6 := Aside0.mk H
    clear H
    go_enter Tryd.func49, Tryd.ntmps49
    go_upto_if 12 with (first | ((with_reducible refine gate_dst (N := 2) rfl ?_); refine box_event ?hg (N := 2) ?hd (cs := #[.int .i8 a0_0, .int .i8 a0_1, .slice A0_2 l0_2.length c0_2, .int .i8 a0_3, .slice A0_4 l0_4.length c0_4, .int .i64 a0_5, .bool a0_6, .slice A0_7 l0_7.length c0_7]) (t := 54) ?hr ?_; (case hd => rfl); (case hg => rfl); (case hr => go_simp <;> rfl); intro gb185 hg w7 hbox hb; have n0_ := Aside0.mk (below_step (by repeat (first | (with_reducible first | exact HB.out | apply below_alloc | apply pw_below_drewN | apply below_drew1) | exact HB.out)) hb); have n1_ := Aside0.mk (hbox); have n2_ := Aside0.mk ((by rw [hg]; exact (below_size (by repeat (first | (with_reducible first | exact HB.out | apply below_alloc | apply pw_below_drewN | apply below_drew1) | exact HB.out))) : w.heap.size ≤ gb185)); have n3_ := Aside0.mk ((by rw [hg]; exact (below_size (by repeat (first | (with_reducible first | exact HB.out | apply below_alloc | apply pw_below_drewN | apply below_drew1) | exact HB.out))) : w.heap.size ≤ gb185)); clear HB; have HB := n0_; have BK185 := n1_; have GW185 := n2_; have GE185 := n3_; clear n0_ n1_ n2_ n3_; clear hb hbox hg; have hcz8_0 : w7.cell? ⟨gb185, 0, none⟩ = some (.int .i8 a0_0) := (blk_cell BK185.out 0).trans rfl; have hcz8_1 : w7.cell? ⟨gb185, 1, none⟩ = some (.int .i8 a0_1) := (blk_cell BK185.out 1).trans rfl; have hcz8_2 : w7.cell? ⟨gb185, 2, none⟩ = some (.slice A0_2 l0_2.length c0_2) := (blk_cell BK185.out 2).trans rfl; have hcz8_3 : w7.cell? ⟨gb185, 3, none⟩ = some (.int .i8 a0_3) := (blk_cell BK185.out 3).trans rfl; have hcz8_4 : w7.cell? ⟨gb185, 4, none⟩ = some (.slice A0_4 l0_4.length c0_4) := (blk_cell BK185.out 4).trans rfl; have hcz8_5 : w7.cell? ⟨gb185, 5, none⟩ = some (.int .i64 a0_5) := (blk_cell BK185.out 5).trans rfl; have hcz8_6 : w7.cell? ⟨gb185, 6, none⟩ = some (.bool a0_6) := (blk_cell BK185.out 6).trans rfl; have hcz8_7 : w7.cell? ⟨gb185, 7, none⟩ = some (.slice A0_7 l0_7.length c0_7) := (blk_cell BK185.out 7).trans rfl) | ((with_reducible refine gate_callee (f := 97) rfl ?_); refine goesL_ (some 12) rfl rfl Tryd.func97 (by kernel_rfl) rfl #[.int .i8 a0_0] rfl (by (try simp only [List.map_toArray, List.map_cons, List.map_nil]); first | done | rfl | (simp only [List.length_drop, List.length_take]; rfl)) ?_; (with_reducible refine (lychgateref15_typed.calls a0_0 t186 _ A5.out).mono ?_); rintro e w' ⟨rfl, ⟨nd, rfl⟩⟩; refine ⟨_, rfl, ?_⟩))
    (try simp only [Act.put, List.setIfInBounds_toArray, List.set_cons_zero, List.set_cons_succ])
    go_cut [5] (fun v5 wc => ∃ (kq : Nat) (x5_5 : Int), v5 = .int .i64 x5_5 ∧ Aside0 (lychgateref15_deep.j0 kq a1 x5_5 a0_0 a0_1 l0_2 a0_3 l0_4 a0_5 a0_6 l0_7 = some r) ∧ Aside0 (kq ≤ k) ∧ Aside0 (wc.heap[gb185]? = some (.cells #[.int .i8 a0_0, .int .i8 a0_1, (.slice A0_2 l0_2.length c0_2), .int .i8 a0_3, (.slice A0_4 l0_4.length c0_4), .int .i64 a0_5, .bool a0_6, (.slice A0_7 l0_7.length c0_7)] 54 (0, 0))) ∧ Aside0 (Below w.heap.size w wc))
    case first =>
      have H := HC6.out
      clear HC6
      by_cases c9 : t186 = true
      · subst c9
        have H1 : ((lychgateref02_Depth.f k a0_1 l0_2).bind fun t187 => (lychgateref15_deep.j0 k a1 (mx 0 t187) a0_0 a0_1 l0_2 a0_3 l0_4 a0_5 a0_6 l0_7)) = some r := by rw [if_pos rfl] at H; exact H
        clear H
        have H := H1
        clear H1
        replace H := Option.bind_eq_some_iff.mp H
        obtain ⟨t187, A100, H⟩ := H
        replace H : (lychgateref15_deep.j0 k a1 (mx 0 t187) a0_0 a0_1 l0_2 a0_3 l0_4 a0_5 a0_6 l0_7) = some r := H
        have A10 := Aside0.mk A100
        clear A100
        obtain ⟨ji11, hji11⟩ : ∃ j_ : Int, (mx 0 t187) = j_ := ⟨_, rfl⟩
        replace H : (lychgateref15_deep.j0 k a1 ji11 a0_0 a0_1 l0_2 a0_3 l0_4 a0_5 a0_6 l0_7) = some r := by first | (rw [hji11] at H; exact H) | (simp only [hji11] at H ⊢; exact H)
        (try rw [hji11] at A10)
        (try (have hji11l : 0 ≤ ji11 := by (rw [← hji11]; unfold mx; (repeat' split) <;> omega)))
        (try (have hji11m : 0 ≤ ji11 := by omega))
        have hji11_ : (if 0 < t187 then t187 else 0) = ji11 := hji11
        have H' := Aside0.mk H
        clear H
        obtain ⟨hcz12_0, hcz12_1, hcz12_2, hcz12_3, hcz12_4, hcz12_5, hcz12_6, hcz12_7⟩ := cells8 BK185.out
        go_wp2_with (first | ((with_reducible refine gate_callee (f := 87) rfl ?_); refine goesL_ (some 16) rfl rfl Tryd.func87 (by kernel_rfl) rfl #[.agg #[.int .i8 a0_1, .slice A0_2 l0_2.length c0_2]] rfl (by (try simp only [List.map_toArray, List.map_cons, List.map_nil]); first | done | rfl | (simp only [List.length_drop, List.length_take]; rfl)) ?_; (with_reducible refine (lychgateref02_Depth.calls k a0_1 _ _ l0_2 t187 _ ?side1 ?side2 A10.out).mono ?_); (case side1 => repeat (first | exact (Kd.C_below HR0_2.out HB.out) | (with_reducible refine Kd.C_alloc ?_ _) | (with_reducible refine Kd.C_drewN ?_ _) | (with_reducible refine Kd.C_drew ?_))); (case side2 => exact HC0_2.out); rintro e w13 ⟨rfl, hb⟩; refine ⟨_, rfl, ?_⟩; have n0_ := Aside0.mk (blk_below (g := gb185) (o := .cells #[.int .i8 a0_0, .int .i8 a0_1, .slice A0_2 l0_2.length c0_2, .int .i8 a0_3, .slice A0_4 l0_4.length c0_4, .int .i64 a0_5, .bool a0_6, .slice A0_7 l0_7.length c0_7] 54 (0, 0)) (by (with_reducible repeat (first | refine blk_drewN ?_ _ | refine blk_drew ?_ | refine blk_alloc ?_ _)); exact BK185.out) hb); have n1_ := Aside0.mk (below_step (by repeat (first | (with_reducible first | exact HB.out | apply below_alloc | apply pw_below_drewN | apply below_drew1 | refine below_set ?_ GE185.out) | exact HB.out)) hb); clear BK185; clear HB; have BK185 := n0_; have HB := n1_; clear n0_ n1_; (try clear hb); (try clear hb2); (try clear hk); (try clear hi)))
        go_meet
        case rel => exact ⟨_, (ji11), (by first | rfl | (simp; done) | (simp only [← hji11] <;> (first | rfl | simp)) | (simp [*]; done)), H', ⟨by first | omega | exact Nat.le_refl _⟩, ⟨by (with_reducible repeat (first | refine blk_drewN ?_ _ | refine blk_drew ?_ | refine blk_alloc ?_ _)); exact BK185.out⟩, ⟨by repeat (first | (with_reducible first | exact HB.out | apply below_alloc | apply pw_below_drewN | apply below_drew1 | refine below_set ?_ GE185.out) | exact HB.out)⟩⟩
      · replace c9 := Bool.eq_false_iff.mpr c9
        subst c9
        have H1 : (lychgateref15_deep.j0 k a1 0 a0_0 a0_1 l0_2 a0_3 l0_4 a0_5 a0_6 l0_7) = some r := by rw [if_neg (show ¬ (false = true) by decide)] at H; exact H
        clear H
        have H := H1
        clear H1
        have H' := Aside0.mk H
        clear H
        go_wp2
        go_meet
        case rel => exact ⟨_, (0), (by first | rfl | simp [*]), H', ⟨by first | omega | exact Nat.le_refl _⟩, ⟨by (with_reducible repeat (first | refine blk_drewN ?_ _ | refine blk_drew ?_ | refine blk_alloc ?_ _)); exact BK185.out⟩, ⟨by repeat (first | (with_reducible first | exact HB.out | apply below_alloc | apply pw_below_drewN | apply below_drew1 | refine below_set ?_ GE185.out) | exact HB.out)⟩⟩
    case rest =>
      clear HC6
      try clear p2
      try clear c3
      try clear c3b0
      try clear c4
      try clear c8
      try clear c9
      try clear hcz12_0 hcz12_1 hcz12_2 hcz12_3 hcz12_4 hcz12_5 hcz12_6 hcz12_7
      try clear hcz8_0 hcz8_1 hcz8_2 hcz8_3 hcz8_4 hcz8_5 hcz8_6 hcz8_7
      obtain ⟨kq, x5_5, rfl, HA, HJ5, BK185, HB⟩ := hcut
      cases kq with
      | zero => exact absurd HA.out (by simp [lychgateref15_deep.j0])
      | succ kj5 =>
        have H := HA.out
        clear HA
        simp only [lychgateref15_deep.j0] at H
        replace H := Option.bind_eq_some_iff.mp H
        obtain ⟨t188, A140, H⟩ := H
        replace H : (if t188 = true then ((lychgateref02_Depth.f kj5 a0_3 l0_4).bind fun t189 => (lychgateref15_deep.j1 kj5 a1 (mx x5_5 t189) a0_0 a0_1 l0_2 a0_3 l0_4 a0_5 a0_6 l0_7)) else (lychgateref15_deep.j1 kj5 a1 x5_5 a0_0 a0_1 l0_2 a0_3 l0_4 a0_5 a0_6 l0_7)) = some r := H
        have A14 := Aside0.mk A140
        clear A140
        have HC15 := Aside0.mk H
        clear H
        obtain ⟨hcz16_0, hcz16_1, hcz16_2, hcz16_3, hcz16_4, hcz16_5, hcz16_6, hcz16_7⟩ := cells8 BK185.out
        go_upto_if 20 with (first | ((with_reducible refine gate_callee (f := 98) rfl ?_); refine goesL_ (some 20) rfl rfl Tryd.func98 (by kernel_rfl) rfl #[.int .i8 a0_0] rfl (by (try simp only [List.map_toArray, List.map_cons, List.map_nil]); first | done | rfl | (simp only [List.length_drop, List.length_take]; rfl)) ?_; (with_reducible refine (lychgateref15_toed.calls a0_0 t188 _ A14.out).mono ?_); rintro e w' ⟨rfl, ⟨nd, rfl⟩⟩; refine ⟨_, rfl, ?_⟩))
        (try simp only [Act.put, List.setIfInBounds_toArray, List.set_cons_zero, List.set_cons_succ])
        go_cut [5] (fun v5 wc => ∃ (kq : Nat) (x5_14 : Int), v5 = .int .i64 x5_14 ∧ Aside0 (lychgateref15_deep.j1 kq a1 x5_14 a0_0 a0_1 l0_2 a0_3 l0_4 a0_5 a0_6 l0_7 = some r) ∧ Aside0 (kq ≤ kj5) ∧ Aside0 (wc.heap[gb185]? = some (.cells #[.int .i8 a0_0, .int .i8 a0_1, (.slice A0_2 l0_2.length c0_2), .int .i8 a0_3, (.slice A0_4 l0_4.length c0_4), .int .i64 a0_5, .bool a0_6, (.slice A0_7 l0_7.length c0_7)] 54 (0, 0))) ∧ Aside0 (Below w.heap.size w wc))
        case first =>
          have H := HC15.out
          clear HC15
          by_cases c17 : t188 = true
          · subst c17
            have H1 : ((lychgateref02_Depth.f kj5 a0_3 l0_4).bind fun t189 => (lychgateref15_deep.j1 kj5 a1 (mx x5_5 t189) a0_0 a0_1 l0_2 a0_3 l0_4 a0_5 a0_6 l0_7)) = some r := by rw [if_pos rfl] at H; exact H
            clear H
            have H := H1
            clear H1
            replace H := Option.bind_eq_some_iff.mp H
            obtain ⟨t189, A180, H⟩ := H
            replace H : (lychgateref15_deep.j1 kj5 a1 (mx x5_5 t189) a0_0 a0_1 l0_2 a0_3 l0_4 a0_5 a0_6 l0_7) = some r := H
            have A18 := Aside0.mk A180
            clear A180
            obtain ⟨ji19, hji19⟩ : ∃ j_ : Int, (mx x5_5 t189) = j_ := ⟨_, rfl⟩
            replace H : (lychgateref15_deep.j1 kj5 a1 ji19 a0_0 a0_1 l0_2 a0_3 l0_4 a0_5 a0_6 l0_7) = some r := by first | (rw [hji19] at H; exact H) | (simp only [hji19] at H ⊢; exact H)
            (try rw [hji19] at A18)
            have hji19_ : (if x5_5 < t189 then t189 else x5_5) = ji19 := hji19
            have H' := Aside0.mk H
            clear H
            obtain ⟨hcz20_0, hcz20_1, hcz20_2, hcz20_3, hcz20_4, hcz20_5, hcz20_6, hcz20_7⟩ := cells8 BK185.out
            go_wp2_with (first | ((with_reducible refine gate_callee (f := 87) rfl ?_); refine goesL_ (some 24) rfl rfl Tryd.func87 (by kernel_rfl) rfl #[.agg #[.int .i8 a0_3, .slice A0_4 l0_4.length c0_4]] rfl (by (try simp only [List.map_toArray, List.map_cons, List.map_nil]); first | done | rfl | (simp only [List.length_drop, List.length_take]; rfl)) ?_; (with_reducible refine (lychgateref02_Depth.calls kj5 a0_3 _ _ l0_4 t189 _ ?side1 ?side2 A18.out).mono ?_); (case side1 => repeat (first | exact (Kd.C_below HR0_4.out HB.out) | (with_reducible refine Kd.C_alloc ?_ _) | (with_reducible refine Kd.C_drewN ?_ _) | (with_reducible refine Kd.C_drew ?_))); (case side2 => exact HC0_4.out); rintro e w21 ⟨rfl, hb⟩; refine ⟨_, rfl, ?_⟩; have n0_ := Aside0.mk (blk_below (g := gb185) (o := .cells #[.int .i8 a0_0, .int .i8 a0_1, .slice A0_2 l0_2.length c0_2, .int .i8 a0_3, .slice A0_4 l0_4.length c0_4, .int .i64 a0_5, .bool a0_6, .slice A0_7 l0_7.length c0_7] 54 (0, 0)) (by (with_reducible repeat (first | refine blk_drewN ?_ _ | refine blk_drew ?_ | refine blk_alloc ?_ _)); exact BK185.out) hb); have n1_ := Aside0.mk (below_step (by repeat (first | (with_reducible first | exact HB.out | apply below_alloc | apply pw_below_drewN | apply below_drew1 | refine below_set ?_ GE185.out) | exact HB.out)) hb); clear BK185; clear HB; have BK185 := n0_; have HB := n1_; clear n0_ n1_; (try clear hb); (try clear hb2); (try clear hk); (try clear hi)))
            go_meet
            case rel => exact ⟨_, (ji19), (by first | rfl | (simp; done) | (simp only [← hji19] <;> (first | rfl | simp)) | (simp [*]; done)), H', ⟨by have := HJ5.out; first | omega | exact Nat.le_refl _⟩, ⟨by (with_reducible repeat (first | refine blk_drewN ?_ _ | refine blk_drew ?_ | refine blk_alloc ?_ _)); exact BK185.out⟩, ⟨by repeat (first | (with_reducible first | exact HB.out | apply below_alloc | apply pw_below_drewN | apply below_drew1 | refine below_set ?_ GE185.out) | exact HB.out)⟩⟩
          · replace c17 := Bool.eq_false_iff.mpr c17
            subst c17
            have H1 : (lychgateref15_deep.j1 kj5 a1 x5_5 a0_0 a0_1 l0_2 a0_3 l0_4 a0_5 a0_6 l0_7) = some r := by rw [if_neg (show ¬ (false = true) by decide)] at H; exact H
            clear H
            have H := H1
            clear H1
            have H' := Aside0.mk H
            clear H
            go_wp2
            go_meet
            case rel => exact ⟨_, (x5_5), (by first | rfl | simp [*]), H', ⟨by have := HJ5.out; first | omega | exact Nat.le_refl _⟩, ⟨by (with_reducible repeat (first | refine blk_drewN ?_ _ | refine blk_drew ?_ | refine blk_alloc ?_ _)); exact BK185.out⟩, ⟨by repeat (first | (with_reducible first | exact HB.out | apply below_alloc | apply pw_below_drewN | apply below_drew1 | refine below_set ?_ GE185.out) | exact HB.out)⟩⟩
        case rest =>
          clear HC15
          try clear c1
          try clear p2
          try clear c3
          try clear c3b0
          try clear c4
          try clear c8
          try clear c9
          try clear c17
          try clear hcz12_0 hcz12_1 hcz12_2 hcz12_3 hcz12_4 hcz12_5 hcz12_6 hcz12_7
          try clear hcz16_0 hcz16_1 hcz16_2 hcz16_3 hcz16_4 hcz16_5 hcz16_6 hcz16_7
          try clear hcz20_0 hcz20_1 hcz20_2 hcz20_3 hcz20_4 hcz20_5 hcz20_6 hcz20_7
          try clear hcz8_0 hcz8_1 hcz8_2 hcz8_3 hcz8_4 hcz8_5 hcz8_6 hcz8_7
          try clear p2
          obtain ⟨kq, x5_14, rfl, HA, HJ14, BK185, HB⟩ := hcut
          cases kq with
          | zero => exact absurd HA.out (by simp [lychgateref15_deep.j1])
          | succ kj14 =>
            have H := HA.out
            clear HA
            simp only [lychgateref15_deep.j1] at H
            have H' := Aside0.mk H
            clear H
            go_wp2
            go_loopg [5, 6] kj14 (fun kq v5 v6 w' => ∃ (x5_3 : Int) (x6_3 : Int), v5 = .int .i64 x5_3 ∧ v6 = .int .i64 x6_3 ∧ Aside0 (lychgateref15_deep.l0 kq a1 x5_3 x6_3 a0_0 a0_1 l0_2 a0_3 l0_4 a0_5 a0_6 l0_7 = some r) ∧ Aside0 (kq ≤ kj14) ∧ Aside0 (w'.heap[gb185]? = some (.cells #[.int .i8 a0_0, .int .i8 a0_1, (.slice A0_2 l0_2.length c0_2), .int .i8 a0_3, (.slice A0_4 l0_4.length c0_4), .int .i64 a0_5, .bool a0_6, (.slice A0_7 l0_7.length c0_7)] 54 (0, 0))) ∧ Aside0 (Below w.heap.size w w'))
            case atStart => exact ⟨(x5_14), (0), (by first | rfl | simp [*]), (by first | rfl | simp [*]), H', ⟨Nat.le_refl _⟩, ⟨by (with_reducible repeat (first | refine blk_drewN ?_ _ | refine blk_drew ?_ | refine blk_alloc ?_ _)); exact BK185.out⟩, ⟨by repeat (first | (with_reducible first | exact HB.out | apply below_alloc | apply pw_below_drewN | apply below_drew1 | refine below_set ?_ GE185.out) | exact HB.out)⟩⟩
            case round =>
              clear H'
              try clear c1
              try clear p2
              try clear c3
              try clear c3b0
              try clear c4
              try clear c8
              try clear c9
              try clear c17
              try clear hcz12_0 hcz12_1 hcz12_2 hcz12_3 hcz12_4 hcz12_5 hcz12_6 hcz12_7
              try clear hcz16_0 hcz16_1 hcz16_2 hcz16_3 hcz16_4 hcz16_5 hcz16_6 hcz16_7
              try clear hcz20_0 hcz20_1 hcz20_2 hcz20_3 hcz20_4 hcz20_5 hcz20_6 hcz20_7
              try clear hcz8_0 hcz8_1 hcz8_2 hcz8_3 hcz8_4 hcz8_5 hcz8_6 hcz8_7
              try clear p2
              obtain ⟨x5_3, x6_3, rfl, rfl, HA, HK3, BK185, HB⟩ := hrel
              cases gk with
              | zero => exact absurd HA.out (by simp [lychgateref15_deep.l0])
              | succ k3 =>
                have H := HA.out
                clear HA
                simp only [lychgateref15_deep.l0] at H
                by_cases c22 : x6_3 < (l0_7.length : Int)
                · rw [if_pos c22] at H
                  have c22b0 : decide (x6_3 < (l0_7.length : Int)) = true := decide_eq_true c22
                  clear c22
                  by_cases c23 : 0 ≤ x6_3
                  · rw [if_pos c23] at H
                    have c23b0 : decide (0 ≤ x6_3) = true := decide_eq_true c23
                    clear c23
                    replace H := Option.bind_eq_some_iff.mp H
                    obtain ⟨t191, A240, H⟩ := H
                    replace H : (lychgateref15_deep.l0 k3 a1 (mx x5_3 t191) (wrap64 (x6_3 + 1)) a0_0 a0_1 l0_2 a0_3 l0_4 a0_5 a0_6 l0_7) = some r := H
                    have A24 := Aside0.mk A240
                    clear A240
                    obtain ⟨ji25, hji25⟩ : ∃ j_ : Int, (mx x5_3 t191) = j_ := ⟨_, rfl⟩
                    replace H : (lychgateref15_deep.l0 k3 a1 ji25 (wrap64 (x6_3 + 1)) a0_0 a0_1 l0_2 a0_3 l0_4 a0_5 a0_6 l0_7) = some r := by first | (rw [hji25] at H; exact H) | (simp only [hji25] at H ⊢; exact H)
                    (try rw [hji25] at A24)
                    have hji25_ : (if x5_3 < t191 then t191 else x5_3) = ji25 := hji25
                    have H' := Aside0.mk H
                    clear H
                    obtain ⟨hcz26_0, hcz26_1, hcz26_2, hcz26_3, hcz26_4, hcz26_5, hcz26_6, hcz26_7⟩ := cells8 BK185.out
                    have p190 : 0 ≤ (x6_3 : Int) := of_decide_eq_true (by first | (with_reducible assumption) | assumption)
                    have q190 : x6_3 < (l0_7.length : Int) := of_decide_eq_true (by first | (with_reducible assumption) | assumption)
                    obtain ⟨ad190, A190_2, c190_2, A190_4, c190_4, A190_7, c190_7, e190, hx190_0, hx190_1, hx190_2, hx190_3, hx190_4, hx190_5, hx190_6, hx190_7, hl190_2, hi190_2, hl190_4, hi190_4, hl190_7, hi190_7⟩ := at_T54 HR0_7.out x6_3 p190 q190
                    cases e190
                    replace hx190_0 := (HB.out.cell (World.block_lt_of_cell? w _ hx190_0)).trans hx190_0
                    replace hx190_1 := (HB.out.cell (World.block_lt_of_cell? w _ hx190_1)).trans hx190_1
                    replace hx190_2 := (HB.out.cell (World.block_lt_of_cell? w _ hx190_2)).trans hx190_2
                    replace hx190_3 := (HB.out.cell (World.block_lt_of_cell? w _ hx190_3)).trans hx190_3
                    replace hx190_4 := (HB.out.cell (World.block_lt_of_cell? w _ hx190_4)).trans hx190_4
                    replace hx190_5 := (HB.out.cell (World.block_lt_of_cell? w _ hx190_5)).trans hx190_5
                    replace hx190_6 := (HB.out.cell (World.block_lt_of_cell? w _ hx190_6)).trans hx190_6
                    replace hx190_7 := (HB.out.cell (World.block_lt_of_cell? w _ hx190_7)).trans hx190_7
                    have HR190_2 := Aside0.mk hi190_2
                    have HC190_2 := Aside0.mk hl190_2
                    clear hi190_2 hl190_2
                    have HR190_4 := Aside0.mk hi190_4
                    have HC190_4 := Aside0.mk hl190_4
                    clear hi190_4 hl190_4
                    have HR190_7 := Aside0.mk hi190_7
                    have HC190_7 := Aside0.mk hl190_7
                    clear hi190_7 hl190_7
                    replace p190 := eq_true p190
                    replace q190 := eq_true q190
                    go_wp2_with (first | ((with_reducible refine gate_callee (f := 49) rfl ?_); refine goesL_ (some 41) rfl rfl Tryd.func49 (by kernel_rfl) rfl #[.agg #[.int .i8 ((rd_T54 l0_7 x6_3).f0), .int .i8 ((rd_T54 l0_7 x6_3).f1.f0), .slice A190_2 ((rd_T54 l0_7 x6_3).f1.f1).length c190_2, .int .i8 ((rd_T54 l0_7 x6_3).f2.f0), .slice A190_4 ((rd_T54 l0_7 x6_3).f2.f1).length c190_4, .int .i64 ((rd_T54 l0_7 x6_3).f3), .bool ((rd_T54 l0_7 x6_3).f4), .slice A190_7 ((rd_T54 l0_7 x6_3).f5).length c190_7], .int .i64 (wrap64 (a1 - 1))] rfl (by (try simp only [List.map_toArray, List.map_cons, List.map_nil]); first | done | rfl | (simp only [List.length_drop, List.length_take]; rfl)) ?_; (with_reducible refine (ih k3 (by have := HJ5.out; have := HJ14.out; have := HK3.out; omega) ((rd_T54 l0_7 x6_3).f0) ((rd_T54 l0_7 x6_3).f1.f0) _ _ ((rd_T54 l0_7 x6_3).f1.f1) ((rd_T54 l0_7 x6_3).f2.f0) _ _ ((rd_T54 l0_7 x6_3).f2.f1) ((rd_T54 l0_7 x6_3).f3) ((rd_T54 l0_7 x6_3).f4) _ _ ((rd_T54 l0_7 x6_3).f5) (wrap64 (a1 - 1)) t191 _ ?side1 ?side2 ?side3 ?side4 ?side5 ?side6 A24.out).mono ?_); (case side1 => repeat (first | exact (Kd.C_below HR190_2.out HB.out) | (with_reducible refine Kd.C_alloc ?_ _) | (with_reducible refine Kd.C_drewN ?_ _) | (with_reducible refine Kd.C_drew ?_))); (case side2 => exact HC190_2.out); (case side3 => repeat (first | exact (Kd.C_below HR190_4.out HB.out) | (with_reducible refine Kd.C_alloc ?_ _) | (with_reducible refine Kd.C_drewN ?_ _) | (with_reducible refine Kd.C_drew ?_))); (case side4 => exact HC190_4.out); (case side5 => repeat (first | exact (Kd.C_below HR190_7.out HB.out) | (with_reducible refine Kd.C_alloc ?_ _) | (with_reducible refine Kd.C_drewN ?_ _) | (with_reducible refine Kd.C_drew ?_))); (case side6 => exact HC190_7.out); rintro e w27 ⟨rfl, hb⟩; refine ⟨_, rfl, ?_⟩; have n0_ := Aside0.mk (blk_below (g := gb185) (o := .cells #[.int .i8 a0_0, .int .i8 a0_1, .slice A0_2 l0_2.length c0_2, .int .i8 a0_3, .slice A0_4 l0_4.length c0_4, .int .i64 a0_5, .bool a0_6, .slice (some ad190) l0_7.length c0_7] 54 (0, 0)) (by (with_reducible repeat (first | refine blk_drewN ?_ _ | refine blk_drew ?_ | refine blk_alloc ?_ _)); exact BK185.out) hb); have n1_ := Aside0.mk (below_step (by repeat (first | (with_reducible first | exact HB.out | apply below_alloc | apply pw_below_drewN | apply below_drew1 | refine below_set ?_ GE185.out) | exact HB.out)) hb); clear BK185; clear HB; have BK185 := n0_; have HB := n1_; clear n0_ n1_; (try clear hb); (try clear hb2); (try clear hk); (try clear hi)))
                    go_roundg k3
                    case measure => have := HJ5.out; have := HJ14.out; have := HK3.out; omega
                    case rel => exact ⟨(ji25), (wrap64 (x6_3 + 1)), (by first | rfl | (simp; done) | (simp only [← hji25] <;> (first | rfl | simp)) | (simp [*]; done)), (by first | rfl | simp [*]), H', ⟨by have := HJ5.out; have := HJ14.out; have := HK3.out; omega⟩, ⟨by (with_reducible repeat (first | refine blk_drewN ?_ _ | refine blk_drew ?_ | refine blk_alloc ?_ _)); exact BK185.out⟩, ⟨by repeat (first | (with_reducible first | exact HB.out | apply below_alloc | apply pw_below_drewN | apply below_drew1 | refine below_set ?_ GE185.out) | exact HB.out)⟩⟩
                  · rw [if_neg c23] at H
                    exact absurd H (by simp)
                · rw [if_neg c22] at H
                  have c22b0 : decide (x6_3 < (l0_7.length : Int)) = false := decide_eq_false c22
                  clear c22
                  obtain ⟨ji28, hji28⟩ : ∃ j_ : Int, (mn (wrap64 (1 + x5_3)) a1) = j_ := ⟨_, rfl⟩
                  replace H : (some ji28) = some r := by first | (rw [hji28] at H; exact H) | (simp only [hji28] at H ⊢; exact H)
                  have hji28_ : (if a1 < (wrap64 (1 + x5_3)) then a1 else (wrap64 (1 + x5_3))) = ji28 := hji28
                  obtain rfl := Option.some.inj H
                  obtain ⟨hcz29_0, hcz29_1, hcz29_2, hcz29_3, hcz29_4, hcz29_5, hcz29_6, hcz29_7⟩ := cells8 BK185.out
                  go_wp2
                  go_ret
                  exact ⟨by first | rfl | (simp [errW_none, errW_some] <;> rfl) | (simp only [← hji28]; first | rfl | (simp [errW_none, errW_some] <;> rfl)) | (simp [*, errW_none, errW_some] <;> rfl), by repeat (first | (with_reducible first | exact HB.out | apply below_alloc | apply pw_below_drewN | apply below_drew1 | refine below_set ?_ GE185.out) | exact HB.out)⟩
end Go.Proofs.YtjmpejbciniceaaDoor.X
namespace Go.Proofs.YtjmpejbciniceaaDoor.X
open Go
section
variable {P : Program} {ops : Array Oper} {Q : Exit → Act → World → Prop} {md : Region.Mode} {S : World → Prop}
theorem callH {d : Option Tmp} (i : Nat) {oi : Oper} {fuel : Nat} {listed : Array Bool} {a : Act} {w : World} {f : FuncId} {args : Array Value} {R : Ending → World → Prop}
    (hi : ops[i]? = some oi) (hd : oi.dst = d) (hr : Region.ready md ops listed = [i]) (hw : Region.wanted oi (yielded ops a.tmps) = true)
    (hx : (execOp a.eval oi).run P w = .ok (.enter f args) w) (hc : Calls P f args w R)
    (h : ∀ e w', R e w' → ∃ v, e = .returned v ∧ S w' ∧ (S w' → wpAnyH P md ops Q S fuel (listed.setIfInBounds i true) (a.put d v) w')) :
    wpAnyH P md ops Q S (fuel + 1) listed a w := by
  subst hd
  refine wpAnyH_ready (rs := [i]) hr (by simp) (AllReadyH.cons hi (fun K hK => ?_) AllReadyH.nil)
  rw [if_pos hw]
  unfold Oper.wp
  rw [hx, Oper.upon_enter]
  refine hc.mono fun e w' hR => ?_
  obtain ⟨v, rfl, hS, hW⟩ := h e w' hR
  exact hK.out _ _ hS hW
end
end Go.Proofs.YtjmpejbciniceaaDoor.X
namespace Go.Proofs.YtjmpejbciniceaaDoor.X
open Go
section
variable {P : Program} {ops : Array Oper} {Q : Exit → Act → World → Prop} {md : Region.Mode} {S : World → Prop}
theorem takeH {d : Option Tmp} (i : Nat) {oi : Oper} {v : Value} {fuel : Nat} {listed : Array Bool} {a : Act} {w : World} (hi : ops[i]? = some oi) (hd : oi.dst = d)
    (hs : Region.noSelect ops = true) (hf : Region.free md ops listed i = true) (hr : (Region.ready md ops listed).contains i = true)
    (hQ : ∀ c a w, Q (.panic c) (a.put d v) w → Q (.panic c) a w) (hw : Region.wanted oi (yielded ops a.tmps) = true)
    (hy : ∀ w, S w → (execOp a.eval oi).run P w = .ok (.value v) w) (hS : S w)
    (h : wpAnyH P md ops Q S fuel (listed.setIfInBounds i true) (a.put d v) w) : wpAnyH P md ops Q S (fuel + 1) listed a w := by
  subst hd
  exact wpAnyH_take hi hs hf hr hQ (Or.inl ⟨hw, hy⟩) hS h
theorem passH {d : Option Tmp} (i : Nat) {oi : Oper} {fuel : Nat} {listed : Array Bool} {a : Act} {w : World} (hi : ops[i]? = some oi) (hd : oi.dst = d)
    (hs : Region.noSelect ops = true) (hf : Region.free md ops listed i = true) (hr : (Region.ready md ops listed).contains i = true)
    (hQ : ∀ c a w, Q (.panic c) (a.put d undef) w → Q (.panic c) a w) (hw : Region.wanted oi (yielded ops a.tmps) = false) (hS : S w)
    (h : wpAnyH P md ops Q S fuel (listed.setIfInBounds i true) (a.put d undef) w) : wpAnyH P md ops Q S (fuel + 1) listed a w := by
  subst hd
  exact wpAnyH_take hi hs hf hr hQ (Or.inr ⟨hw, rfl⟩) hS h
theorem takeA (d i : Nat) {oi : Oper} {v : Value} {fuel : Nat} {listed : Array Bool} {a : Act} {w : World} (hy : ∀ w, S w → (execOp a.eval oi).run P w = .ok (.value v) w) (hS : S w)
    (h : wpAnyH P md ops Q S fuel (listed.setIfInBounds i true) (a.put (some d) v) w) (hi : ops[i]? = some oi := by rfl) (hd : oi.dst = some d := by rfl)
    (hs : Region.noSelect ops = true := by kernel_rfl) (hf : Region.free md ops listed i = true := by kernel_rfl) (hr : (Region.ready md ops listed).contains i = true := by kernel_rfl)
    (hQ : ∀ c a w, Q (.panic c) (a.put (some d) v) w → Q (.panic c) a w := by exact fun _ _ _ h => h) (hw : Region.wanted oi (yielded ops a.tmps) = true := by rfl) : wpAnyH P md ops Q S (fuel + 1) listed a w := takeH i hi hd hs hf hr hQ hw hy hS h
end
end Go.Proofs.YtjmpejbciniceaaDoor.X
namespace Go.Proofs.YtjmpejbciniceaaDoor.X
open Go.RowKit Go.Proofs.YtjmpejbciniceaaDoorW.PrintWords Go.Proofs.YtjmpejbciniceaaDoorW.PrintLast Go.Proofs.YtjmpejbciniceaaDoorW.PrintMore
set_option linter.unusedVariables false
set_option linter.unusedSimpArgs false
section
variable {P : Program} {ops : Array Oper} {Q : Exit → Act → World → Prop} {md : Region.Mode} {S : World → Prop}
theorem tK (d i : Nat) {oi : Oper} {v : Value} {fuel : Nat} {listed : Array Bool} {a a' : Act} {w : World} (hS : S w) (h : wpAnyH P md ops Q S fuel (listed.setIfInBounds i true) a' w)
    (hi : ops[i]? = some oi := by rfl) (hd : oi.dst = some d := by rfl)
    (hy : ∀ w, S w → (execOp a.eval oi).run P w = .ok (.value v) w := by intro w hSw; (try dsimp only at hSw); go_simp <;> with_reducible rfl)
    (ha : a.put (some d) v = a' := by simp only [Act.put, List.setIfInBounds_toArray, List.set_cons_zero, List.set_cons_succ] <;> with_reducible rfl)
    (hs : Region.noSelect ops = true := by kernel_rfl) (hf : Region.free md ops listed i = true := by kernel_rfl) (hr : (Region.ready md ops listed).contains i = true := by kernel_rfl)
    (hQ : ∀ c a w, Q (.panic c) (a.put (some d) v) w → Q (.panic c) a w := by exact fun _ _ _ h => h) (hw : Region.wanted oi (yielded ops a.tmps) = true := by rfl) : wpAnyH P md ops Q S (fuel + 1) listed a w := by
  subst ha
  exact takeH i hi hd hs hf hr hQ hw hy hS h
theorem pK (d i : Nat) {oi : Oper} {fuel : Nat} {listed : Array Bool} {a a' : Act} {w : World} (hS : S w) (h : wpAnyH P md ops Q S fuel (listed.setIfInBounds i true) a' w)
    (hi : ops[i]? = some oi := by rfl) (hd : oi.dst = some d := by rfl)
    (ha : a.put (some d) undef = a' := by simp only [Act.put, List.setIfInBounds_toArray, List.set_cons_zero, List.set_cons_succ] <;> with_reducible rfl)
    (hs : Region.noSelect ops = true := by kernel_rfl) (hf : Region.free md ops listed i = true := by kernel_rfl) (hr : (Region.ready md ops listed).contains i = true := by kernel_rfl)
    (hQ : ∀ c a w, Q (.panic c) (a.put (some d) undef) w → Q (.panic c) a w := by exact fun _ _ _ h => h) (hw : Region.wanted oi (yielded ops a.tmps) = false := by rfl) : wpAnyH P md ops Q S (fuel + 1) listed a w := by
  subst ha
  exact passH i hi hd hs hf hr hQ hw hS h
theorem nA {fuel : Nat} {listed : Array Bool} {a a' : Act} {w : World} (h : wpAnyH P md ops Q S fuel listed a' w) (ha : a = a' := by simp only [Act.put, List.setIfInBounds_toArray, List.set_cons_zero, List.set_cons_succ] <;> with_reducible rfl) : wpAnyH P md ops Q S fuel listed a w := by
  subst ha
  exact h
theorem cK (d i : Nat) {oi : Oper} {fuel : Nat} {listed : Array Bool} {a : Act} {w : World} {f : FuncId} {args : Array Value} {R : Ending → World → Prop}
    (hc : Calls P f args w R) (h : ∀ e w', R e w' → ∃ v, e = .returned v ∧ S w' ∧ (S w' → wpAnyH P md ops Q S fuel (listed.setIfInBounds i true) (a.put (some d) v) w'))
    (hi : ops[i]? = some oi := by rfl) (hd : oi.dst = some d := by rfl) (hr : Region.ready md ops listed = [i] := by kernel_rfl) (hw : Region.wanted oi (yielded ops a.tmps) = true := by rfl)
    (hx : (execOp a.eval oi).run P w = .ok (.enter f args) w := by kernel_rfl) : wpAnyH P md ops Q S (fuel + 1) listed a w := callH i hi hd hr hw hx hc h
end
theorem bcl {w : World} {g : Nat} {t : TypeId} {cs : Array Value} (h : w.heap[g]? = some (.cells cs t (0, 0))) {i : Nat} {v : Value} (e : cs[i]? = some v := by rfl) : w.cell? ⟨g, i, none⟩ = some v := (blk_cell h i).trans e
theorem pwc {w w1 : World} (h : Below w.heap.size w w1) {a : Addr} {v : Value} (hc : w.cell? a = some v) : w1.cell? a = some v := pw_cell_below h hc
theorem two_ (w : World) (o0 o1 : Obj) : ((w.alloc o0).alloc o1).heap[w.heap.size]? = some o0 ∧ ((w.alloc o0).alloc o1).heap[w.heap.size + 1]? = some o1 ∧ Below w.heap.size w ((w.alloc o0).alloc o1) :=
  ⟨blk_alloc (heap_alloc_new w o0) o1, by have := heap_alloc_new (w.alloc o0) o1; simpa using this, ((Below.refl _ _).alloc (Nat.le_refl _) _).alloc (by simp) _⟩
theorem cells2 {w : World} {g : Nat} {t : TypeId} {a b : Value} (h : w.heap[g]? = some (.cells #[a, b] t (0, 0))) : w.cell? ⟨g, 0, none⟩ = some a ∧ w.cell? ⟨g, 1, none⟩ = some b ∧ w.frozen? ⟨g, 0, none⟩ = false ∧ w.frozen? ⟨g, 1, none⟩ = false :=
  ⟨(blk_cell h 0).trans rfl, (blk_cell h 1).trans rfl, blk_frozen h 0, blk_frozen h 1⟩
end Go.Proofs.YtjmpejbciniceaaDoor.X
namespace Go.Proofs.YtjmpejbciniceaaDoor.X
open Go.RowKit Go.Proofs.YtjmpejbciniceaaDoorW.PrintWords Go.Proofs.YtjmpejbciniceaaDoorW.PrintLast Go.Proofs.YtjmpejbciniceaaDoorW.PrintMore
set_option linter.unusedVariables false
set_option linter.unusedSimpArgs false
mutual
def nodes : S43 → Nat
  | ⟨_, l⟩ => 1 + nodesL l
def nodesL : List S43 → Nat
  | [] => 0
  | x :: l => nodes x + nodesL l
end
theorem nodes_eq (x : S43) : nodes x = 1 + nodesL x.f1 := by cases x; rw [nodes]
theorem nodesL_append (l m : List S43) : nodesL (l ++ m) = nodesL l + nodesL m := by
  induction l with
  | nil => simp [nodesL]
  | cons x l ih => simp only [List.cons_append, nodesL, ih]; omega
theorem nodesL_take (l : List S43) (i : Nat) (h : i < l.length) : nodesL (l.take (i + 1)) = nodesL (l.take i) + nodes (rd_T43 l i) := by
  rw [List.take_succ_eq_append_getElem h, nodesL_append]
  simp [nodesL, rd_T43, List.getD_eq_getElem?_getD, h]
theorem nodesL_take_le (l : List S43) (i : Nat) : nodesL (l.take i) ≤ nodesL l := by
  have := nodesL_append (l.take i) (l.drop i)
  rw [List.take_append_drop] at this
  omega
def types_Nodes.f (a0_0 : Int) (l0_1 : List S43) : Option Int := some ((min (1 + nodesL l0_1) 8193 : Nat) : Int)
def CountPost (w0 w : World) (g : Nat) (v s : Int) (e : Ending) (w' : World) : Prop :=
  Below w0.heap.size w0 w' ∧ KeepBut w w' g none ∧
  ((v + s ≤ 8192 ∧ e = .returned (.tuple #[]) ∧ w'.heap[g]? = some (.cells #[.int .i64 (v + s)] 116 (0, 0))) ∨
   (8192 < v + s ∧ e = .panicked [{ v := .iface 118 (.agg #[]), recovered := false }]))
set_option maxRecDepth 100000 in
set_option maxHeartbeats 1600000 in
theorem count_calls (m : Nat) : ∀ (a0 : Int) (A : Option Addr) (c : Nat) (l : List S43) (g : Nat) (v : Int) (w0 w : World),
    nodesL l < m → 0 ≤ v → v ≤ 8192 → Below w0.heap.size w0 w → w0.heap.size ≤ g → w.heap[g]? = some (.cells #[.int .i64 v] 116 (0, 0)) →
    Kd.C k43 w0 A l.length l → l.length ≤ c →
    Calls Tryd.prog 78 #[.pointer (some ⟨g, 0, none⟩), .agg #[.int .i8 a0, .slice A l.length c]] w (CountPost w0 w g v (1 + nodesL l)) := by
  induction m with
  | zero => intro a0 A c l g v w0 w hm; omega
  | succ m ih =>
  intro a0 A c l g v w0 w hm hv0 hv1 HB0 hg hb0 hr hc
  have IH := Aside0.mk ih
  have HR := Aside0.mk hr
  have hL : l.length ≤ 9223372036854775807 := hr.2.1
  have HB := Aside0.mk HB0
  have HG := Aside0.mk hb0
  have hglt := blk_lt hb0
  have hcell := blk_cell hb0 0
  have hfz := blk_frozen hb0 0
  simp at hcell
  have HW1 : Aside0 (Below w0.heap.size w0 ((w.setCell ⟨g, 0, none⟩ (.int .i64 (v + 1))).alloc (.cells #[.int .i8 a0, .slice A l.length c] 43))) := ⟨(HB0.setCell hg _).alloc (by have := HB0.size; simp; omega) _⟩
  have HK1 : Aside0 (KeepBut w ((w.setCell ⟨g, 0, none⟩ (.int .i64 (v + 1))).alloc (.cells #[.int .i8 a0, .slice A l.length c] 43)) g none) := ⟨keep_alloc ((KeepBut.refl _ _ _).set_ 0 _) _⟩
  have HG1 : Aside0 (((w.setCell ⟨g, 0, none⟩ (.int .i64 (v + 1))).alloc (.cells #[.int .i8 a0, .slice A l.length c] 43)).heap[g]? = some (.cells #[.int .i64 (v + 1)] 116 (0, 0))) := ⟨by
    have := blk_alloc (blk_set hb0 0 (.int .i64 (v + 1))) (.cells #[.int .i8 a0, .slice A l.length c] 43)
    simpa using this⟩
  clear hb0 ih hr HB0
  by_cases h8 : v + 1 ≤ 8192
  · go_enter Tryd.func78, Tryd.ntmps78
    go_wp2_with fail
    go_loopw [23] (fun i wr => ∃ k : Nat, i = .int .i64 k ∧ k ≤ l.length ∧ Below w0.heap.size w0 wr ∧ KeepBut w wr g none ∧ v + 1 + (nodesL (l.take k) : Int) ≤ 8192 ∧ wr.heap[g]? = some (.cells #[.int .i64 (v + 1 + (nodesL (l.take k) : Int))] 116 (0, 0))) (fun i _ => l.length - (intOf i).toNat)
    case atStart => exact ⟨0, rfl, Nat.zero_le _, HW1.out, HK1.out, by simp [nodesL]; omega, by simpa [nodesL] using HG1.out⟩
    case round =>
      obtain ⟨k, rfl, hk, hB, hK, h8k, hG⟩ := hrel
      by_cases hlt : k < l.length
      · obtain ⟨ad, A1, c1, hA, hx0, hx1, hl1, hi1⟩ := at_T43 HR.out (k : Int) (by omega) (by omega)
        cases hA
        have hy0 := (hB.cell (World.block_lt_of_cell? w0 _ hx0)).trans hx0
        have hy1 := (hB.cell (World.block_lt_of_cell? w0 _ hx1)).trans hx1
        have hs := nodesL_take l k hlt
        rw [nodes_eq] at hs
        have hsl := nodesL_take_le l (k + 1)
        generalize hel : rd_T43 l (k : Int) = x at *
        have HS := Aside0.mk hs
        have HB := Aside0.mk hB
        have HK := Aside0.mk hK
        have HG := Aside0.mk hG
        have HI := Aside0.mk hi1
        have hbs := hB.size
        have hgl := blk_lt hG
        simp only [Int.toNat_natCast] at hy0 hy1
        clear hx0 hx1 hB hK hG hi1 hel hs
        go_wp2_with fail
        refine (IH.out _ _ _ x.f1 g (v + 1 + (nodesL (l.take k) : Int)) w0 _ (by have := HS.out; omega) (by omega) h8k (HB.out.alloc hbs _) hg (blk_alloc HG.out _) HI.out hl1).mono ?_
        rintro e w' ⟨hB2, hK2, hpost⟩
        have HB2 := Aside0.mk hB2
        have HK2 := Aside0.mk (KeepBut.trans (keep_alloc HK.out (.cells #[.int .i8 x.f0, .slice A1 x.f1.length c1] 43)) hK2 (.inl rfl))
        clear hB2 hK2
        rcases hpost with ⟨hle, rfl, hG2⟩ | ⟨hgt, rfl⟩
        · have hsum : v + 1 + ((nodesL (l.take k) : Nat) : Int) + (1 + ((nodesL x.f1 : Nat) : Int)) = v + 1 + ((nodesL (l.take (k + 1)) : Nat) : Int) := by have := HS.out; omega
          rw [hsum] at hG2 hle
          have HG2 := Aside0.mk hG2
          clear hG2 hsum
          go_wp2_with fail
          go_roundw
          case rel => exact ⟨k + 1, by go_num, by omega, HB2.out, HK2.out, hle, HG2.out⟩
          case measure => simp [intOf]; omega
        · refine ⟨rfl, HB2.out, HK2.out, .inr ⟨?_, rfl⟩⟩
          have := HS.out
          omega
      · obtain rfl : k = l.length := by omega
        have HB := Aside0.mk hB
        have HK := Aside0.mk hK
        have HG := Aside0.mk hG
        clear hB hK hG
        go_wp2_with fail
        rw [List.take_length] at *
        go_end0
        refine ⟨HB.out, HK.out, .inl ⟨by omega, rfl, ?_⟩⟩
        have := HG.out
        rw [this]
        congr 5
        omega
  · go_enter Tryd.func78, Tryd.ntmps78
    go_wp2_with fail
    refine ⟨rfl, HW1.out, HK1.out, .inr ⟨?_, rfl⟩⟩
    omega
set_option maxRecDepth 100000 in
theorem nodes_idle (p : Addr) (w : World) :
    CallsD Tryd.prog 77 #[.pointer (some p)] .returning w fun e u' w' => e = .returned (.tuple #[]) ∧ u' = .returning ∧ w' = w := by
  refine callsD_of_wpS Tryd.func77 rfl fun c₀ cs hu => ?_
  apply wpS_seq
  apply wpS_region
  simp [wpOpsS, go_sem, recoverD, hu, Tryd.ntmps77, Exit.thenS]
  refine wpS_of_wp ?_
  have hu20 := Tryd.underlying20
  have he : ∀ W : World, (binOp .eql 20 .nilIface .nilIface).run Tryd.prog W = .ok (.bool true) W := fun W => run_eql_nil_nil W 20 (by kernel_rfl)
  go_wp2
  cases c₀
  simp_all [bodyPostS, results, Tryd.results77]
set_option maxRecDepth 100000 in
theorem nodes_catch (g : Nat) (x : Int) (w : World) (hb : w.heap[g]? = some (.cells #[.int .i64 x] 3 (0, 0))) :
    CallsD Tryd.prog 77 #[.pointer (some ⟨g, 0, none⟩)] (.panicking [{ v := .iface 118 (.agg #[]), recovered := false }]) w fun e u' w' =>
      e = .returned (.tuple #[]) ∧ u' = .panicking [{ v := .iface 118 (.agg #[]), recovered := true }] ∧ w' = (w.alloc (.cells #[] 118)).setCell ⟨g, 0, none⟩ (.int .i64 8193) := by
  have hc := blk_cell (blk_alloc hb (.cells #[] 118)) 0
  have hz := blk_frozen (blk_alloc hb (.cells #[] 118)) 0
  simp at hc
  refine callsD_of_wpS Tryd.func77 rfl fun c₀ cs hu => ?_
  apply wpS_seq
  apply wpS_region
  simp [wpOpsS, go_sem, recoverD, hu, Tryd.ntmps77, Exit.thenS]
  refine wpS_of_wp ?_
  have hu20 := Tryd.underlying20
  have he : ∀ W : World, (binOp .eql 20 (.iface 118 (.agg #[])) .nilIface).run Tryd.prog W = .ok (.bool false) W := fun W => run_eql_held_nil W 20 118 _ (by kernel_rfl)
  have hta : ∀ W : World, (Instr.typeAssert (.iface 118 (.agg #[])) 20 118 true).run Tryd.prog W = .ok (.tuple #[.agg #[], .bool true]) W := fun W => by kernel_rfl
  go_wp2
  simp [bodyPostS, results, Tryd.results77]
set_option maxRecDepth 100000 in
set_option maxHeartbeats 1600000 in
theorem types_Nodes.calls (a0_0 : Int) (A0_1 : Option Addr) (c0_1 : Nat) (l0_1 : List S43) (r : Int) (w : World) (hr0_1 : Kd.C k43 w A0_1 l0_1.length l0_1) (hc0_1 : l0_1.length ≤ c0_1) (h : types_Nodes.f a0_0 l0_1 = some r) :
    Calls Tryd.prog 35 #[.agg #[.int .i8 a0_0, .slice A0_1 l0_1.length c0_1]] w fun e w' => e = .returned (.int .i64 r) ∧ Below w.heap.size w w' := by
  unfold types_Nodes.f at h
  have HV := Aside0.mk (Option.some.inj h)
  have HR := Aside0.mk hr0_1
  clear hr0_1 h
  have hmf : ∀ (fn : Fn) (first cap : Array Value) (w : World), (Instr.makeFunc fn first cap).run Tryd.prog w = .ok (.func fn first cap) w := fun _ _ _ _ => rfl
  generalize hO : Obj.cells #[.int .i8 a0_0, .slice A0_1 l0_1.length c0_1] 43 = O
  have hB3 : Below w.heap.size w (((w.alloc O).alloc (.cells #[.int .i64 0] 3)).alloc (.cells #[.int .i64 0] 116)) := (((Below.refl _ _).alloc (Nat.le_refl _) _).alloc (by simp) _).alloc (by simp; omega) _
  have hg3 : (((w.alloc O).alloc (.cells #[.int .i64 0] 3)).alloc (.cells #[.int .i64 0] 116)).heap[w.heap.size + 1 + 1]? = some (.cells #[.int .i64 0] 116 (0, 0)) := by
    have := heap_alloc_new ((w.alloc O).alloc (.cells #[.int .i64 0] 3)) (.cells #[.int .i64 0] 116)
    simpa using this
  have hn3 : (((w.alloc O).alloc (.cells #[.int .i64 0] 3)).alloc (.cells #[.int .i64 0] 116)).heap[w.heap.size + 1]? = some (.cells #[.int .i64 0] 3 (0, 0)) := by
    have := heap_alloc_new (w.alloc O) (.cells #[.int .i64 0] 3)
    exact blk_alloc (by simpa using this) _
  subst hO
  have HB3 := Aside0.mk hB3
  have HG3 := Aside0.mk hg3
  have HN3 := Aside0.mk hn3
  clear hB3 hg3 hn3
  go_enter_defers Tryd.func35, Tryd.ntmps35
  go_wp2_with fail
  refine (count_calls (nodesL l0_1 + 1) a0_0 A0_1 c0_1 l0_1 (w.heap.size + 1 + 1) 0 w _ (by omega) (by omega) (by omega) HB3.out (by omega) HG3.out HR.out hc0_1).mono ?_
  rintro e w' ⟨hB, hK, hpost⟩
  have HB := Aside0.mk hB
  have hn : w'.heap[w.heap.size + 1]? = some (.cells #[.int .i64 0] 3 (0, 0)) := hK.blk HN3.out (by omega) (by simp)
  have hnc := blk_cell hn 0
  have hnz := blk_frozen hn 0
  simp at hnc
  have HN := Aside0.mk hn
  have hsz := blk_lt hn
  clear hB hK hn
  rcases hpost with ⟨hle, rfl, hG⟩ | ⟨hgt, rfl⟩
  · have hgc := blk_cell hG 0
    simp at hgc
    have hv : (1 : Int) + ((nodesL l0_1 : Nat) : Int) = r := by have := HV.out; omega
    rw [hv] at hgc
    clear hG hv hle
    go_wp2_with fail
    refine leaves_cons (f := 77) (args := #[.pointer (some ⟨w.heap.size + 1, 0, none⟩)]) (by simp) (by simp [go_sem]) ?_
    refine (nodes_idle _ _).mono ?_
    rintro e u' w'' ⟨rfl, rfl, rfl⟩
    have hc2 : (w'.setCell ⟨w.heap.size + 1, 0, none⟩ (.int .i64 r)).cell? ⟨w.heap.size + 1, 0, none⟩ = some (.int .i64 r) := World.cell?_setCell_same _ _ _ hnc
    exact ⟨.int .i64 r, by simp [results, Tryd.results81, go_sem, hc2], rfl, HB.out.setCell (by simp) _⟩
  · have hv : r = 8193 := by have := HV.out; omega
    clear hgt
    refine leaves_cons (f := 77) (args := #[.pointer (some ⟨w.heap.size + 1, 0, none⟩)]) (by simp) (by simp [go_sem]) ?_
    refine (nodes_catch _ _ _ HN.out).mono ?_
    rintro e u' w'' ⟨rfl, rfl, rfl⟩
    have hc2 : ((w'.alloc (.cells #[] 118)).setCell ⟨w.heap.size + 1, 0, none⟩ (.int .i64 8193)).cell? ⟨w.heap.size + 1, 0, none⟩ = some (.int .i64 8193) := World.cell?_setCell_same _ _ _ ((blk_cell (blk_alloc HN.out _) 0).trans rfl)
    simp [Leaves, settle]
    exact ⟨.int .i64 8193, by simp [results, Tryd.results81, go_sem, hc2], by rw [hv], (HB.out.alloc (by omega) _).setCell (by simp) _⟩
end Go.Proofs.YtjmpejbciniceaaDoor.X
