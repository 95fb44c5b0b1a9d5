/- The contract of agree.level: whether two types agree, as far as both are known. -/
import Derived.Test.YtamhdpllmhafhaaHNodes
import Derived.StillTailTactics
namespace Go.Proofs.Ytamhdpllmhafhaa.X
open Go.RowKit Go.Proofs.YtamhdpllmhafhaaW.PrintWords Go.Proofs.YtamhdpllmhafhaaW.PrintLast Go.Proofs.YtamhdpllmhafhaaW.PrintMore
set_option linter.unusedVariables false
set_option linter.unusedSimpArgs false

mutual
def lev : S26 → S26 → Option Bool
  | ⟨k, l⟩, b => if k = 0 then some true else if b.f0 = 0 then some true else if k = b.f0 then levL l b.f1 else some false
def levL : List S26 → List S26 → Option Bool
  | [], _ => some true
  | x :: l, m => match m with
    | [] => none
    | y :: m => match lev x y with
      | none => none
      | some false => some false
      | some true => levL l m
end
theorem lev_eq (x b : S26) : lev x b = if x.f0 = 0 then some true else if b.f0 = 0 then some true else if x.f0 = b.f0 then levL x.f1 b.f1 else some false := by cases x; rw [lev]
theorem lev_eta (x y : S26) : lev ⟨x.f0, x.f1⟩ ⟨y.f0, y.f1⟩ = lev x y := by cases x; cases y; rfl
theorem drop_rd (l : List S26) (i : Nat) (h : i < l.length) : l.drop i = rd_T26 l i :: l.drop (i + 1) := by
  rw [List.drop_eq_getElem_cons h]
  congr 1
  simp [rd_T26, List.getD_eq_getElem?_getD, h]
theorem levL_drop {l m : List S26} {i : Nat} {r : Bool} (h : i < l.length) (hr : levL (l.drop i) (m.drop i) = some r) :
    i < m.length ∧ ((lev (rd_T26 l i) (rd_T26 m i) = some false ∧ r = false) ∨ (lev (rd_T26 l i) (rd_T26 m i) = some true ∧ levL (l.drop (i + 1)) (m.drop (i + 1)) = some r)) := by
  rw [drop_rd l i h] at hr
  rcases Nat.lt_or_ge i m.length with hm | hm
  · refine ⟨hm, ?_⟩
    rw [drop_rd m i hm, levL] at hr
    revert hr
    cases lev (rd_T26 l i) (rd_T26 m i) with
    | none => simp
    | some b => cases b <;> simp <;> intro h <;> simp [h]
  · rw [List.drop_eq_nil_of_le hm, levL] at hr
    simp at hr
theorem nodesL_rd (l : List S26) (i : Nat) (h : i < l.length) : nodesL (rd_T26 l i).f1 < nodesL l := by
  have := nodesL_take l i h
  rw [nodes_eq] at this
  have := nodesL_take_le l (i + 1)
  omega
def agree_level.f (a0_0 : Int) (l0_1 : List S26) (a1_0 : Int) (l1_1 : List S26) : Option Bool := lev ⟨a0_0, l0_1⟩ ⟨a1_0, l1_1⟩

set_option maxRecDepth 100000 in
set_option maxHeartbeats 1600000 in
theorem level_calls (n : Nat) : ∀ (a0_0 : Int) (A0_1 : Option Addr) (c0_1 : Nat) (l0_1 : List S26) (a1_0 : Int) (A1_1 : Option Addr) (c1_1 : Nat) (l1_1 : List S26) (r : Bool) (w : World)
    (hn : nodesL l0_1 < n) (hr0_1 : Kd.C k26 w A0_1 l0_1.length l0_1) (hc0_1 : l0_1.length ≤ c0_1) (hr1_1 : Kd.C k26 w A1_1 l1_1.length l1_1) (hc1_1 : l1_1.length ≤ c1_1) (h : lev ⟨a0_0, l0_1⟩ ⟨a1_0, l1_1⟩ = some r),
    Calls Try.prog 61 #[.agg #[.int .i8 a0_0, .slice A0_1 l0_1.length c0_1], .agg #[.int .i8 a1_0, .slice A1_1 l1_1.length c1_1]] w fun e w' => e = .returned (.bool r) ∧ Below w.heap.size w w' := by
  induction n with
  | zero => intro a0 A0 c0 l0 a1 A1 c1 l1 r w hn; omega
  | succ n ih =>
  intro a0 A0 c0 l0 a1 A1 c1 l1 r w hn hr0 hc0 hr1 hc1 h
  have IH := Aside0.mk ih
  have HR0 := Aside0.mk hr0
  have HR1 := Aside0.mk hr1
  have hL0 : l0.length ≤ 9223372036854775807 := hr0.2.1
  rw [lev] at h
  clear ih hr0 hr1
  by_cases k0 : a0 = 0
  · rw [if_pos k0] at h
    obtain rfl := Option.some.inj h
    subst k0
    go_enter Try.func61, Try.ntmps61
    go_wp2_with fail
    go_ret
    exact ⟨rfl, ((((Below.refl _ _).alloc (Nat.le_refl _) _).alloc (by simp) _).alloc (by simp; omega) _)⟩
  rw [if_neg k0] at h
  have d0 : (a0 == 0) = false := beq_eq_false_iff_ne.mpr k0
  by_cases k1 : a1 = 0
  · rw [if_pos k1] at h
    obtain rfl := Option.some.inj h
    subst k1
    go_enter Try.func61, Try.ntmps61
    go_wp2_with fail
    go_ret
    exact ⟨rfl, ((((Below.refl _ _).alloc (Nat.le_refl _) _).alloc (by simp) _).alloc (by simp; omega) _)⟩
  rw [if_neg k1] at h
  have d1 : (a1 == 0) = false := beq_eq_false_iff_ne.mpr k1
  by_cases k2 : a0 = a1
  · rw [if_pos k2] at h
    subst k2
    go_enter Try.func61, Try.ntmps61
    go_wp2_with fail
    have hB3 : Below w.heap.size w (((w.alloc (.cells #[.int .i8 a0, .slice A0 l0.length c0] 26)).alloc (.cells #[.int .i8 a0, .slice A1 l1.length c1] 26)).alloc (.cells #[.int .i8 a0, .int .i8 a0] 76)) := (((Below.refl _ _).alloc (Nat.le_refl _) _).alloc (by simp) _).alloc (by simp; omega) _
    have hb0 : (((w.alloc (.cells #[.int .i8 a0, .slice A0 l0.length c0] 26)).alloc (.cells #[.int .i8 a0, .slice A1 l1.length c1] 26)).alloc (.cells #[.int .i8 a0, .int .i8 a0] 76)).heap[w.heap.size]? = some (.cells #[.int .i8 a0, .slice A0 l0.length c0] 26 (0, 0)) := blk_alloc (blk_alloc (heap_alloc_new w _) _) _
    have hb1 : (((w.alloc (.cells #[.int .i8 a0, .slice A0 l0.length c0] 26)).alloc (.cells #[.int .i8 a0, .slice A1 l1.length c1] 26)).alloc (.cells #[.int .i8 a0, .int .i8 a0] 76)).heap[w.heap.size + 1]? = some (.cells #[.int .i8 a0, .slice A1 l1.length c1] 26 (0, 0)) := blk_alloc (by simpa using heap_alloc_new (w.alloc (.cells #[.int .i8 a0, .slice A0 l0.length c0] 26)) (.cells #[.int .i8 a0, .slice A1 l1.length c1] 26)) _
    generalize (((w.alloc (.cells #[.int .i8 a0, .slice A0 l0.length c0] 26)).alloc (.cells #[.int .i8 a0, .slice A1 l1.length c1] 26)).alloc (.cells #[.int .i8 a0, .int .i8 a0] 76)) = W3 at *
    have HB3 := Aside0.mk hB3
    have HK0 := Aside0.mk hb0
    have HK1 := Aside0.mk hb1
    have HH := Aside0.mk h
    clear hB3 hb0 hb1 h
    go_loopw [28] (fun i wr => ∃ k : Nat, i = .int .i64 k ∧ k ≤ l0.length ∧ levL (l0.drop k) (l1.drop k) = some r ∧ Below w.heap.size w wr ∧ wr.heap[w.heap.size]? = some (.cells #[.int .i8 a0, .slice A0 l0.length c0] 26 (0, 0)) ∧ wr.heap[w.heap.size + 1]? = some (.cells #[.int .i8 a0, .slice A1 l1.length c1] 26 (0, 0))) (fun i _ => l0.length - (intOf i).toNat)
    case atStart => exact ⟨0, rfl, Nat.zero_le _, HH.out, HB3.out, HK0.out, HK1.out⟩
    case round =>
      obtain ⟨k, rfl, hk, hr, hB, hb0, hb1⟩ := hrel
      by_cases hlt : k < l0.length
      · obtain ⟨hlt1, hcase⟩ := levL_drop hlt hr
        obtain ⟨ad, B1, d1_, hA, hx0, hx1, hl1, hi1⟩ := at_T26 HR0.out (k : Int) (by omega) (by omega)
        obtain ⟨bd, B2, d2_, hA2, hy0, hy1, hl2, hi2⟩ := at_T26 HR1.out (k : Int) (by omega) (by omega)
        cases hA
        cases hA2
        have hx0 := (hB.cell (World.block_lt_of_cell? w _ hx0)).trans hx0
        have hx1 := (hB.cell (World.block_lt_of_cell? w _ hx1)).trans hx1
        have hy0 := (hB.cell (World.block_lt_of_cell? w _ hy0)).trans hy0
        have hy1 := (hB.cell (World.block_lt_of_cell? w _ hy1)).trans hy1
        have hz0 := blk_cell hb0 1
        have hz1 := blk_cell hb1 1
        have hm := nodesL_rd l0 k hlt
        generalize rd_T26 l0 (k : Int) = x at *
        generalize rd_T26 l1 (k : Int) = y at *
        have hk0 : (k : Int) < (l0.length : Int) := by omega
        have hk1 : (k : Int) < (l1.length : Int) := by omega
        have HC := Aside0.mk hcase
        have HB := Aside0.mk hB
        have HK0 := Aside0.mk hb0
        have HK1 := Aside0.mk hb1
        have HI1 := Aside0.mk hi1
        have HI2 := Aside0.mk hi2
        simp only [Int.toNat_natCast] at hx0 hx1 hy0 hy1
        simp at hz0 hz1
        clear hB hb0 hb1 hi1 hi2 hcase hr
        go_wp2_with fail
        go_still_tail 10, (by kernel_rfl)
        rcases HC.out with ⟨hlev, rfl⟩ | ⟨hlev, hrest⟩
        · have HLV := Aside0.mk (show lev ⟨x.f0, x.f1⟩ ⟨y.f0, y.f1⟩ = some false from (lev_eta x y).trans hlev)
          clear hlev
          go_wp2_with fail
          refine (IH.out x.f0 B1 d1_ x.f1 y.f0 B2 d2_ y.f1 false _ (by omega) (Kd.C_below HI1.out HB.out.drew) hl1 (Kd.C_below HI2.out HB.out.drew) hl2 HLV.out).mono ?_
          rintro e w' ⟨rfl, hB2⟩
          have HB2 := Aside0.mk (below_then HB.out.drew HB.out.drew.size hB2)
          clear hB2
          go_wp2_with fail
          go_ret
          exact ⟨rfl, HB2.out⟩
        · have HLV := Aside0.mk (show lev ⟨x.f0, x.f1⟩ ⟨y.f0, y.f1⟩ = some true from (lev_eta x y).trans hlev)
          have HRS := Aside0.mk hrest
          clear hlev hrest
          go_wp2_with fail
          refine (IH.out x.f0 B1 d1_ x.f1 y.f0 B2 d2_ y.f1 true _ (by omega) (Kd.C_below HI1.out HB.out.drew) hl1 (Kd.C_below HI2.out HB.out.drew) hl2 HLV.out).mono ?_
          rintro e w' ⟨rfl, hB2⟩
          have HB2 := Aside0.mk (below_then HB.out.drew HB.out.drew.size hB2)
          have HK02 := Aside0.mk (blk_below (blk_drew HK0.out) hB2)
          have HK12 := Aside0.mk (blk_below (blk_drew HK1.out) hB2)
          clear hB2
          go_wp2_with fail
          go_roundw
          case rel => exact ⟨k + 1, by go_num, by omega, HRS.out, HB2.out, HK02.out, HK12.out⟩
          case measure => simp [intOf]; omega
      · have hkl : k = l0.length := by omega
        subst hkl
        rw [List.drop_length, levL] at hr
        obtain rfl := Option.some.inj hr
        have HB := Aside0.mk hB
        clear hB hb0 hb1 hr
        go_wp2_with fail
        go_ret
        exact ⟨rfl, HB.out⟩
  · rw [if_neg k2] at h
    obtain rfl := Option.some.inj h
    have d2 : (a0 != a1) = true := bne_iff_ne.mpr k2
    clear k0 k1 k2
    go_enter Try.func61, Try.ntmps61
    go_wp2_with fail
    go_ret
    exact ⟨rfl, ((((Below.refl _ _).alloc (Nat.le_refl _) _).alloc (by simp) _).alloc (by simp; omega) _)⟩
theorem agree_level.calls (a0_0 : Int) (A0_1 : Option Addr) (c0_1 : Nat) (l0_1 : List S26) (a1_0 : Int) (A1_1 : Option Addr) (c1_1 : Nat) (l1_1 : List S26) (r : Bool) (w : World)
    (hr0_1 : Kd.C k26 w A0_1 l0_1.length l0_1) (hc0_1 : l0_1.length ≤ c0_1) (hr1_1 : Kd.C k26 w A1_1 l1_1.length l1_1) (hc1_1 : l1_1.length ≤ c1_1) (h : agree_level.f a0_0 l0_1 a1_0 l1_1 = some r) :
    Calls Try.prog 61 #[.agg #[.int .i8 a0_0, .slice A0_1 l0_1.length c0_1], .agg #[.int .i8 a1_0, .slice A1_1 l1_1.length c1_1]] w fun e w' => e = .returned (.bool r) ∧ Below w.heap.size w w' :=
  level_calls (nodesL l0_1 + 1) _ _ _ _ _ _ _ _ _ _ (Nat.lt_succ_self _) hr0_1 hc0_1 hr1_1 hc1_1 h
end Go.Proofs.Ytamhdpllmhafhaa.X
