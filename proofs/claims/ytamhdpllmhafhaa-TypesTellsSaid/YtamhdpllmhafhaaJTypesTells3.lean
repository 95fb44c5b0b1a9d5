/- Texts of this claim, joined: HSpoil, FLike, HLike, FSmall, HSmall, FRefKnown, HRefKnown, WkTypesTells. -/
import Derived.RegionTactic
import Derived.ChangeAlike
import Derived.BigRegion
import Derived.Test.YtamhdpllmhafhaaJTypesTells0
import Derived.Test.YtamhdpllmhafhaaJTypesTells1
import Derived.Test.YtamhdpllmhafhaaJTypesTells2
/- The contract of the law's helper SpoilType, of a ground: it writes over the ground's own parts alone. -/
namespace Go.Proofs.Ytamhdpllmhafhaa.X
open Go.RowKit Go.Proofs.YtamhdpllmhafhaaW.PrintWords Go.Proofs.YtamhdpllmhafhaaW.PrintLast Go.Proofs.YtamhdpllmhafhaaW.PrintMore
set_option linter.unusedVariables false
set_option linter.unusedSimpArgs false

set_option maxRecDepth 100000 in
set_option maxHeartbeats 1600000 in
theorem spoil_leaf (k : Int) (A : Option Addr) (c : Nat) (w : World) : Calls Try.prog 52 #[.agg #[.int .i8 k, .slice A 0 c]] w fun e w' => e = .returned (.tuple #[]) ∧ Below w.heap.size w w' := by
  go_enter Try.func52, Try.ntmps52
  go_wp2_with fail
  have hB := below1 w #[.int .i8 k, .slice A 0 c] 26
  have K1 := Aside0.mk (heap_alloc_new w (.cells #[.int .i8 k, .slice A 0 c] 26))
  go_loopw [2] (fun i wr => i = .int .i64 0 ∧ wr.heap[w.heap.size]? = some (.cells #[.int .i8 k, .slice A 0 c] 26 (0, 0)) ∧ Below w.heap.size w wr) (fun i _ => 0)
  case atStart => exact ⟨rfl, K1.out, hB⟩
  case round =>
    obtain ⟨rfl, k1, hB2⟩ := hrel
    have HB := Aside0.mk hB2
    have e0 := (blk_cell k1 0).trans rfl
    have e1 := (blk_cell k1 1).trans rfl
    simp at e0 e1
    clear k1 hB2 hB K1
    go_wp2_with fail
    go_end0
    exact ⟨rfl, HB.out⟩
/-- Where the walk over two parts stands. -/
structure SpoilIn (w : World) (k : Int) (g c : Nat) (A1 : Option Addr) (c1 : Nat) (A2 : Option Addr) (c2 : Nat) (j : Nat) (cur : Array Value) (wr : World) : Prop where
  box : wr.heap[w.heap.size]? = some (.cells #[.int .i8 k, .slice (some ⟨g, 0, none⟩) 2 c] 26 (0, 0))
  row : wr.heap[g]? = some (.cells cur 26 (0, 0))
  one : j = 0 → cur[0]? = some (.int .i8 0) ∧ cur[1]? = some (.slice A1 0 c1)
  two : j ≤ 1 → cur[2]? = some (.int .i8 0) ∧ cur[3]? = some (.slice A2 0 c2)
  below : Below g w wr
set_option maxRecDepth 100000 in
set_option maxHeartbeats 1600000 in
theorem spoil_two (k : Int) (g c : Nat) (A1 : Option Addr) (c1 : Nat) (A2 : Option Addr) (c2 : Nat) (cur : Array Value) (w : World) (hg : w.heap[g]? = some (.cells cur 26 (0, 0))) (h0 : cur[0]? = some (.int .i8 0)) (h1 : cur[1]? = some (.slice A1 0 c1)) (h2 : cur[2]? = some (.int .i8 0)) (h3 : cur[3]? = some (.slice A2 0 c2)) :
    Calls Try.prog 52 #[.agg #[.int .i8 k, .slice (some ⟨g, 0, none⟩) 2 c]] w fun e w' => e = .returned (.tuple #[]) ∧ Below g w w' := by
  have hlt := blk_lt hg
  have HI0 : Aside0 (SpoilIn w k g c A1 c1 A2 c2 0 cur (w.alloc (.cells #[.int .i8 k, .slice (some ⟨g, 0, none⟩) 2 c] 26))) := .mk ⟨heap_alloc_new w _, blk_alloc hg _, fun _ => ⟨h0, h1⟩, fun _ => ⟨h2, h3⟩, (Below.refl _ _).alloc (by omega) _⟩
  clear hg h0 h1 h2 h3
  go_enter Try.func52, Try.ntmps52
  go_wp2_with fail
  go_loopw [2] (fun i wr => ∃ (j : Nat) (cur : Array Value), i = .int .i64 j ∧ j ≤ 2 ∧ SpoilIn w k g c A1 c1 A2 c2 j cur wr) (fun i _ => 2 - (intOf i).toNat)
  case atStart => exact ⟨0, cur, rfl, by omega, HI0.out⟩
  case round =>
    obtain ⟨j, cur2, rfl, hj, hI⟩ := hrel
    clear HI0
    have HI := Aside0.mk hI
    clear hI
    have HBX := Aside0.mk HI.out.box
    have HRW := Aside0.mk HI.out.row
    have HBL := Aside0.mk HI.out.below
    have e0 := (blk_cell HBX.out 0).trans rfl
    have e1 := (blk_cell HBX.out 1).trans rfl
    simp at e0 e1
    by_cases j0 : j = 0
    · subst j0
      have HP := Aside0.mk (HI.out.one rfl)
      have HT := Aside0.mk (HI.out.two (by omega))
      have e2 := (blk_cell HRW.out 0).trans HP.out.1
      have e3 := (blk_cell HRW.out 1).trans HP.out.2
      go_wp2_with fail
      refine (spoil_leaf _ _ _ _).mono ?_
      rintro e w2 ⟨rfl, hB⟩
      have hb := HI.out.box
      have hr := HI.out.row
      replace HBX := Aside0.mk (blk_below HI.out.box hB)
      replace HRW := Aside0.mk (blk_below HI.out.row hB)
      replace HBL := Aside0.mk (below_then HI.out.below (by have := HI.out.below.size; omega) hB)
      clear hb hr hB e0 e1 e2 e3
      have e0 := (blk_cell HBX.out 0).trans rfl
      have e1 := (blk_cell HBX.out 1).trans rfl
      have e2 := (blk_cell HRW.out 0).trans HP.out.1
      have e3 := (blk_cell HRW.out 1).trans HP.out.2
      have z2 := blk_frozen HRW.out 0
      have z3 := blk_frozen HRW.out 1
      simp at e0 e1
      go_wp2_with fail
      clear e0 e1 e2 e3 z2 z3
      refine ⟨⟨1, _, rfl, by omega, ⟨blk2_far HBX.out (by omega), blk_set (blk_set HRW.out 0 (.int .i8 77)) 1 (.slice none 0 0), fun h => absurd h (by omega), fun _ => ?_, below2s HBL.out (Nat.le_refl _)⟩⟩, by simp [intOf]⟩
      have := HT.out
      simpa using this
    · by_cases j1 : j = 1
      · subst j1
        have HP := Aside0.mk (HI.out.two (by omega))
        have e2 := (blk_cell HRW.out 2).trans HP.out.1
        have e3 := (blk_cell HRW.out 3).trans HP.out.2
        clear j0
        go_wp2_with fail
        refine (spoil_leaf _ _ _ _).mono ?_
        rintro e w2 ⟨rfl, hB⟩
        have hb := HI.out.box
        have hr := HI.out.row
        replace HBX := Aside0.mk (blk_below HI.out.box hB)
        replace HRW := Aside0.mk (blk_below HI.out.row hB)
        replace HBL := Aside0.mk (below_then HI.out.below (by have := HI.out.below.size; omega) hB)
        clear hb hr hB e0 e1 e2 e3
        have e0 := (blk_cell HBX.out 0).trans rfl
        have e1 := (blk_cell HBX.out 1).trans rfl
        have e2 := (blk_cell HRW.out 2).trans HP.out.1
        have e3 := (blk_cell HRW.out 3).trans HP.out.2
        have z2 := blk_frozen HRW.out 2
        have z3 := blk_frozen HRW.out 3
        simp at e0 e1
        go_wp2_with fail
        clear e0 e1 e2 e3 z2 z3
        refine ⟨⟨2, _, rfl, by omega, ⟨?_, blk_set (blk_set HRW.out 2 (.int .i8 77)) 3 (.slice none 0 0), fun h => absurd h (by omega), fun h => absurd h (by omega), ?_⟩⟩, by simp [intOf]⟩
        · exact blk_far (blk_far HBX.out (p := ⟨g, 2, none⟩) (by show _ ≠ g; omega) _) (p := ⟨g, 3, none⟩) (by show _ ≠ g; omega) _
        · exact (HBL.out.setCell (p := ⟨g, 2, none⟩) (Nat.le_refl _) _).setCell (p := ⟨g, 3, none⟩) (Nat.le_refl _) _
      · obtain rfl : j = 2 := by omega
        clear j0 j1
        go_wp2_with fail
        go_end0
        exact ⟨rfl, HBL.out⟩
/-- Of a ground that a call has made from base on. -/
theorem Spoil_ground {k : Int} {l : List S26} {v1 : Value} {base : Nat} {ok : Nat → Prop} {w : World} (hl : l = [] ∨ l = [z26, z26]) (hR : k26.R 26 w base ok v1 l) (hb : base ≤ w.heap.size) : Calls Try.prog 52 #[.agg #[.int .i8 k, v1]] w fun e w' => e = .returned (.tuple #[]) ∧ Below base w w' := by
  rcases hl with rfl | rfl
  · obtain ⟨A, c, rfl⟩ := Kd.R_slice hR
    exact (spoil_leaf k A c w).mono fun e w' h => ⟨h.1, h.2.mono hb⟩
  · obtain ⟨h0, inner, ho, hr⟩ := hR
    rcases ho.2 with ⟨_, h⟩ | ⟨g, cap, cur, rfl, hbg, hg, hnc, hcm, hcs, ht⟩
    · simp at h
    · have r0 := hr.2 0 z26 rfl
      have r1 := hr.2 1 z26 rfl
      obtain ⟨u0, e0, s0⟩ := k26_openM r0
      obtain ⟨u1, e1, s1⟩ := k26_openM r1
      obtain ⟨A1, c1, rfl⟩ := Kd.R_slice s0
      obtain ⟨A2, c2, rfl⟩ := Kd.R_slice s1
      have hcell : ∀ i, i < 4 → cur[i]? = inner[i]? := by
        intro i hi
        rw [← ht, List.getElem?_take_of_lt (by simp [k26, Kd.fix]; omega)]
        simp
      have q0 : inner[0]? = some (.int .i8 0) := by
        have := congrArg (fun l => l[0]?) e0
        simpa [List.getElem?_take, k26, Kd.fix, z26] using this
      have q1 : inner[1]? = some (.slice A1 0 c1) := by
        have := congrArg (fun l => l[1]?) e0
        simpa [List.getElem?_take, k26, Kd.fix, z26] using this
      have q2 : inner[2]? = some (.int .i8 0) := by
        have := congrArg (fun l => l[0]?) e1
        simpa [List.getElem?_take, k26, Kd.fix, z26] using this
      have q3 : inner[3]? = some (.slice A2 0 c2) := by
        have := congrArg (fun l => l[1]?) e1
        simpa [List.getElem?_take, k26, Kd.fix, z26] using this
      refine (spoil_two k g cap A1 c1 A2 c2 cur w hg ((hcell 0 (by omega)).trans q0) ((hcell 1 (by omega)).trans q1) ((hcell 2 (by omega)).trans q2) ((hcell 3 (by omega)).trans q3)).mono fun e w' h => ⟨h.1, h.2.mono hbg⟩
end Go.Proofs.Ytamhdpllmhafhaa.X
-- Written by xprint.py, a program of this session that drives the kit's print beside contracts proved by hand; parted by split1.py. Lean checks it.
namespace Go.Proofs.Ytamhdpllmhafhaa.X
open Go.RowKit Go.Proofs.YtamhdpllmhafhaaW.PrintWords Go.Proofs.YtamhdpllmhafhaaW.PrintLast Go.Proofs.YtamhdpllmhafhaaW.PrintMore
attribute [local go_sem] max2_int min2_int max_two min_two max_three min_three max_four min_four   -- for this text's walks alone
set_option linter.unusedVariables false
set_option linter.unusedSimpArgs false

/-! ### lychgatelaw02_LikeType: function 26 -/
mutual
def lychgatelaw02_LikeType.j0 : Nat → Bool → Int → List (S26) → Int → List (S26) → Option (Bool)
  | 0, _, _, _, _, _ => none
  | k + 1, x19, x182000, x182001, x183000, x183001 => if x19 = true then (some false) else (lychgatelaw02_LikeType.l0 k 0 x182000 x182001 x183000 x183001)
def lychgatelaw02_LikeType.l0 : Nat → Int → Int → List (S26) → Int → List (S26) → Option (Bool)
  | 0, _, _, _, _, _ => none
  | k + 1, x5, x182000, x182001, x183000, x183001 => if x5 < (x182001.length : Int) then (if 0 ≤ x5 then (if x5 < (x183001.length : Int) then ((lychgatelaw02_LikeType.f k ((rd_T26 x182001 x5).f0) ((rd_T26 x182001 x5).f1) ((rd_T26 x183001 x5).f0) ((rd_T26 x183001 x5).f1)).bind fun t185 => (if t185 = true then (lychgatelaw02_LikeType.l0 k (wrap64 (x5 + 1)) x182000 x182001 x183000 x183001) else (some false))) else (none)) else (none)) else (some true)
def lychgatelaw02_LikeType.f : Nat → Int → List (S26) → Int → List (S26) → Option (Bool)
  | 0, _, _, _, _ => none
  | k + 1, a0_0, l0_1, a1_0, l1_1 => if a0_0 = a1_0 then (lychgatelaw02_LikeType.j0 k ((l0_1.length : Int) != (l1_1.length : Int)) a0_0 l0_1 a1_0 l1_1) else (lychgatelaw02_LikeType.j0 k true a0_0 l0_1 a1_0 l1_1)
end
theorem lychgatelaw02_LikeType.mono_l : ∀ k, (∀ y0 y1 y2 y3, LeO (lychgatelaw02_LikeType.f k y0 y1 y2 y3) (lychgatelaw02_LikeType.f (k + 1) y0 y1 y2 y3)) ∧ (∀ y0 y1 y2 y3 y4, LeO (lychgatelaw02_LikeType.j0 k y0 y1 y2 y3 y4) (lychgatelaw02_LikeType.j0 (k + 1) y0 y1 y2 y3 y4)) ∧ (∀ y0 y1 y2 y3 y4, LeO (lychgatelaw02_LikeType.l0 k y0 y1 y2 y3 y4) (lychgatelaw02_LikeType.l0 (k + 1) y0 y1 y2 y3 y4))
  | 0 => ⟨fun _ _ _ _ r h => by simp [lychgatelaw02_LikeType.f] at h, fun _ _ _ _ _ r h => by simp [lychgatelaw02_LikeType.j0] at h, fun _ _ _ _ _ r h => by simp [lychgatelaw02_LikeType.l0] at h⟩
  | k + 1 => by
    obtain ⟨ih0, ih1, ih2⟩ := lychgatelaw02_LikeType.mono_l k
    refine ⟨?_, ?_, ?_⟩
    · intro y0 y1 y2 y3
      unfold lychgatelaw02_LikeType.f
      repeat' first
      | (with_reducible exact ih0 _ _ _ _)
      | (with_reducible exact ih1 _ _ _ _ _)
      | (with_reducible exact ih2 _ _ _ _ _)
      | (with_reducible exact LeO.refl _)
      | (with_reducible exact LeO.none _)
      | (with_reducible refine LeO.ite ?_ ?_)
      | (with_reducible refine LeO.bind ?_ (fun _ => ?_))
      | exact ih0 _ _ _ _
      | exact ih1 _ _ _ _ _
      | exact ih2 _ _ _ _ _
      | exact LeO.none _
      | refine LeO.ite ?_ ?_
      | refine LeO.bind ?_ (fun _ => ?_)
    · intro y0 y1 y2 y3 y4
      unfold lychgatelaw02_LikeType.j0
      repeat' first
      | (with_reducible exact ih0 _ _ _ _)
      | (with_reducible exact ih1 _ _ _ _ _)
      | (with_reducible exact ih2 _ _ _ _ _)
      | (with_reducible exact LeO.refl _)
      | (with_reducible exact LeO.none _)
      | (with_reducible refine LeO.ite ?_ ?_)
      | (with_reducible refine LeO.bind ?_ (fun _ => ?_))
      | exact ih0 _ _ _ _
      | exact ih1 _ _ _ _ _
      | exact ih2 _ _ _ _ _
      | exact LeO.none _
      | refine LeO.ite ?_ ?_
      | refine LeO.bind ?_ (fun _ => ?_)
    · intro y0 y1 y2 y3 y4
      unfold lychgatelaw02_LikeType.l0
      repeat' first
      | (with_reducible exact ih0 _ _ _ _)
      | (with_reducible exact ih1 _ _ _ _ _)
      | (with_reducible exact ih2 _ _ _ _ _)
      | (with_reducible exact LeO.refl _)
      | (with_reducible exact LeO.none _)
      | (with_reducible refine LeO.ite ?_ ?_)
      | (with_reducible refine LeO.bind ?_ (fun _ => ?_))
      | exact ih0 _ _ _ _
      | exact ih1 _ _ _ _ _
      | exact ih2 _ _ _ _ _
      | exact LeO.none _
      | refine LeO.ite ?_ ?_
      | refine LeO.bind ?_ (fun _ => ?_)
theorem lychgatelaw02_LikeType.mono : ∀ a0 a1 a2 a3 k, LeO (lychgatelaw02_LikeType.f k a0 a1 a2 a3) (lychgatelaw02_LikeType.f (k + 1) a0 a1 a2 a3) := by
  intro a0 a1 a2 a3 k
  obtain ⟨ih0, ih1, ih2⟩ := lychgatelaw02_LikeType.mono_l k
  exact ih0 a0 a1 a2 a3
def lychgatelaw02_LikeType.T6 : Bool × List (List Nat × List Nat) := (true, [([], []), ([0], [0]), ([], []), ([1, 2], [1, 2]), ([3], [3]), ([], []), ([5], [5]), ([], []), ([6, 7], [6, 7]), ([8], [8]), ([4, 9], [4, 9]), ([10], [10])])
def lychgatelaw02_LikeType.B6 : List Nat := [0, 1, 0, 7, 15, 0, 32, 0, 224, 480, 1023, 2047]
theorem lychgatelaw02_LikeType.tab6 : rtab .any (opsOf Try.f26 6) = lychgatelaw02_LikeType.T6 := by kernel_rfl
theorem lychgatelaw02_LikeType.bits6 : waitsOk lychgatelaw02_LikeType.T6.2 lychgatelaw02_LikeType.B6 = true := by kernel_rfl
set_option maxHeartbeats 8000000 in
set_option maxRecDepth 100000 in
theorem lychgatelaw02_LikeType.calls (k : Nat) : ∀ (a0_0 : Int) (A0_1 : Option Addr) (c0_1 : Nat) (l0_1 : List (S26)) (a1_0 : Int) (A1_1 : Option Addr) (c1_1 : Nat) (l1_1 : List (S26)) (r : Bool) (w : World) (hr0_1 : Kd.C k26 w A0_1 l0_1.length l0_1) (hc0_1 : l0_1.length ≤ c0_1) (hr1_1 : Kd.C k26 w A1_1 l1_1.length l1_1) (hc1_1 : l1_1.length ≤ c1_1) (h : lychgatelaw02_LikeType.f k a0_0 l0_1 a1_0 l1_1 = some r),
    Calls Try.prog 26 #[.agg #[.int .i8 a0_0, .slice A0_1 l0_1.length c0_1], .agg #[.int .i8 a1_0, .slice A1_1 l1_1.length c1_1]] w fun e w' => e = .returned (.bool r) ∧ Below w.heap.size w w' := by
  induction k using Nat.strongRecOn with
  | _ k ih =>
  intro a0_0 A0_1 c0_1 l0_1 a1_0 A1_1 c1_1 l1_1 r w hr0_1 hc0_1 hr1_1 hc1_1 h
  cases k with
  | zero => exact absurd h (by simp [lychgatelaw02_LikeType.f])
  | succ k =>
  simp only [lychgatelaw02_LikeType.f] at h
  have hu26 := Try.underlying26
  have HR0_1 := Aside0.mk hr0_1
  have HC0_1 := Aside0.mk hc0_1
  clear hr0_1 hc0_1
  have HR1_1 := Aside0.mk hr1_1
  have HC1_1 := Aside0.mk hc1_1
  clear hr1_1 hc1_1
  have HB := Aside0.mk (Below.refl w.heap.size w)
  have H : (if a0_0 = a1_0 then (lychgatelaw02_LikeType.j0 k ((l0_1.length : Int) != (l1_1.length : Int)) a0_0 l0_1 a1_0 l1_1) else (lychgatelaw02_LikeType.j0 k true a0_0 l0_1 a1_0 l1_1)) = some r := h
  clear h
  have HC3 := Aside0.mk H
  clear H
  go_enter Try.func26, Try.ntmps26
  go_upto_region 1 with (first | ((with_reducible refine gate_dst (N := 2) rfl ?_); (try (refine gate_guard (by rfl) ?_; dsimp only)); refine box_event ?hg (N := 2) ?hd (cs := #[.int .i8 a0_0, .slice A0_1 l0_1.length c0_1]) (t := 26) ?hr ?_; (case hd => rfl); (case hg => rfl); (case hr => first | (go_simp; done) | (go_simp; rfl)); intro gb181 hg w4 hbox hb; have n0_ := Aside0.mk (below_step (by repeat (first | (with_reducible first | exact HB.out | apply below_alloc | apply pw_below_drewN | apply below_drew1) | exact HB.out)) hb); have n1_ := Aside0.mk (hbox); have n2_ := Aside0.mk ((by rw [hg]; exact (below_size (by repeat (first | (with_reducible first | exact HB.out | apply below_alloc | apply pw_below_drewN | apply below_drew1) | exact HB.out))) : w.heap.size ≤ gb181)); have n3_ := Aside0.mk ((by rw [hg]; exact (below_size (by repeat (first | (with_reducible first | exact HB.out | apply below_alloc | apply pw_below_drewN | apply below_drew1) | exact HB.out))) : w.heap.size ≤ gb181)); clear HB; have HB := n0_; have BK181 := n1_; have GW181 := n2_; have GE181 := n3_; clear n0_ n1_ n2_ n3_; clear hb hbox hg) | ((with_reducible refine gate_dst (N := 3) rfl ?_); (try (refine gate_guard (by rfl) ?_; dsimp only)); refine box_event ?hg (N := 3) ?hd (cs := #[.int .i8 a1_0, .slice A1_1 l1_1.length c1_1]) (t := 26) ?hr ?_; (case hd => rfl); (case hg => rfl); (case hr => first | (go_simp; done) | (go_simp; rfl)); intro gb182 hg w5 hbox hb; have n0_ := Aside0.mk (blk_below (g := gb181) (o := .cells #[.int .i8 a0_0, .slice A0_1 l0_1.length c0_1] 26 (0, 0)) (by (with_reducible repeat (first | refine blk_drewN ?_ _ | refine blk_drew ?_ | refine blk_alloc ?_ _)); exact BK181.out) hb); have n1_ := Aside0.mk (below_step (by repeat (first | (with_reducible first | exact HB.out | apply below_alloc | apply pw_below_drewN | apply below_drew1 | refine below_set ?_ GE181.out) | exact HB.out)) hb); have n2_ := Aside0.mk (hbox); have n3_ := Aside0.mk ((by rw [hg]; exact (below_size (by repeat (first | (with_reducible first | exact HB.out | apply below_alloc | apply pw_below_drewN | apply below_drew1 | refine below_set ?_ GE181.out) | exact HB.out))) : w.heap.size ≤ gb182)); have n4_ := Aside0.mk ((by rw [hg]; exact (below_size (by repeat (first | (with_reducible first | exact HB.out | apply below_alloc | apply pw_below_drewN | apply below_drew1 | refine below_set ?_ GE181.out) | exact HB.out))) : w.heap.size ≤ gb182)); have n5_ := Aside0.mk ((by rw [hg]; exact Nat.ne_of_lt (blk_lt (g := gb181) (o := .cells #[.int .i8 a0_0, .slice A0_1 l0_1.length c0_1] 26 (0, 0)) (by (with_reducible repeat (first | refine blk_drewN ?_ _ | refine blk_drew ?_ | refine blk_alloc ?_ _)); exact BK181.out)) : gb181 ≠ gb182)); have n6_ := Aside0.mk ((by rw [hg]; exact Nat.ne_of_gt (blk_lt (g := gb181) (o := .cells #[.int .i8 a0_0, .slice A0_1 l0_1.length c0_1] 26 (0, 0)) (by (with_reducible repeat (first | refine blk_drewN ?_ _ | refine blk_drew ?_ | refine blk_alloc ?_ _)); exact BK181.out)) : gb182 ≠ gb181)); clear BK181; clear HB; have BK181 := n0_; have HB := n1_; have BK182 := n2_; have GW182 := n3_; have GE182 := n4_; have NB181_182 := n5_; have NB182_181 := n6_; clear n0_ n1_ n2_ n3_ n4_ n5_ n6_; clear hb hbox hg))
  (try simp only [Act.put, List.setIfInBounds_toArray, List.set_cons_zero, List.set_cons_succ])
  go_cut [19] (fun v19 wc => ∃ (kq : Nat) (x19_2 : Bool), v19 = .bool x19_2 ∧ Aside0 (lychgatelaw02_LikeType.j0 kq x19_2 a0_0 l0_1 a1_0 l1_1 = some r) ∧ Aside0 (kq ≤ k) ∧ Aside0 (wc.heap[gb181]? = some (.cells #[.int .i8 a0_0, (.slice A0_1 l0_1.length c0_1)] 26 (0, 0))) ∧ Aside0 (wc.heap[gb182]? = some (.cells #[.int .i8 a1_0, (.slice A1_1 l1_1.length c1_1)] 26 (0, 0))) ∧ Aside0 (Below w.heap.size w wc))
  case first =>
    have H := HC3.out
    clear HC3
    by_cases c6 : a0_0 = a1_0
    · rw [if_pos c6] at H
      have c6b0 : (a0_0 == a1_0) = true := beq_iff_eq.mpr c6
      have c6b1 : (a0_0 != a1_0) = false := bne_eq_false_iff_eq.mpr c6
      clear c6
      (first | rw [c6b0] | (simp only [i64_w, i32_w]; rw [c6b0]) | skip)
      have H' := Aside0.mk H
      clear H
      have hnb7 := NB181_182.out
      have hnc7 := NB182_181.out
      have hcz8_0 : w5.cell? ⟨gb181, 0, none⟩ = some (.int .i8 a0_0) := (blk_cell BK181.out 0).trans rfl
      have hcz8_1 : w5.cell? ⟨gb181, 1, none⟩ = some (.slice A0_1 l0_1.length c0_1) := (blk_cell BK181.out 1).trans rfl
      have hfz8_0 := blk_frozen BK181.out 0
      have hfz8_1 := blk_frozen BK181.out 1
      have hcz9_0 : w5.cell? ⟨gb182, 0, none⟩ = some (.int .i8 a1_0) := (blk_cell BK182.out 0).trans rfl
      have hcz9_1 : w5.cell? ⟨gb182, 1, none⟩ = some (.slice A1_1 l1_1.length c1_1) := (blk_cell BK182.out 1).trans rfl
      have hfz9_0 := blk_frozen BK182.out 0
      have hfz9_1 := blk_frozen BK182.out 1
      go_wp2
      go_meet
      case rel => exact ⟨_, (((l0_1.length : Int) != (l1_1.length : Int))), (by first | rfl | (simp; done) | (simp [*]; done)), H', ⟨by first | omega | exact Nat.le_refl _⟩, ⟨by (with_reducible repeat (first | refine blk_drewN ?_ _ | refine blk_drew ?_ | refine blk_alloc ?_ _)); exact BK181.out⟩, ⟨by (with_reducible repeat (first | refine blk_drewN ?_ _ | refine blk_drew ?_ | refine blk_alloc ?_ _)); exact BK182.out⟩, ⟨by repeat (first | (with_reducible first | exact HB.out | apply below_alloc | apply pw_below_drewN | apply below_drew1 | refine below_set ?_ GE181.out | refine below_set ?_ GE182.out) | exact HB.out)⟩⟩
    · rw [if_neg c6] at H
      have c6b0 : (a0_0 == a1_0) = false := beq_eq_false_iff_ne.mpr c6
      have c6b1 : (a0_0 != a1_0) = true := bne_iff_ne.mpr c6
      (first | rw [c6b0] | (simp only [i64_w, i32_w]; rw [c6b0]) | skip)
      have H' := Aside0.mk H
      clear H
      have hnb10 := NB181_182.out
      have hnc10 := NB182_181.out
      have hcz11_0 : w5.cell? ⟨gb181, 0, none⟩ = some (.int .i8 a0_0) := (blk_cell BK181.out 0).trans rfl
      have hcz11_1 : w5.cell? ⟨gb181, 1, none⟩ = some (.slice A0_1 l0_1.length c0_1) := (blk_cell BK181.out 1).trans rfl
      have hfz11_0 := blk_frozen BK181.out 0
      have hfz11_1 := blk_frozen BK181.out 1
      have hcz12_0 : w5.cell? ⟨gb182, 0, none⟩ = some (.int .i8 a1_0) := (blk_cell BK182.out 0).trans rfl
      have hcz12_1 : w5.cell? ⟨gb182, 1, none⟩ = some (.slice A1_1 l1_1.length c1_1) := (blk_cell BK182.out 1).trans rfl
      have hfz12_0 := blk_frozen BK182.out 0
      have hfz12_1 := blk_frozen BK182.out 1
      go_wp2
      go_meet
      case rel => exact ⟨_, (true), (by first | rfl | (simp; done) | (simp [*]; done)), H', ⟨by first | omega | exact Nat.le_refl _⟩, ⟨by (with_reducible repeat (first | refine blk_drewN ?_ _ | refine blk_drew ?_ | refine blk_alloc ?_ _)); exact BK181.out⟩, ⟨by (with_reducible repeat (first | refine blk_drewN ?_ _ | refine blk_drew ?_ | refine blk_alloc ?_ _)); exact BK182.out⟩, ⟨by repeat (first | (with_reducible first | exact HB.out | apply below_alloc | apply pw_below_drewN | apply below_drew1 | refine below_set ?_ GE181.out | refine below_set ?_ GE182.out) | exact HB.out)⟩⟩
  case rest =>
    clear HC3
    try clear c1
    try clear c2
    try clear p2
    try clear c6
    try clear c6b0
    try clear c6b1
    try clear c7
    try clear c10
    try clear hcz11_0
    try clear hcz11_1
    try clear hcz12_0
    try clear hcz12_1
    try clear hcz8_0
    try clear hcz8_1
    try clear hcz9_0
    try clear hcz9_1
    try clear hfz11_0
    try clear hfz11_1
    try clear hfz12_0
    try clear hfz12_1
    try clear hfz8_0
    try clear hfz8_1
    try clear hfz9_0
    try clear hfz9_1
    obtain ⟨kq, x19_2, rfl, HA, HJ2, BK181, BK182, HB⟩ := hcut
    cases kq with
    | zero => exact absurd HA.out (by simp [lychgatelaw02_LikeType.j0])
    | succ kj2 =>
      have H := HA.out
      clear HA
      simp only [lychgatelaw02_LikeType.j0] at H
      by_cases c13 : x19_2 = true
      · subst c13
        have H1 : (some false) = some r := by rw [if_pos rfl] at H; exact H
        clear H
        have H := H1
        clear H1
        obtain rfl := Option.some.inj H
        go_wp2
        go_ret
        exact ⟨by first | rfl | (simp [errW_none, errW_some] <;> rfl) | (simp [*, errW_none, errW_some] <;> rfl), by repeat (first | (with_reducible first | exact HB.out | apply below_alloc | apply pw_below_drewN | apply below_drew1 | refine below_set ?_ GE181.out | refine below_set ?_ GE182.out) | exact HB.out)⟩
      · replace c13 := Bool.eq_false_iff.mpr c13
        subst c13
        have H1 : (lychgatelaw02_LikeType.l0 kj2 0 a0_0 l0_1 a1_0 l1_1) = some r := by rw [if_neg (show ¬ (false = true) by decide)] at H; exact H
        clear H
        have H := H1
        clear H1
        have H' := Aside0.mk H
        clear H
        go_wp2
        go_loopg [5] kj2 (fun kq v5 w' => ∃ (x5_2 : Int), v5 = .int .i64 x5_2 ∧ Aside0 (lychgatelaw02_LikeType.l0 kq x5_2 a0_0 l0_1 a1_0 l1_1 = some r) ∧ Aside0 (kq ≤ kj2) ∧ Aside0 (w'.heap[gb181]? = some (.cells #[.int .i8 a0_0, (.slice A0_1 l0_1.length c0_1)] 26 (0, 0))) ∧ Aside0 (w'.heap[gb182]? = some (.cells #[.int .i8 a1_0, (.slice A1_1 l1_1.length c1_1)] 26 (0, 0))) ∧ Aside0 (Below w.heap.size w w'))
        case atStart => exact ⟨(0), (by first | rfl | (simp; done) | (simp [*]; done)), H', ⟨Nat.le_refl _⟩, ⟨by (with_reducible repeat (first | refine blk_drewN ?_ _ | refine blk_drew ?_ | refine blk_alloc ?_ _)); exact BK181.out⟩, ⟨by (with_reducible repeat (first | refine blk_drewN ?_ _ | refine blk_drew ?_ | refine blk_alloc ?_ _)); exact BK182.out⟩, ⟨by repeat (first | (with_reducible first | exact HB.out | apply below_alloc | apply pw_below_drewN | apply below_drew1 | refine below_set ?_ GE181.out | refine below_set ?_ GE182.out) | exact HB.out)⟩⟩
        case round =>
          clear H'
          try clear c1
          try clear c2
          try clear p2
          try clear c6
          try clear c6b0
          try clear c6b1
          try clear c7
          try clear c10
          try clear c13
          try clear hcz11_0
          try clear hcz11_1
          try clear hcz12_0
          try clear hcz12_1
          try clear hcz8_0
          try clear hcz8_1
          try clear hcz9_0
          try clear hcz9_1
          try clear hfz11_0
          try clear hfz11_1
          try clear hfz12_0
          try clear hfz12_1
          try clear hfz8_0
          try clear hfz8_1
          try clear hfz9_0
          try clear hfz9_1
          try clear p2
          obtain ⟨x5_2, rfl, HA, HK2, BK181, BK182, HB⟩ := hrel
          cases gk with
          | zero => exact absurd HA.out (by simp [lychgatelaw02_LikeType.l0])
          | succ k2 =>
            have H := HA.out
            clear HA
            simp only [lychgatelaw02_LikeType.l0] at H
            by_cases c14 : x5_2 < (l0_1.length : Int)
            · rw [if_pos c14] at H
              have c14b0 : decide (x5_2 < (l0_1.length : Int)) = true := decide_eq_true c14
              clear c14
              by_cases c15 : 0 ≤ x5_2
              · rw [if_pos c15] at H
                have c15b0 : decide (0 ≤ x5_2) = true := decide_eq_true c15
                clear c15
                by_cases c16 : x5_2 < (l1_1.length : Int)
                · rw [if_pos c16] at H
                  have c16b0 : decide (x5_2 < (l1_1.length : Int)) = true := decide_eq_true c16
                  clear c16
                  replace H := Option.bind_eq_some_iff.mp H
                  obtain ⟨t185, A170, H⟩ := H
                  replace H : (if t185 = true then (lychgatelaw02_LikeType.l0 k2 (wrap64 (x5_2 + 1)) a0_0 l0_1 a1_0 l1_1) else (some false)) = some r := H
                  have A17 := Aside0.mk A170
                  clear A170
                  by_cases c18 : t185 = true
                  · subst c18
                    have H1 : (lychgatelaw02_LikeType.l0 k2 (wrap64 (x5_2 + 1)) a0_0 l0_1 a1_0 l1_1) = some r := by rw [if_pos rfl] at H; exact H
                    clear H
                    have H := H1
                    clear H1
                    have H' := Aside0.mk H
                    clear H
                    have hnb19 := NB181_182.out
                    have hnc19 := NB182_181.out
                    have hcz20_0 : wr.cell? ⟨gb181, 0, none⟩ = some (.int .i8 a0_0) := (blk_cell BK181.out 0).trans rfl
                    have hcz20_1 : wr.cell? ⟨gb181, 1, none⟩ = some (.slice A0_1 l0_1.length c0_1) := (blk_cell BK181.out 1).trans rfl
                    have hfz20_0 := blk_frozen BK181.out 0
                    have hfz20_1 := blk_frozen BK181.out 1
                    try go_wp2
                    have n0_ := Aside0.mk (blk_drew BK181.out)
                    have n1_ := Aside0.mk (blk_drew BK182.out)
                    have n2_ := Aside0.mk (below_drew1 HB.out)
                    clear BK181
                    clear BK182
                    clear HB
                    have BK181 := n0_
                    have BK182 := n1_
                    have HB := n2_
                    clear n0_ n1_ n2_
                    have p183 : 0 ≤ (x5_2 : Int) := of_decide_eq_true (by first | (with_reducible assumption) | assumption)
                    have q183 : x5_2 < (l0_1.length : Int) := of_decide_eq_true (by first | (with_reducible assumption) | assumption)
                    obtain ⟨ad183, A183_1, c183_1, e183, hx183_0, hx183_1, hl183_1, hi183_1⟩ := at_T26 HR0_1.out x5_2 p183 q183
                    have hw183_1 := hx183_1
                    have hw183_0 := hx183_0
                    cases e183
                    replace hx183_0 := (HB.out.cell (World.block_lt_of_cell? w _ hx183_0)).trans hx183_0
                    replace hx183_1 := (HB.out.cell (World.block_lt_of_cell? w _ hx183_1)).trans hx183_1
                    have HR183_1 := Aside0.mk hi183_1
                    have HC183_1 := Aside0.mk hl183_1
                    clear hi183_1 hl183_1
                    replace p183 := eq_true p183
                    replace q183 := eq_true q183
                    have p184 : 0 ≤ (x5_2 : Int) := of_decide_eq_true (by first | (with_reducible assumption) | assumption)
                    have q184 : x5_2 < (l1_1.length : Int) := of_decide_eq_true (by first | (with_reducible assumption) | assumption)
                    obtain ⟨ad184, A184_1, c184_1, e184, hx184_0, hx184_1, hl184_1, hi184_1⟩ := at_T26 HR1_1.out x5_2 p184 q184
                    have hw184_1 := hx184_1
                    have hw184_0 := hx184_0
                    cases e184
                    replace hx184_0 := (HB.out.cell (World.block_lt_of_cell? w _ hx184_0)).trans hx184_0
                    replace hx184_1 := (HB.out.cell (World.block_lt_of_cell? w _ hx184_1)).trans hx184_1
                    have HR184_1 := Aside0.mk hi184_1
                    have HC184_1 := Aside0.mk hl184_1
                    clear hi184_1 hl184_1
                    replace p184 := eq_true p184
                    replace q184 := eq_true q184
                    refine start_ (n := 12) (S := fun w' => w'.cell? ⟨gb181, 0, none⟩ = some (.int .i8 a0_0) ∧ w'.cell? ⟨gb181, 1, none⟩ = some (.slice (some ad183) l0_1.length c0_1) ∧ w'.cell? ⟨gb182, 0, none⟩ = some (.int .i8 a1_0) ∧ w'.cell? ⟨gb182, 1, none⟩ = some (.slice (some ad184) l1_1.length c1_1) ∧ w'.cell? (ad183.add ((x5_2).toNat * 2)) = some (.int .i8 ((rd_T26 l0_1 x5_2).f0)) ∧ w'.cell? ⟨(ad183.add ((x5_2).toNat * 2)).block, (ad183.add ((x5_2).toNat * 2)).off + 1, none⟩ = some (.slice A183_1 ((rd_T26 l0_1 x5_2).f1).length c183_1) ∧ w'.cell? (ad184.add ((x5_2).toNat * 2)) = some (.int .i8 ((rd_T26 l1_1 x5_2).f0)) ∧ w'.cell? ⟨(ad184.add ((x5_2).toNat * 2)).block, (ad184.add ((x5_2).toNat * 2)).off + 1, none⟩ = some (.slice A184_1 ((rd_T26 l1_1 x5_2).f1).length c184_1)) (ds := []) #[false, false, false, false, false, false, false, false, false, false, false, false] (by kernel_rfl) rfl rfl ⟨(blk_cell BK181.out 0).trans rfl, (blk_cell BK181.out 1).trans rfl, (blk_cell BK182.out 0).trans rfl, (blk_cell BK182.out 1).trans rfl, ((HB.out.cell (World.block_lt_of_cell? w _ hw183_0)).trans hw183_0), ((HB.out.cell (World.block_lt_of_cell? w _ hw183_1)).trans hw183_1), ((HB.out.cell (World.block_lt_of_cell? w _ hw184_0)).trans hw184_0), ((HB.out.cell (World.block_lt_of_cell? w _ hw184_1)).trans hw184_1)⟩ (fun hHeld => ?_); refine with_tabW lychgatelaw02_LikeType.tab6 lychgatelaw02_LikeType.bits6 (fun HT_ HW_ => ?_)
                    generalize wr.drew = w21 at BK181 BK182 HB HR183_1 HR184_1 hx183_0 hx183_1 hx184_0 hx184_1 hHeld ⊢
                    refine pure_ (i := 0) (N := some 27) (v := ?_) (a' := ?_) #[true, false, false, false, false, false, false, false, false, false, false, false] rfl rfl (any_of HT_.out (by kernel_rfl)) (fun _ _ _ h => h) (Or.inl ⟨by rfl, ?_⟩) ?_ ?_
                    rotate_left
                    · intro w'
                      go_simp
                      with_reducible rfl
                    rotate_left
                    · simp only [Act.put, List.setIfInBounds_toArray, List.set_cons_zero, List.set_cons_succ, i64_w, i32_w]
                      rfl
                    refine pure_ (i := 2) (N := some 29) (v := ?_) (a' := ?_) #[true, false, true, false, false, false, false, false, false, false, false, false] rfl rfl (any_of HT_.out (by kernel_rfl)) (fun _ _ _ h => h) (Or.inl ⟨by rfl, ?_⟩) ?_ ?_
                    rotate_left
                    · intro w'
                      go_simp
                      with_reducible rfl
                    rotate_left
                    · simp only [Act.put, List.setIfInBounds_toArray, List.set_cons_zero, List.set_cons_succ, i64_w, i32_w]
                      rfl
                    refine pure_ (i := 5) (N := some 32) (v := ?_) (a' := ?_) #[true, false, true, false, false, true, false, false, false, false, false, false] rfl rfl (any_of HT_.out (by kernel_rfl)) (fun _ _ _ h => h) (Or.inl ⟨by rfl, ?_⟩) ?_ ?_
                    rotate_left
                    · intro w'
                      go_simp
                      with_reducible rfl
                    rotate_left
                    · simp only [Act.put, List.setIfInBounds_toArray, List.set_cons_zero, List.set_cons_succ, i64_w, i32_w]
                      rfl
                    refine pure_ (i := 7) (N := some 34) (v := ?_) (a' := ?_) #[true, false, true, false, false, true, false, true, false, false, false, false] rfl rfl (any_of HT_.out (by kernel_rfl)) (fun _ _ _ h => h) (Or.inl ⟨by rfl, ?_⟩) ?_ ?_
                    rotate_left
                    · intro w'
                      go_simp
                      with_reducible rfl
                    rotate_left
                    · simp only [Act.put, List.setIfInBounds_toArray, List.set_cons_zero, List.set_cons_succ, i64_w, i32_w]
                      rfl
                    refine take_ (i := 1) (N := some 28) (v := ?_) (a' := ?_) #[true, true, true, false, false, true, false, true, false, false, false, false] rfl rfl (take_ofW HT_.out HW_.out (by kernel_rfl)) (fun _ _ _ h => h) (Or.inl ⟨by rfl, ?_⟩) hHeld ?_ ?_
                    rotate_left
                    · rintro w' ⟨s0, s1, s2, s3, s4, s5, s6, s7⟩
                      go_simp
                      with_reducible rfl
                    rotate_left
                    · simp only [Act.put, List.setIfInBounds_toArray, List.set_cons_zero, List.set_cons_succ, i64_w, i32_w]
                      rfl
                    refine pure_ (i := 3) (N := some 30) (v := ?_) (a' := ?_) #[true, true, true, true, false, true, false, true, false, false, false, false] rfl rfl (any_of HT_.out (by kernel_rfl)) (fun _ _ _ h => h) (Or.inl ⟨by rfl, ?_⟩) ?_ ?_
                    rotate_left
                    · intro w'
                      go_simp
                      with_reducible rfl
                    rotate_left
                    · simp only [Act.put, List.setIfInBounds_toArray, List.set_cons_zero, List.set_cons_succ, i64_w, i32_w]
                      rfl
                    refine take_ (i := 4) (N := some 31) (v := ?_) (a' := ?_) #[true, true, true, true, true, true, false, true, false, false, false, false] rfl rfl (take_ofW HT_.out HW_.out (by kernel_rfl)) (fun _ _ _ h => h) (Or.inl ⟨by rfl, ?_⟩) hHeld ?_ ?_
                    rotate_left
                    · rintro w' ⟨s0, s1, s2, s3, s4, s5, s6, s7⟩
                      go_simp
                      with_reducible rfl
                    rotate_left
                    · simp only [Act.put, List.setIfInBounds_toArray, List.set_cons_zero, List.set_cons_succ, i64_w, i32_w]
                      rfl
                    refine take_ (i := 6) (N := some 33) (v := ?_) (a' := ?_) #[true, true, true, true, true, true, true, true, false, false, false, false] rfl rfl (take_ofW HT_.out HW_.out (by kernel_rfl)) (fun _ _ _ h => h) (Or.inl ⟨by rfl, ?_⟩) hHeld ?_ ?_
                    rotate_left
                    · rintro w' ⟨s0, s1, s2, s3, s4, s5, s6, s7⟩
                      go_simp
                      with_reducible rfl
                    rotate_left
                    · simp only [Act.put, List.setIfInBounds_toArray, List.set_cons_zero, List.set_cons_succ, i64_w, i32_w]
                      rfl
                    refine pure_ (i := 8) (N := some 35) (v := ?_) (a' := ?_) #[true, true, true, true, true, true, true, true, true, false, false, false] rfl rfl (any_of HT_.out (by kernel_rfl)) (fun _ _ _ h => h) (Or.inl ⟨by rfl, ?_⟩) ?_ ?_
                    rotate_left
                    · intro w'
                      go_simp
                      with_reducible rfl
                    rotate_left
                    · simp only [Act.put, List.setIfInBounds_toArray, List.set_cons_zero, List.set_cons_succ, i64_w, i32_w]
                      rfl
                    refine take_ (i := 9) (N := some 36) (v := ?_) (a' := ?_) #[true, true, true, true, true, true, true, true, true, true, false, false] rfl rfl (take_ofW HT_.out HW_.out (by kernel_rfl)) (fun _ _ _ h => h) (Or.inl ⟨by rfl, ?_⟩) hHeld ?_ ?_
                    rotate_left
                    · rintro w' ⟨s0, s1, s2, s3, s4, s5, s6, s7⟩
                      go_simp
                      with_reducible rfl
                    rotate_left
                    · simp only [Act.put, List.setIfInBounds_toArray, List.set_cons_zero, List.set_cons_succ, i64_w, i32_w]
                      rfl
                    refine one_ (i := 10) (N := some 37) #[true, true, true, true, true, true, true, true, true, true, true, false] rfl rfl (one_of HT_.out (by kernel_rfl)) (by decide) (fun K hK => ?_)
                    refine goes_ Try.func26 (by kernel_rfl) rfl #[.agg #[.int .i8 ((rd_T26 l0_1 x5_2).f0), .slice A183_1 ((rd_T26 l0_1 x5_2).f1).length c183_1], .agg #[.int .i8 ((rd_T26 l1_1 x5_2).f0), .slice A184_1 ((rd_T26 l1_1 x5_2).f1).length c184_1]] (by rfl) rfl rfl (by (try simp only [List.map_toArray, List.map_cons, List.map_nil]); first | done | rfl | (simp only [List.length_drop, List.length_take]; rfl)) ?_
                    with_reducible refine (ih k2 (by have := HJ2.out; have := HK2.out; omega) ((rd_T26 l0_1 x5_2).f0) _ _ ((rd_T26 l0_1 x5_2).f1) ((rd_T26 l1_1 x5_2).f0) _ _ ((rd_T26 l1_1 x5_2).f1) true _ ?side1 ?side2 ?side3 ?side4 A17.out).mono ?_
                    (case side1 => repeat (first | exact (Kd.C_below HR183_1.out HB.out) | (with_reducible refine Kd.C_alloc ?_ _) | (with_reducible refine Kd.C_drewN ?_ _) | (with_reducible refine Kd.C_drew ?_)))
                    (case side2 => exact HC183_1.out)
                    (case side3 => repeat (first | exact (Kd.C_below HR184_1.out HB.out) | (with_reducible refine Kd.C_alloc ?_ _) | (with_reducible refine Kd.C_drewN ?_ _) | (with_reducible refine Kd.C_drew ?_)))
                    (case side4 => exact HC184_1.out)
                    rintro e w22 ⟨rfl, hb⟩
                    refine ⟨_, rfl, ?_⟩
                    have n0_ := Aside0.mk (blk_below (g := gb181) (o := .cells #[.int .i8 a0_0, .slice (some ad183) l0_1.length c0_1] 26 (0, 0)) (by (with_reducible repeat (first | refine blk_drewN ?_ _ | refine blk_drew ?_ | refine blk_alloc ?_ _)); exact BK181.out) hb)
                    have n1_ := Aside0.mk (blk_below (g := gb182) (o := .cells #[.int .i8 a1_0, .slice (some ad184) l1_1.length c1_1] 26 (0, 0)) (by (with_reducible repeat (first | refine blk_drewN ?_ _ | refine blk_drew ?_ | refine blk_alloc ?_ _)); exact BK182.out) hb)
                    have n2_ := Aside0.mk (below_step (by repeat (first | (with_reducible first | exact HB.out | apply below_alloc | apply pw_below_drewN | apply below_drew1 | refine below_set ?_ GE181.out | refine below_set ?_ GE182.out) | exact HB.out)) hb)
                    clear BK181
                    clear BK182
                    clear HB
                    have BK181 := n0_
                    have BK182 := n1_
                    have HB := n2_
                    clear n0_ n1_ n2_
                    (try clear hb)
                    (try clear hb2)
                    (try clear hk)
                    (try clear hi)
                    refine hK.out _ _ ⟨(blk_cell BK181.out 0).trans rfl, (blk_cell BK181.out 1).trans rfl, (blk_cell BK182.out 0).trans rfl, (blk_cell BK182.out 1).trans rfl, ((HB.out.cell (World.block_lt_of_cell? w _ hw183_0)).trans hw183_0), ((HB.out.cell (World.block_lt_of_cell? w _ hw183_1)).trans hw183_1), ((HB.out.cell (World.block_lt_of_cell? w _ hw184_0)).trans hw184_0), ((HB.out.cell (World.block_lt_of_cell? w _ hw184_1)).trans hw184_1)⟩ (fun hHeld => ?_)
                    clear hK K
                    refine norm_ (a' := ?_) ?_ ?_
                    rotate_left
                    · show Act.put _ (some 37) _ = _
                      simp only [Act.put, List.setIfInBounds_toArray, List.set_cons_zero, List.set_cons_succ, i64_w, i32_w]
                      rfl
                    refine pure_ (i := 11) (N := some 38) (v := ?_) (a' := ?_) #[true, true, true, true, true, true, true, true, true, true, true, true] rfl rfl (any_of HT_.out (by kernel_rfl)) (fun _ _ _ h => h) (Or.inl ⟨by rfl, ?_⟩) ?_ ?_
                    rotate_left
                    · intro w'
                      go_simp
                      with_reducible rfl
                    rotate_left
                    · simp only [Act.put, List.setIfInBounds_toArray, List.set_cons_zero, List.set_cons_succ, i64_w, i32_w]
                      rfl
                    refine done_ (done_of HT_.out (by kernel_rfl)) ?_
                    try go_wp2
                    go_roundg k2
                    case measure => have := HJ2.out; have := HK2.out; omega
                    case rel => exact ⟨(wrap64 (x5_2 + 1)), (by first | rfl | (simp; done) | (simp [*]; done)), H', ⟨by have := HJ2.out; have := HK2.out; omega⟩, ⟨by (with_reducible repeat (first | refine blk_drewN ?_ _ | refine blk_drew ?_ | refine blk_alloc ?_ _)); exact BK181.out⟩, ⟨by (with_reducible repeat (first | refine blk_drewN ?_ _ | refine blk_drew ?_ | refine blk_alloc ?_ _)); exact BK182.out⟩, ⟨by repeat (first | (with_reducible first | exact HB.out | apply below_alloc | apply pw_below_drewN | apply below_drew1 | refine below_set ?_ GE181.out | refine below_set ?_ GE182.out) | exact HB.out)⟩⟩
                  · replace c18 := Bool.eq_false_iff.mpr c18
                    subst c18
                    have H1 : (some false) = some r := by rw [if_neg (show ¬ (false = true) by decide)] at H; exact H
                    clear H
                    have H := H1
                    clear H1
                    obtain rfl := Option.some.inj H
                    have hnb23 := NB181_182.out
                    have hnc23 := NB182_181.out
                    have hcz24_0 : wr.cell? ⟨gb181, 0, none⟩ = some (.int .i8 a0_0) := (blk_cell BK181.out 0).trans rfl
                    have hcz24_1 : wr.cell? ⟨gb181, 1, none⟩ = some (.slice A0_1 l0_1.length c0_1) := (blk_cell BK181.out 1).trans rfl
                    have hfz24_0 := blk_frozen BK181.out 0
                    have hfz24_1 := blk_frozen BK181.out 1
                    try go_wp2
                    have n0_ := Aside0.mk (blk_drew BK181.out)
                    have n1_ := Aside0.mk (blk_drew BK182.out)
                    have n2_ := Aside0.mk (below_drew1 HB.out)
                    clear BK181
                    clear BK182
                    clear HB
                    have BK181 := n0_
                    have BK182 := n1_
                    have HB := n2_
                    clear n0_ n1_ n2_
                    have p183 : 0 ≤ (x5_2 : Int) := of_decide_eq_true (by first | (with_reducible assumption) | assumption)
                    have q183 : x5_2 < (l0_1.length : Int) := of_decide_eq_true (by first | (with_reducible assumption) | assumption)
                    obtain ⟨ad183, A183_1, c183_1, e183, hx183_0, hx183_1, hl183_1, hi183_1⟩ := at_T26 HR0_1.out x5_2 p183 q183
                    have hw183_1 := hx183_1
                    have hw183_0 := hx183_0
                    cases e183
                    replace hx183_0 := (HB.out.cell (World.block_lt_of_cell? w _ hx183_0)).trans hx183_0
                    replace hx183_1 := (HB.out.cell (World.block_lt_of_cell? w _ hx183_1)).trans hx183_1
                    have HR183_1 := Aside0.mk hi183_1
                    have HC183_1 := Aside0.mk hl183_1
                    clear hi183_1 hl183_1
                    replace p183 := eq_true p183
                    replace q183 := eq_true q183
                    have p184 : 0 ≤ (x5_2 : Int) := of_decide_eq_true (by first | (with_reducible assumption) | assumption)
                    have q184 : x5_2 < (l1_1.length : Int) := of_decide_eq_true (by first | (with_reducible assumption) | assumption)
                    obtain ⟨ad184, A184_1, c184_1, e184, hx184_0, hx184_1, hl184_1, hi184_1⟩ := at_T26 HR1_1.out x5_2 p184 q184
                    have hw184_1 := hx184_1
                    have hw184_0 := hx184_0
                    cases e184
                    replace hx184_0 := (HB.out.cell (World.block_lt_of_cell? w _ hx184_0)).trans hx184_0
                    replace hx184_1 := (HB.out.cell (World.block_lt_of_cell? w _ hx184_1)).trans hx184_1
                    have HR184_1 := Aside0.mk hi184_1
                    have HC184_1 := Aside0.mk hl184_1
                    clear hi184_1 hl184_1
                    replace p184 := eq_true p184
                    replace q184 := eq_true q184
                    refine start_ (n := 12) (S := fun w' => w'.cell? ⟨gb181, 0, none⟩ = some (.int .i8 a0_0) ∧ w'.cell? ⟨gb181, 1, none⟩ = some (.slice (some ad183) l0_1.length c0_1) ∧ w'.cell? ⟨gb182, 0, none⟩ = some (.int .i8 a1_0) ∧ w'.cell? ⟨gb182, 1, none⟩ = some (.slice (some ad184) l1_1.length c1_1) ∧ w'.cell? (ad183.add ((x5_2).toNat * 2)) = some (.int .i8 ((rd_T26 l0_1 x5_2).f0)) ∧ w'.cell? ⟨(ad183.add ((x5_2).toNat * 2)).block, (ad183.add ((x5_2).toNat * 2)).off + 1, none⟩ = some (.slice A183_1 ((rd_T26 l0_1 x5_2).f1).length c183_1) ∧ w'.cell? (ad184.add ((x5_2).toNat * 2)) = some (.int .i8 ((rd_T26 l1_1 x5_2).f0)) ∧ w'.cell? ⟨(ad184.add ((x5_2).toNat * 2)).block, (ad184.add ((x5_2).toNat * 2)).off + 1, none⟩ = some (.slice A184_1 ((rd_T26 l1_1 x5_2).f1).length c184_1)) (ds := []) #[false, false, false, false, false, false, false, false, false, false, false, false] (by kernel_rfl) rfl rfl ⟨(blk_cell BK181.out 0).trans rfl, (blk_cell BK181.out 1).trans rfl, (blk_cell BK182.out 0).trans rfl, (blk_cell BK182.out 1).trans rfl, ((HB.out.cell (World.block_lt_of_cell? w _ hw183_0)).trans hw183_0), ((HB.out.cell (World.block_lt_of_cell? w _ hw183_1)).trans hw183_1), ((HB.out.cell (World.block_lt_of_cell? w _ hw184_0)).trans hw184_0), ((HB.out.cell (World.block_lt_of_cell? w _ hw184_1)).trans hw184_1)⟩ (fun hHeld => ?_); refine with_tabW lychgatelaw02_LikeType.tab6 lychgatelaw02_LikeType.bits6 (fun HT_ HW_ => ?_)
                    generalize wr.drew = w25 at BK181 BK182 HB HR183_1 HR184_1 hx183_0 hx183_1 hx184_0 hx184_1 hHeld ⊢
                    refine pure_ (i := 0) (N := some 27) (v := ?_) (a' := ?_) #[true, false, false, false, false, false, false, false, false, false, false, false] rfl rfl (any_of HT_.out (by kernel_rfl)) (fun _ _ _ h => h) (Or.inl ⟨by rfl, ?_⟩) ?_ ?_
                    rotate_left
                    · intro w'
                      go_simp
                      with_reducible rfl
                    rotate_left
                    · simp only [Act.put, List.setIfInBounds_toArray, List.set_cons_zero, List.set_cons_succ, i64_w, i32_w]
                      rfl
                    refine pure_ (i := 2) (N := some 29) (v := ?_) (a' := ?_) #[true, false, true, false, false, false, false, false, false, false, false, false] rfl rfl (any_of HT_.out (by kernel_rfl)) (fun _ _ _ h => h) (Or.inl ⟨by rfl, ?_⟩) ?_ ?_
                    rotate_left
                    · intro w'
                      go_simp
                      with_reducible rfl
                    rotate_left
                    · simp only [Act.put, List.setIfInBounds_toArray, List.set_cons_zero, List.set_cons_succ, i64_w, i32_w]
                      rfl
                    refine pure_ (i := 5) (N := some 32) (v := ?_) (a' := ?_) #[true, false, true, false, false, true, false, false, false, false, false, false] rfl rfl (any_of HT_.out (by kernel_rfl)) (fun _ _ _ h => h) (Or.inl ⟨by rfl, ?_⟩) ?_ ?_
                    rotate_left
                    · intro w'
                      go_simp
                      with_reducible rfl
                    rotate_left
                    · simp only [Act.put, List.setIfInBounds_toArray, List.set_cons_zero, List.set_cons_succ, i64_w, i32_w]
                      rfl
                    refine pure_ (i := 7) (N := some 34) (v := ?_) (a' := ?_) #[true, false, true, false, false, true, false, true, false, false, false, false] rfl rfl (any_of HT_.out (by kernel_rfl)) (fun _ _ _ h => h) (Or.inl ⟨by rfl, ?_⟩) ?_ ?_
                    rotate_left
                    · intro w'
                      go_simp
                      with_reducible rfl
                    rotate_left
                    · simp only [Act.put, List.setIfInBounds_toArray, List.set_cons_zero, List.set_cons_succ, i64_w, i32_w]
                      rfl
                    refine take_ (i := 1) (N := some 28) (v := ?_) (a' := ?_) #[true, true, true, false, false, true, false, true, false, false, false, false] rfl rfl (take_ofW HT_.out HW_.out (by kernel_rfl)) (fun _ _ _ h => h) (Or.inl ⟨by rfl, ?_⟩) hHeld ?_ ?_
                    rotate_left
                    · rintro w' ⟨s0, s1, s2, s3, s4, s5, s6, s7⟩
                      go_simp
                      with_reducible rfl
                    rotate_left
                    · simp only [Act.put, List.setIfInBounds_toArray, List.set_cons_zero, List.set_cons_succ, i64_w, i32_w]
                      rfl
                    refine pure_ (i := 3) (N := some 30) (v := ?_) (a' := ?_) #[true, true, true, true, false, true, false, true, false, false, false, false] rfl rfl (any_of HT_.out (by kernel_rfl)) (fun _ _ _ h => h) (Or.inl ⟨by rfl, ?_⟩) ?_ ?_
                    rotate_left
                    · intro w'
                      go_simp
                      with_reducible rfl
                    rotate_left
                    · simp only [Act.put, List.setIfInBounds_toArray, List.set_cons_zero, List.set_cons_succ, i64_w, i32_w]
                      rfl
                    refine take_ (i := 4) (N := some 31) (v := ?_) (a' := ?_) #[true, true, true, true, true, true, false, true, false, false, false, false] rfl rfl (take_ofW HT_.out HW_.out (by kernel_rfl)) (fun _ _ _ h => h) (Or.inl ⟨by rfl, ?_⟩) hHeld ?_ ?_
                    rotate_left
                    · rintro w' ⟨s0, s1, s2, s3, s4, s5, s6, s7⟩
                      go_simp
                      with_reducible rfl
                    rotate_left
                    · simp only [Act.put, List.setIfInBounds_toArray, List.set_cons_zero, List.set_cons_succ, i64_w, i32_w]
                      rfl
                    refine take_ (i := 6) (N := some 33) (v := ?_) (a' := ?_) #[true, true, true, true, true, true, true, true, false, false, false, false] rfl rfl (take_ofW HT_.out HW_.out (by kernel_rfl)) (fun _ _ _ h => h) (Or.inl ⟨by rfl, ?_⟩) hHeld ?_ ?_
                    rotate_left
                    · rintro w' ⟨s0, s1, s2, s3, s4, s5, s6, s7⟩
                      go_simp
                      with_reducible rfl
                    rotate_left
                    · simp only [Act.put, List.setIfInBounds_toArray, List.set_cons_zero, List.set_cons_succ, i64_w, i32_w]
                      rfl
                    refine pure_ (i := 8) (N := some 35) (v := ?_) (a' := ?_) #[true, true, true, true, true, true, true, true, true, false, false, false] rfl rfl (any_of HT_.out (by kernel_rfl)) (fun _ _ _ h => h) (Or.inl ⟨by rfl, ?_⟩) ?_ ?_
                    rotate_left
                    · intro w'
                      go_simp
                      with_reducible rfl
                    rotate_left
                    · simp only [Act.put, List.setIfInBounds_toArray, List.set_cons_zero, List.set_cons_succ, i64_w, i32_w]
                      rfl
                    refine take_ (i := 9) (N := some 36) (v := ?_) (a' := ?_) #[true, true, true, true, true, true, true, true, true, true, false, false] rfl rfl (take_ofW HT_.out HW_.out (by kernel_rfl)) (fun _ _ _ h => h) (Or.inl ⟨by rfl, ?_⟩) hHeld ?_ ?_
                    rotate_left
                    · rintro w' ⟨s0, s1, s2, s3, s4, s5, s6, s7⟩
                      go_simp
                      with_reducible rfl
                    rotate_left
                    · simp only [Act.put, List.setIfInBounds_toArray, List.set_cons_zero, List.set_cons_succ, i64_w, i32_w]
                      rfl
                    refine one_ (i := 10) (N := some 37) #[true, true, true, true, true, true, true, true, true, true, true, false] rfl rfl (one_of HT_.out (by kernel_rfl)) (by decide) (fun K hK => ?_)
                    refine goes_ Try.func26 (by kernel_rfl) rfl #[.agg #[.int .i8 ((rd_T26 l0_1 x5_2).f0), .slice A183_1 ((rd_T26 l0_1 x5_2).f1).length c183_1], .agg #[.int .i8 ((rd_T26 l1_1 x5_2).f0), .slice A184_1 ((rd_T26 l1_1 x5_2).f1).length c184_1]] (by rfl) rfl rfl (by (try simp only [List.map_toArray, List.map_cons, List.map_nil]); first | done | rfl | (simp only [List.length_drop, List.length_take]; rfl)) ?_
                    with_reducible refine (ih k2 (by have := HJ2.out; have := HK2.out; omega) ((rd_T26 l0_1 x5_2).f0) _ _ ((rd_T26 l0_1 x5_2).f1) ((rd_T26 l1_1 x5_2).f0) _ _ ((rd_T26 l1_1 x5_2).f1) false _ ?side1 ?side2 ?side3 ?side4 A17.out).mono ?_
                    (case side1 => repeat (first | exact (Kd.C_below HR183_1.out HB.out) | (with_reducible refine Kd.C_alloc ?_ _) | (with_reducible refine Kd.C_drewN ?_ _) | (with_reducible refine Kd.C_drew ?_)))
                    (case side2 => exact HC183_1.out)
                    (case side3 => repeat (first | exact (Kd.C_below HR184_1.out HB.out) | (with_reducible refine Kd.C_alloc ?_ _) | (with_reducible refine Kd.C_drewN ?_ _) | (with_reducible refine Kd.C_drew ?_)))
                    (case side4 => exact HC184_1.out)
                    rintro e w26 ⟨rfl, hb⟩
                    refine ⟨_, rfl, ?_⟩
                    have n0_ := Aside0.mk (blk_below (g := gb181) (o := .cells #[.int .i8 a0_0, .slice (some ad183) l0_1.length c0_1] 26 (0, 0)) (by (with_reducible repeat (first | refine blk_drewN ?_ _ | refine blk_drew ?_ | refine blk_alloc ?_ _)); exact BK181.out) hb)
                    have n1_ := Aside0.mk (blk_below (g := gb182) (o := .cells #[.int .i8 a1_0, .slice (some ad184) l1_1.length c1_1] 26 (0, 0)) (by (with_reducible repeat (first | refine blk_drewN ?_ _ | refine blk_drew ?_ | refine blk_alloc ?_ _)); exact BK182.out) hb)
                    have n2_ := Aside0.mk (below_step (by repeat (first | (with_reducible first | exact HB.out | apply below_alloc | apply pw_below_drewN | apply below_drew1 | refine below_set ?_ GE181.out | refine below_set ?_ GE182.out) | exact HB.out)) hb)
                    clear BK181
                    clear BK182
                    clear HB
                    have BK181 := n0_
                    have BK182 := n1_
                    have HB := n2_
                    clear n0_ n1_ n2_
                    (try clear hb)
                    (try clear hb2)
                    (try clear hk)
                    (try clear hi)
                    refine hK.out _ _ ⟨(blk_cell BK181.out 0).trans rfl, (blk_cell BK181.out 1).trans rfl, (blk_cell BK182.out 0).trans rfl, (blk_cell BK182.out 1).trans rfl, ((HB.out.cell (World.block_lt_of_cell? w _ hw183_0)).trans hw183_0), ((HB.out.cell (World.block_lt_of_cell? w _ hw183_1)).trans hw183_1), ((HB.out.cell (World.block_lt_of_cell? w _ hw184_0)).trans hw184_0), ((HB.out.cell (World.block_lt_of_cell? w _ hw184_1)).trans hw184_1)⟩ (fun hHeld => ?_)
                    clear hK K
                    refine norm_ (a' := ?_) ?_ ?_
                    rotate_left
                    · show Act.put _ (some 37) _ = _
                      simp only [Act.put, List.setIfInBounds_toArray, List.set_cons_zero, List.set_cons_succ, i64_w, i32_w]
                      rfl
                    refine pure_ (i := 11) (N := some 38) (v := ?_) (a' := ?_) #[true, true, true, true, true, true, true, true, true, true, true, true] rfl rfl (any_of HT_.out (by kernel_rfl)) (fun _ _ _ h => h) (Or.inl ⟨by rfl, ?_⟩) ?_ ?_
                    rotate_left
                    · intro w'
                      go_simp
                      with_reducible rfl
                    rotate_left
                    · simp only [Act.put, List.setIfInBounds_toArray, List.set_cons_zero, List.set_cons_succ, i64_w, i32_w]
                      rfl
                    refine done_ (done_of HT_.out (by kernel_rfl)) ?_
                    try go_wp2
                    go_ret
                    exact ⟨by first | rfl | (simp [errW_none, errW_some] <;> rfl) | (simp [*, errW_none, errW_some] <;> rfl), by repeat (first | (with_reducible first | exact HB.out | apply below_alloc | apply pw_below_drewN | apply below_drew1 | refine below_set ?_ GE181.out | refine below_set ?_ GE182.out) | exact HB.out)⟩
                · rw [if_neg c16] at H
                  exact absurd H (by simp)
              · rw [if_neg c15] at H
                exact absurd H (by simp)
            · rw [if_neg c14] at H
              have c14b0 : decide (x5_2 < (l0_1.length : Int)) = false := decide_eq_false c14
              clear c14
              obtain rfl := Option.some.inj H
              have hnb27 := NB181_182.out
              have hnc27 := NB182_181.out
              have hcz28_0 : wr.cell? ⟨gb181, 0, none⟩ = some (.int .i8 a0_0) := (blk_cell BK181.out 0).trans rfl
              have hcz28_1 : wr.cell? ⟨gb181, 1, none⟩ = some (.slice A0_1 l0_1.length c0_1) := (blk_cell BK181.out 1).trans rfl
              have hfz28_0 := blk_frozen BK181.out 0
              have hfz28_1 := blk_frozen BK181.out 1
              go_wp2
              go_ret
              exact ⟨by first | rfl | (simp [errW_none, errW_some] <;> rfl) | (simp [*, errW_none, errW_some] <;> rfl), by repeat (first | (with_reducible first | exact HB.out | apply below_alloc | apply pw_below_drewN | apply below_drew1 | refine below_set ?_ GE181.out | refine below_set ?_ GE182.out) | exact HB.out)⟩

end Go.Proofs.Ytamhdpllmhafhaa.X
/- Hand texts of round 1, parted: HLike. -/
namespace Go.Proofs.Ytamhdpllmhafhaa.X
open Go.RowKit Go.Proofs.YtamhdpllmhafhaaW.PrintWords Go.Proofs.YtamhdpllmhafhaaW.PrintLast Go.Proofs.YtamhdpllmhafhaaW.PrintMore
set_option linter.unusedVariables false
set_option linter.unusedSimpArgs false

/-! ### lists that fit; LikeType, Small -/
mutual
def fits : S26 → Prop
  | ⟨_, l⟩ => l.length ≤ 9223372036854775807 ∧ fitsL l
def fitsL : List S26 → Prop
  | [] => True
  | x :: l => fits x ∧ fitsL l
end
theorem fits_eq (x : S26) : fits x = (x.f1.length ≤ 9223372036854775807 ∧ fitsL x.f1) := by cases x; rw [fits]
theorem fitsL_get {l : List S26} (h : fitsL l) (i : Nat) (hi : i < l.length) : fits (rd_T26 l i) := by
  induction l generalizing i with
  | nil => simp at hi
  | cons x l ih =>
    rw [fitsL] at h
    cases i with
    | zero => simpa [rd_T26] using h.1
    | succ i =>
      have := ih h.2 i (by simpa using hi)
      simpa [rd_T26] using this
theorem fitsL_of {l : List S26} (h : ∀ i, i < l.length → fits (rd_T26 l i)) : fitsL l := by
  induction l with
  | nil => rw [fitsL]; trivial
  | cons x l ih =>
    rw [fitsL]
    refine ⟨by simpa [rd_T26] using h 0 (by simp), ih fun i hi => ?_⟩
    have := h (i + 1) (by simpa using hi)
    simpa [rd_T26] using this
theorem fits_of_C (n : Nat) : ∀ (l : List S26) (w : World) (A : Option Addr), nodesL l < n → Kd.C k26 w A l.length l → l.length ≤ 9223372036854775807 ∧ fitsL l := by
  induction n with
  | zero => intro l w A h; omega
  | succ n ih =>
    intro l w A hn h
    refine ⟨h.2.1, fitsL_of fun i hi => ?_⟩
    obtain ⟨ad, A1, c1, _, _, _, _, h2⟩ := at_T26 h (i : Int) (by omega) (by omega)
    have := nodesL_rd l i hi
    rw [fits_eq]
    exact ih _ w A1 (by omega) h2
theorem fits_of_nodes (n : Nat) : ∀ t : S26, nodes t < n → nodes t ≤ 9223372036854775807 → fits t := by
  induction n with
  | zero => intro t h; omega
  | succ n ih =>
    intro t hn h
    rw [nodes_eq] at hn h
    have := length_le_nodesL t.f1
    rw [fits_eq]
    refine ⟨by omega, fitsL_of fun i hi => ?_⟩
    have := nodes_rd_le t.f1 i hi
    exact ih _ (by omega) (by omega)
theorem likeL_drop (l m : List S26) (i : Nat) (h : i < l.length) (h' : i < m.length) : likeL (l.drop i) (m.drop i) = (likeB (rd_T26 l i) (rd_T26 m i) && likeL (l.drop (i + 1)) (m.drop (i + 1))) := by
  rw [drop_rd l i h, drop_rd m i h', likeL]
theorem LikeType_ev (n : Nat) : ∀ (a b : S26), nodes a < n → fits a → Ev (fun f => lychgatelaw02_LikeType.f f a.f0 a.f1 b.f0 b.f1) (likeB a b) := by
  induction n with
  | zero => intro a b h; omega
  | succ n ih =>
  intro a b hn hfit
  rw [fits_eq] at hfit
  by_cases e : a.f0 = b.f0
  rotate_left
  · refine Ev.step (f := fun f => lychgatelaw02_LikeType.j0 f true a.f0 a.f1 b.f0 b.f1) (fun f => by simp only [lychgatelaw02_LikeType.f]; rw [if_neg e]) (Ev.step (f := fun _ => some false) (fun f => by simp [lychgatelaw02_LikeType.j0]) (Ev_eq (Ev.now _) (by rw [likeB_eq]; simp [e])))
  refine Ev.step (f := fun f => lychgatelaw02_LikeType.j0 f ((a.f1.length : Int) != (b.f1.length : Int)) a.f0 a.f1 b.f0 b.f1) (fun f => by simp only [lychgatelaw02_LikeType.f]; rw [if_pos e]) ?_
  by_cases hl : a.f1.length = b.f1.length
  rotate_left
  · have hne : ((a.f1.length : Int) != (b.f1.length : Int)) = true := by rw [bne_iff_ne]; omega
    refine Ev.step (f := fun _ => some false) (fun f => by simp only [lychgatelaw02_LikeType.j0]; rw [if_pos hne]) (Ev_eq (Ev.now _) ?_)
    cases h : likeB a b with
    | false => rfl
    | true =>
      have := (like_iff a b).1 h
      rw [this] at hl
      exact absurd rfl hl
  have heq : ((a.f1.length : Int) != (b.f1.length : Int)) = false := by rw [bne_eq_false_iff_eq]; omega
  refine Ev.step (f := fun f => lychgatelaw02_LikeType.l0 f 0 a.f0 a.f1 b.f0 b.f1) (fun f => by simp only [lychgatelaw02_LikeType.j0]; rw [heq]; rfl) ?_
  have loop : ∀ (d i : Nat), i ≤ a.f1.length → a.f1.length - i = d → Ev (fun f => lychgatelaw02_LikeType.l0 f (i : Int) a.f0 a.f1 b.f0 b.f1) (likeL (a.f1.drop i) (b.f1.drop i)) := by
    intro d
    induction d with
    | zero =>
      intro i hi hd
      refine Ev.step (f := fun _ => some true) (fun f => by simp only [lychgatelaw02_LikeType.l0]; rw [if_neg (by omega)]) (Ev_eq (Ev.now _) ?_)
      rw [List.drop_eq_nil_of_le (by omega), List.drop_eq_nil_of_le (by omega), likeL]
    | succ d ihd =>
      intro i hi hd
      have hlt : i < a.f1.length := by omega
      have hr := nodesL_rd a.f1 i hlt
      rw [nodes_eq] at hn
      have e1 := ih (rd_T26 a.f1 i) (rd_T26 b.f1 i) (by rw [nodes_eq]; omega) (fitsL_get hfit.2 i hlt)
      refine Ev.step (f := fun f => (lychgatelaw02_LikeType.f f (rd_T26 a.f1 i).f0 (rd_T26 a.f1 i).f1 (rd_T26 b.f1 i).f0 (rd_T26 b.f1 i).f1).bind fun t => if t = true then lychgatelaw02_LikeType.l0 f ((i + 1 : Nat) : Int) a.f0 a.f1 b.f0 b.f1 else some false) (fun f => ?_) (Ev.bind e1 ?_)
      · simp only [lychgatelaw02_LikeType.l0]
        rw [if_pos (by omega), if_pos (by omega), if_pos (by omega), w64 ((i : Int) + 1) (by omega) (by omega)]
        rfl
      · rw [likeL_drop a.f1 b.f1 i hlt (by omega)]
        cases likeB (rd_T26 a.f1 i) (rd_T26 b.f1 i) with
        | true => simpa using ihd (i + 1) (by omega) (by omega)
        | false => simpa using Ev.now _
  refine Ev_eq (loop a.f1.length 0 (by omega) rfl) ?_
  rw [likeB_eq]
  simp [e]
theorem IsT.fits {w : World} {v : Value} {t : S26} (h : IsT w v t) : fits t := by
  obtain ⟨A, c, rfl, h1, h2⟩ := h
  rw [fits_eq]
  exact fits_of_C (nodesL t.f1 + 1) t.f1 w A (by omega) h2
theorem LikeType_calls {a b : S26} {va vb : Value} {w : World} (ha : IsT w va a) (hb : IsT w vb b) : Calls Try.prog 26 #[va, vb] w fun e w' => e = .returned (.bool (likeB a b)) ∧ Below w.heap.size w w' := by
  have hf := ha.fits
  obtain ⟨A, c, rfl, h1, h2⟩ := ha
  obtain ⟨B, d, rfl, h3, h4⟩ := hb
  obtain ⟨k, hk⟩ := (LikeType_ev (nodes a + 1) a b (by omega) hf).rounds
  exact lychgatelaw02_LikeType.calls k a.f0 A c a.f1 b.f0 B d b.f1 _ w h2 h1 h4 h3 hk
end Go.Proofs.Ytamhdpllmhafhaa.X
-- Written by xprint.py, a program of this session that drives the kit's print beside contracts proved by hand; parted by split1.py. Lean checks it.
namespace Go.Proofs.Ytamhdpllmhafhaa.X
open Go.RowKit Go.Proofs.YtamhdpllmhafhaaW.PrintWords Go.Proofs.YtamhdpllmhafhaaW.PrintLast Go.Proofs.YtamhdpllmhafhaaW.PrintMore
attribute [local go_sem] max2_int min2_int max_two min_two max_three min_three max_four min_four   -- for this text's walks alone
set_option linter.unusedVariables false
set_option linter.unusedSimpArgs false

/-! ### lychgatelaw02_counted: function 63 -/
mutual
def lychgatelaw02_counted.l0 : Nat → Int → Int → Int → List (S26) → Option (Int)
  | 0, _, _, _, _ => none
  | k + 1, x1, x5, x195000, x195001 => if x5 < (x195001.length : Int) then (if x1 ≤ 32768 then (if 0 ≤ x5 then ((lychgatelaw02_counted.f k ((rd_T26 x195001 x5).f0) ((rd_T26 x195001 x5).f1) x1).bind fun t196 => (lychgatelaw02_counted.l0 k t196 (wrap64 (x5 + 1)) x195000 x195001)) else (none)) else (some x1)) else (some x1)
def lychgatelaw02_counted.f : Nat → Int → List (S26) → Int → Option (Int)
  | 0, _, _, _ => none
  | k + 1, a0_0, l0_1, a1 => lychgatelaw02_counted.l0 k (wrap64 (a1 + 1)) 0 a0_0 l0_1
end
theorem lychgatelaw02_counted.mono_l : ∀ k, (∀ y0 y1 y2, LeO (lychgatelaw02_counted.f k y0 y1 y2) (lychgatelaw02_counted.f (k + 1) y0 y1 y2)) ∧ (∀ y0 y1 y2 y3, LeO (lychgatelaw02_counted.l0 k y0 y1 y2 y3) (lychgatelaw02_counted.l0 (k + 1) y0 y1 y2 y3))
  | 0 => ⟨fun _ _ _ r h => by simp [lychgatelaw02_counted.f] at h, fun _ _ _ _ r h => by simp [lychgatelaw02_counted.l0] at h⟩
  | k + 1 => by
    obtain ⟨ih0, ih1⟩ := lychgatelaw02_counted.mono_l k
    refine ⟨?_, ?_⟩
    · intro y0 y1 y2
      unfold lychgatelaw02_counted.f
      repeat' first
      | (with_reducible exact ih0 _ _ _)
      | (with_reducible exact ih1 _ _ _ _)
      | (with_reducible exact LeO.refl _)
      | (with_reducible exact LeO.none _)
      | (with_reducible refine LeO.ite ?_ ?_)
      | (with_reducible refine LeO.bind ?_ (fun _ => ?_))
      | exact ih0 _ _ _
      | exact ih1 _ _ _ _
      | exact LeO.none _
      | refine LeO.ite ?_ ?_
      | refine LeO.bind ?_ (fun _ => ?_)
    · intro y0 y1 y2 y3
      unfold lychgatelaw02_counted.l0
      repeat' first
      | (with_reducible exact ih0 _ _ _)
      | (with_reducible exact ih1 _ _ _ _)
      | (with_reducible exact LeO.refl _)
      | (with_reducible exact LeO.none _)
      | (with_reducible refine LeO.ite ?_ ?_)
      | (with_reducible refine LeO.bind ?_ (fun _ => ?_))
      | exact ih0 _ _ _
      | exact ih1 _ _ _ _
      | exact LeO.none _
      | refine LeO.ite ?_ ?_
      | refine LeO.bind ?_ (fun _ => ?_)
theorem lychgatelaw02_counted.mono : ∀ a0 a1 a2 k, LeO (lychgatelaw02_counted.f k a0 a1 a2) (lychgatelaw02_counted.f (k + 1) a0 a1 a2) := by
  intro a0 a1 a2 k
  obtain ⟨ih0, ih1⟩ := lychgatelaw02_counted.mono_l k
  exact ih0 a0 a1 a2
set_option maxHeartbeats 8000000 in
set_option maxRecDepth 100000 in
theorem lychgatelaw02_counted.calls (k : Nat) : ∀ (a0_0 : Int) (A0_1 : Option Addr) (c0_1 : Nat) (l0_1 : List (S26)) (a1 : Int) (r : Int) (w : World) (hr0_1 : Kd.C k26 w A0_1 l0_1.length l0_1) (hc0_1 : l0_1.length ≤ c0_1) (h : lychgatelaw02_counted.f k a0_0 l0_1 a1 = some r),
    Calls Try.prog 63 #[.agg #[.int .i8 a0_0, .slice A0_1 l0_1.length c0_1], .int .i64 a1] w fun e w' => e = .returned (.int .i64 r) ∧ Below w.heap.size w w' := by
  induction k using Nat.strongRecOn with
  | _ k ih =>
  intro a0_0 A0_1 c0_1 l0_1 a1 r w hr0_1 hc0_1 h
  cases k with
  | zero => exact absurd h (by simp [lychgatelaw02_counted.f])
  | succ k =>
  simp only [lychgatelaw02_counted.f] at h
  have hu26 := Try.underlying26
  have HR0_1 := Aside0.mk hr0_1
  have HC0_1 := Aside0.mk hc0_1
  clear hr0_1 hc0_1
  have HB := Aside0.mk (Below.refl w.heap.size w)
  have H : (lychgatelaw02_counted.l0 k (wrap64 (a1 + 1)) 0 a0_0 l0_1) = some r := h
  clear h
  have H' := Aside0.mk H
  clear H
  go_enter Try.func63, Try.ntmps63
  go_wp2_with (first | ((with_reducible refine gate_dst (N := 2) rfl ?_); refine box_event ?hg (N := 2) ?hd (cs := #[.int .i8 a0_0, .slice A0_1 l0_1.length c0_1]) (t := 26) ?hr ?_; (case hd => rfl); (case hg => rfl); (case hr => first | (go_simp; done) | (go_simp; rfl)); intro gb194 hg w3 hbox hb; have n0_ := Aside0.mk (below_step (by repeat (first | (with_reducible first | exact HB.out | apply below_alloc | apply pw_below_drewN | apply below_drew1) | exact HB.out)) hb); have n1_ := Aside0.mk (hbox); have n2_ := Aside0.mk ((by rw [hg]; exact (below_size (by repeat (first | (with_reducible first | exact HB.out | apply below_alloc | apply pw_below_drewN | apply below_drew1) | exact HB.out))) : w.heap.size ≤ gb194)); have n3_ := Aside0.mk ((by rw [hg]; exact (below_size (by repeat (first | (with_reducible first | exact HB.out | apply below_alloc | apply pw_below_drewN | apply below_drew1) | exact HB.out))) : w.heap.size ≤ gb194)); clear HB; have HB := n0_; have BK194 := n1_; have GW194 := n2_; have GE194 := n3_; clear n0_ n1_ n2_ n3_; clear hb hbox hg))
  go_loopg [1, 5] k (fun kq v1 v5 w' => ∃ (x1_1 : Int) (x5_1 : Int), v1 = .int .i64 x1_1 ∧ v5 = .int .i64 x5_1 ∧ Aside0 (lychgatelaw02_counted.l0 kq x1_1 x5_1 a0_0 l0_1 = some r) ∧ Aside0 (kq ≤ k) ∧ Aside0 (w'.heap[gb194]? = some (.cells #[.int .i8 a0_0, (.slice A0_1 l0_1.length c0_1)] 26 (0, 0))) ∧ Aside0 (Below w.heap.size w w'))
  case atStart => exact ⟨(wrap64 (a1 + 1)), (0), (by first | rfl | (simp; done) | (simp [*]; done)), (by first | rfl | (simp; done) | (simp [*]; done)), H', ⟨Nat.le_refl _⟩, ⟨by (with_reducible repeat (first | refine blk_drewN ?_ _ | refine blk_drew ?_ | refine blk_alloc ?_ _)); exact BK194.out⟩, ⟨by repeat (first | (with_reducible first | exact HB.out | apply below_alloc | apply pw_below_drewN | apply below_drew1 | refine below_set ?_ GE194.out) | exact HB.out)⟩⟩
  case round =>
    clear H'
    try clear p2
    obtain ⟨x1_1, x5_1, rfl, rfl, HA, HK1, BK194, HB⟩ := hrel
    cases gk with
    | zero => exact absurd HA.out (by simp [lychgatelaw02_counted.l0])
    | succ k1 =>
      have H := HA.out
      clear HA
      simp only [lychgatelaw02_counted.l0] at H
      by_cases c4 : x5_1 < (l0_1.length : Int)
      · rw [if_pos c4] at H
        have c4b0 : decide (x5_1 < (l0_1.length : Int)) = true := decide_eq_true c4
        clear c4
        by_cases c5 : x1_1 ≤ 32768
        · rw [if_pos c5] at H
          have c5b0 : decide (x1_1 ≤ 32768) = true := decide_eq_true c5
          clear c5
          by_cases c6 : 0 ≤ x5_1
          · rw [if_pos c6] at H
            have c6b0 : decide (0 ≤ x5_1) = true := decide_eq_true c6
            clear c6
            replace H := Option.bind_eq_some_iff.mp H
            obtain ⟨t196, A70, H⟩ := H
            replace H : (lychgatelaw02_counted.l0 k1 t196 (wrap64 (x5_1 + 1)) a0_0 l0_1) = some r := H
            have A7 := Aside0.mk A70
            clear A70
            have H' := Aside0.mk H
            clear H
            have hcz8_0 : wr.cell? ⟨gb194, 0, none⟩ = some (.int .i8 a0_0) := (blk_cell BK194.out 0).trans rfl
            have hcz8_1 : wr.cell? ⟨gb194, 1, none⟩ = some (.slice A0_1 l0_1.length c0_1) := (blk_cell BK194.out 1).trans rfl
            have hfz8_0 := blk_frozen BK194.out 0
            have hfz8_1 := blk_frozen BK194.out 1
            have p195 : 0 ≤ (x5_1 : Int) := of_decide_eq_true (by first | (with_reducible assumption) | assumption)
            have q195 : x5_1 < (l0_1.length : Int) := of_decide_eq_true (by first | (with_reducible assumption) | assumption)
            obtain ⟨ad195, A195_1, c195_1, e195, hx195_0, hx195_1, hl195_1, hi195_1⟩ := at_T26 HR0_1.out x5_1 p195 q195
            cases e195
            replace hx195_0 := (HB.out.cell (World.block_lt_of_cell? w _ hx195_0)).trans hx195_0
            replace hx195_1 := (HB.out.cell (World.block_lt_of_cell? w _ hx195_1)).trans hx195_1
            have HR195_1 := Aside0.mk hi195_1
            have HC195_1 := Aside0.mk hl195_1
            clear hi195_1 hl195_1
            replace p195 := eq_true p195
            replace q195 := eq_true q195
            go_wp2_with (first | ((with_reducible refine gate_callee (f := 63) rfl ?_); refine goesL_ (some 25) rfl rfl Try.func63 (by kernel_rfl) rfl #[.agg #[.int .i8 ((rd_T26 l0_1 x5_1).f0), .slice A195_1 ((rd_T26 l0_1 x5_1).f1).length c195_1], .int .i64 x1_1] rfl (by (try simp only [List.map_toArray, List.map_cons, List.map_nil]); first | done | rfl | (simp only [List.length_drop, List.length_take]; rfl)) ?_; (with_reducible refine (ih k1 (by have := HK1.out; omega) ((rd_T26 l0_1 x5_1).f0) _ _ ((rd_T26 l0_1 x5_1).f1) x1_1 t196 _ ?side1 ?side2 A7.out).mono ?_); (case side1 => repeat (first | exact (Kd.C_below HR195_1.out HB.out) | (with_reducible refine Kd.C_alloc ?_ _) | (with_reducible refine Kd.C_drewN ?_ _) | (with_reducible refine Kd.C_drew ?_))); (case side2 => exact HC195_1.out); rintro e w9 ⟨rfl, hb⟩; refine ⟨_, rfl, ?_⟩; have n0_ := Aside0.mk (blk_below (g := gb194) (o := .cells #[.int .i8 a0_0, .slice (some ad195) l0_1.length c0_1] 26 (0, 0)) (by (with_reducible repeat (first | refine blk_drewN ?_ _ | refine blk_drew ?_ | refine blk_alloc ?_ _)); exact BK194.out) hb); have n1_ := Aside0.mk (below_step (by repeat (first | (with_reducible first | exact HB.out | apply below_alloc | apply pw_below_drewN | apply below_drew1 | refine below_set ?_ GE194.out) | exact HB.out)) hb); clear BK194; clear HB; have BK194 := n0_; have HB := n1_; clear n0_ n1_; (try clear hb); (try clear hb2); (try clear hk); (try clear hi)))
            go_roundg k1
            case measure => have := HK1.out; omega
            case rel => exact ⟨(t196), (wrap64 (x5_1 + 1)), (by first | rfl | (simp; done) | (simp [*]; done)), (by first | rfl | (simp; done) | (simp [*]; done)), H', ⟨by have := HK1.out; omega⟩, ⟨by (with_reducible repeat (first | refine blk_drewN ?_ _ | refine blk_drew ?_ | refine blk_alloc ?_ _)); exact BK194.out⟩, ⟨by repeat (first | (with_reducible first | exact HB.out | apply below_alloc | apply pw_below_drewN | apply below_drew1 | refine below_set ?_ GE194.out) | exact HB.out)⟩⟩
          · rw [if_neg c6] at H
            exact absurd H (by simp)
        · rw [if_neg c5] at H
          have c5b0 : decide (x1_1 ≤ 32768) = false := decide_eq_false c5
          clear c5
          obtain rfl := Option.some.inj H
          have hcz10_0 : wr.cell? ⟨gb194, 0, none⟩ = some (.int .i8 a0_0) := (blk_cell BK194.out 0).trans rfl
          have hcz10_1 : wr.cell? ⟨gb194, 1, none⟩ = some (.slice A0_1 l0_1.length c0_1) := (blk_cell BK194.out 1).trans rfl
          have hfz10_0 := blk_frozen BK194.out 0
          have hfz10_1 := blk_frozen BK194.out 1
          go_wp2
          go_ret
          exact ⟨by first | rfl | (simp [errW_none, errW_some] <;> rfl) | (simp [*, errW_none, errW_some] <;> rfl), by repeat (first | (with_reducible first | exact HB.out | apply below_alloc | apply pw_below_drewN | apply below_drew1 | refine below_set ?_ GE194.out) | exact HB.out)⟩
      · rw [if_neg c4] at H
        have c4b0 : decide (x5_1 < (l0_1.length : Int)) = false := decide_eq_false c4
        clear c4
        obtain rfl := Option.some.inj H
        have hcz11_0 : wr.cell? ⟨gb194, 0, none⟩ = some (.int .i8 a0_0) := (blk_cell BK194.out 0).trans rfl
        have hcz11_1 : wr.cell? ⟨gb194, 1, none⟩ = some (.slice A0_1 l0_1.length c0_1) := (blk_cell BK194.out 1).trans rfl
        have hfz11_0 := blk_frozen BK194.out 0
        have hfz11_1 := blk_frozen BK194.out 1
        go_wp2
        go_ret
        exact ⟨by first | rfl | (simp [errW_none, errW_some] <;> rfl) | (simp [*, errW_none, errW_some] <;> rfl), by repeat (first | (with_reducible first | exact HB.out | apply below_alloc | apply pw_below_drewN | apply below_drew1 | refine below_set ?_ GE194.out) | exact HB.out)⟩

/-! ### lychgatelaw02_Small: function 28 -/
def lychgatelaw02_Small.f (k : Nat) (a0_0 : Int) (l0_1 : List (S26)) : Option (Bool) := (lychgatelaw02_counted.f k a0_0 l0_1 0).bind fun t198 => (some (decide (t198 ≤ 32768)))
theorem lychgatelaw02_Small.mono : ∀ a0 a1 k, LeO (lychgatelaw02_Small.f k a0 a1) (lychgatelaw02_Small.f (k + 1) a0 a1) := by
  intro a0 a1 k
  unfold lychgatelaw02_Small.f
  repeat' first
      | (with_reducible exact lychgatelaw02_counted.mono _ _ _ _)
      | (with_reducible exact LeO.refl _)
      | (with_reducible exact LeO.none _)
      | (with_reducible refine LeO.ite ?_ ?_)
      | (with_reducible refine LeO.bind ?_ (fun _ => ?_))
      | exact lychgatelaw02_counted.mono _ _ _ _
      | exact LeO.none _
      | refine LeO.ite ?_ ?_
      | refine LeO.bind ?_ (fun _ => ?_)
set_option maxHeartbeats 8000000 in
set_option maxRecDepth 100000 in
theorem lychgatelaw02_Small.calls (k : Nat) (a0_0 : Int) (A0_1 : Option Addr) (c0_1 : Nat) (l0_1 : List (S26)) (r : Bool) (w : World) (hr0_1 : Kd.C k26 w A0_1 l0_1.length l0_1) (hc0_1 : l0_1.length ≤ c0_1) (h : lychgatelaw02_Small.f k a0_0 l0_1 = some r) :
    Calls Try.prog 28 #[.agg #[.int .i8 a0_0, .slice A0_1 l0_1.length c0_1]] w fun e w' => e = .returned (.bool r) ∧ Below w.heap.size w w' := by
  have hu26 := Try.underlying26
  have HR0_1 := Aside0.mk hr0_1
  have HC0_1 := Aside0.mk hc0_1
  clear hr0_1 hc0_1
  have HB := Aside0.mk (Below.refl w.heap.size w)
  have H : ((lychgatelaw02_counted.f k a0_0 l0_1 0).bind fun t198 => (some (decide (t198 ≤ 32768)))) = some r := h
  clear h
  replace H := Option.bind_eq_some_iff.mp H
  obtain ⟨t198, A20, H⟩ := H
  replace H : (some (decide (t198 ≤ 32768))) = some r := H
  have A2 := Aside0.mk A20
  clear A20
  obtain rfl := Option.some.inj H
  go_enter Try.func28, Try.ntmps28
  go_wp2_with (first | ((with_reducible refine gate_dst (N := 1) rfl ?_); refine box_event ?hg (N := 1) ?hd (cs := #[.int .i8 a0_0, .slice A0_1 l0_1.length c0_1]) (t := 26) ?hr ?_; (case hd => rfl); (case hg => rfl); (case hr => first | (go_simp; done) | (go_simp; rfl)); intro gb197 hg w3 hbox hb; have n0_ := Aside0.mk (below_step (by repeat (first | (with_reducible first | exact HB.out | apply below_alloc | apply pw_below_drewN | apply below_drew1) | exact HB.out)) hb); have n1_ := Aside0.mk (hbox); have n2_ := Aside0.mk ((by rw [hg]; exact (below_size (by repeat (first | (with_reducible first | exact HB.out | apply below_alloc | apply pw_below_drewN | apply below_drew1) | exact HB.out))) : w.heap.size ≤ gb197)); have n3_ := Aside0.mk ((by rw [hg]; exact (below_size (by repeat (first | (with_reducible first | exact HB.out | apply below_alloc | apply pw_below_drewN | apply below_drew1) | exact HB.out))) : w.heap.size ≤ gb197)); clear HB; have HB := n0_; have BK197 := n1_; have GW197 := n2_; have GE197 := n3_; clear n0_ n1_ n2_ n3_; clear hb hbox hg; have hcz4_0 : w3.cell? ⟨gb197, 0, none⟩ = some (.int .i8 a0_0) := (blk_cell BK197.out 0).trans rfl; have hcz4_1 : w3.cell? ⟨gb197, 1, none⟩ = some (.slice A0_1 l0_1.length c0_1) := (blk_cell BK197.out 1).trans rfl; have hfz4_0 := blk_frozen BK197.out 0; have hfz4_1 := blk_frozen BK197.out 1) | ((with_reducible refine gate_callee (f := 63) rfl ?_); refine goesL_ (some 4) rfl rfl Try.func63 (by kernel_rfl) rfl #[.agg #[.int .i8 a0_0, .slice A0_1 l0_1.length c0_1], .int .i64 0] rfl (by (try simp only [List.map_toArray, List.map_cons, List.map_nil]); first | done | rfl | (simp only [List.length_drop, List.length_take]; rfl)) ?_; (with_reducible refine (lychgatelaw02_counted.calls k a0_0 _ _ l0_1 0 t198 _ ?side1 ?side2 A2.out).mono ?_); (case side1 => repeat (first | exact (Kd.C_below HR0_1.out HB.out) | (with_reducible refine Kd.C_alloc ?_ _) | (with_reducible refine Kd.C_drewN ?_ _) | (with_reducible refine Kd.C_drew ?_))); (case side2 => exact HC0_1.out); rintro e w5 ⟨rfl, hb⟩; refine ⟨_, rfl, ?_⟩; have n0_ := Aside0.mk (blk_below (g := gb197) (o := .cells #[.int .i8 a0_0, .slice A0_1 l0_1.length c0_1] 26 (0, 0)) (by (with_reducible repeat (first | refine blk_drewN ?_ _ | refine blk_drew ?_ | refine blk_alloc ?_ _)); exact BK197.out) hb); have n1_ := Aside0.mk (below_step (by repeat (first | (with_reducible first | exact HB.out | apply below_alloc | apply pw_below_drewN | apply below_drew1 | refine below_set ?_ GE197.out) | exact HB.out)) hb); clear BK197; clear HB; have BK197 := n0_; have HB := n1_; clear n0_ n1_; (try clear hb); (try clear hb2); (try clear hk); (try clear hi)))
  go_ret
  exact ⟨by first | rfl | (simp [errW_none, errW_some] <;> rfl) | (simp [*, errW_none, errW_some] <;> rfl), by repeat (first | (with_reducible first | exact HB.out | apply below_alloc | apply pw_below_drewN | apply below_drew1 | refine below_set ?_ GE197.out) | exact HB.out)⟩

end Go.Proofs.Ytamhdpllmhafhaa.X
/- Hand texts of round 1, parted: HSmall. -/
namespace Go.Proofs.Ytamhdpllmhafhaa.X
open Go.RowKit Go.Proofs.YtamhdpllmhafhaaW.PrintWords Go.Proofs.YtamhdpllmhafhaaW.PrintLast Go.Proofs.YtamhdpllmhafhaaW.PrintMore
set_option linter.unusedVariables false
set_option linter.unusedSimpArgs false

theorem counted_ev (n : Nat) : ∀ (k : Int) (l : List S26) (c : Int), nodesL l < n → 0 ≤ c → c ≤ 32768 → Ev (fun f => lychgatelaw02_counted.f f k l c) (min (c + 1 + (nodesL l : Int)) 32769) := by
  induction n with
  | zero => intro k l c h; omega
  | succ n ih =>
  intro k l c hn h0 h8
  have loop : ∀ (d i : Nat) (c : Int), i ≤ l.length → l.length - i = d → (i : Int) ≤ c → 0 ≤ c → c ≤ 32769 → Ev (fun f => lychgatelaw02_counted.l0 f c (i : Int) k l) (min (c + (nodesL (l.drop i) : Int)) 32769) := by
    intro d
    induction d with
    | zero =>
      intro i c hi hd hic h0 h8
      refine Ev.step (f := fun _ => some c) (fun f => by simp only [lychgatelaw02_counted.l0]; rw [if_neg (by omega)]) (Ev_eq (Ev.now _) ?_)
      rw [List.drop_eq_nil_of_le (by omega), nodesL]
      omega
    | succ d ihd =>
      intro i c hi hd hic h0 h8
      have hlt : i < l.length := by omega
      by_cases hc : c ≤ 32768
      · have hr := nodesL_rd l i hlt
        have e1 := ih (rd_T26 l i).f0 (rd_T26 l i).f1 c (by omega) (by omega) (by omega)
        have hd2 := nodesL_drop l i hlt
        rw [nodes_eq] at hd2
        have e2 := ihd (i + 1) (min (c + 1 + (nodesL (rd_T26 l i).f1 : Int)) 32769) (by omega) (by omega) (by omega) (by omega) (by omega)
        refine Ev.step (f := fun f => (lychgatelaw02_counted.f f (rd_T26 l i).f0 (rd_T26 l i).f1 c).bind fun t => lychgatelaw02_counted.l0 f t ((i + 1 : Nat) : Int) k l) (fun f => ?_) (Ev.bind e1 (Ev_eq e2 ?_))
        · simp only [lychgatelaw02_counted.l0]
          rw [if_pos (by omega), if_pos hc, if_pos (by omega), w64 ((i : Int) + 1) (by omega) (by omega)]
          rfl
        · omega
      · refine Ev.step (f := fun _ => some c) (fun f => by simp only [lychgatelaw02_counted.l0]; rw [if_pos (by omega), if_neg hc]) (Ev_eq (Ev.now _) ?_)
        omega
  refine Ev.step (f := fun f => lychgatelaw02_counted.l0 f (c + 1) 0 k l) (fun f => by simp only [lychgatelaw02_counted.f]; rw [w64 (c + 1) (by omega) (by omega)]) (Ev_eq (loop l.length 0 (c + 1) (by omega) rfl (by omega) (by omega) (by omega)) ?_)
  rw [List.drop_zero]
def smallB (t : S26) : Bool := decide (nodes t ≤ 32768)
theorem Small_ev (t : S26) : Ev (fun f => lychgatelaw02_Small.f f t.f0 t.f1) (smallB t) := by
  unfold lychgatelaw02_Small.f
  refine Ev.bind (counted_ev (nodesL t.f1 + 1) t.f0 t.f1 0 (by omega) (by omega) (by omega)) (Ev_eq (Ev.now _) ?_)
  unfold smallB
  rw [nodes_eq, decide_eq_decide]
  omega

theorem Small_calls {t : S26} {v : Value} {w : World} (h : IsT w v t) : Calls Try.prog 28 #[v] w fun e w' => e = .returned (.bool (smallB t)) ∧ Below w.heap.size w w' := by
  obtain ⟨A, c, rfl, h1, h2⟩ := h
  obtain ⟨k, hk⟩ := (Small_ev t).rounds
  exact lychgatelaw02_Small.calls k t.f0 A c t.f1 _ w h2 h1 hk
end Go.Proofs.Ytamhdpllmhafhaa.X
-- Written by xprint.py, a program of this session that drives the kit's print beside contracts proved by hand; parted by split1.py. Lean checks it.
namespace Go.Proofs.Ytamhdpllmhafhaa.X
open Go.RowKit Go.Proofs.YtamhdpllmhafhaaW.PrintWords Go.Proofs.YtamhdpllmhafhaaW.PrintLast Go.Proofs.YtamhdpllmhafhaaW.PrintMore
attribute [local go_sem] max2_int min2_int max_two min_two max_three min_three max_four min_four   -- for this text's walks alone
set_option linter.unusedVariables false
set_option linter.unusedSimpArgs false

/-! ### lychgateref02_open: function 85 -/
mutual
def lychgateref02_open.l0 : Nat → Int → Int → List (S26) → Option (Bool)
  | 0, _, _, _ => none
  | k + 1, x3, x284000, x284001 => if x3 < (x284001.length : Int) then (if 0 ≤ x3 then ((lychgateref02_open.f k ((rd_T26 x284001 x3).f0) ((rd_T26 x284001 x3).f1)).bind fun t285 => (if t285 = true then (some true) else (lychgateref02_open.l0 k (wrap64 (x3 + 1)) x284000 x284001))) else (none)) else (some false)
def lychgateref02_open.f : Nat → Int → List (S26) → Option (Bool)
  | 0, _, _ => none
  | k + 1, a0_0, l0_1 => if a0_0 = 0 then (some true) else (lychgateref02_open.l0 k 0 a0_0 l0_1)
end
theorem lychgateref02_open.mono_l : ∀ k, (∀ y0 y1, LeO (lychgateref02_open.f k y0 y1) (lychgateref02_open.f (k + 1) y0 y1)) ∧ (∀ y0 y1 y2, LeO (lychgateref02_open.l0 k y0 y1 y2) (lychgateref02_open.l0 (k + 1) y0 y1 y2))
  | 0 => ⟨fun _ _ r h => by simp [lychgateref02_open.f] at h, fun _ _ _ r h => by simp [lychgateref02_open.l0] at h⟩
  | k + 1 => by
    obtain ⟨ih0, ih1⟩ := lychgateref02_open.mono_l k
    refine ⟨?_, ?_⟩
    · intro y0 y1
      unfold lychgateref02_open.f
      repeat' first
      | (with_reducible exact ih0 _ _)
      | (with_reducible exact ih1 _ _ _)
      | (with_reducible exact LeO.refl _)
      | (with_reducible exact LeO.none _)
      | (with_reducible refine LeO.ite ?_ ?_)
      | (with_reducible refine LeO.bind ?_ (fun _ => ?_))
      | exact ih0 _ _
      | exact ih1 _ _ _
      | exact LeO.none _
      | refine LeO.ite ?_ ?_
      | refine LeO.bind ?_ (fun _ => ?_)
    · intro y0 y1 y2
      unfold lychgateref02_open.l0
      repeat' first
      | (with_reducible exact ih0 _ _)
      | (with_reducible exact ih1 _ _ _)
      | (with_reducible exact LeO.refl _)
      | (with_reducible exact LeO.none _)
      | (with_reducible refine LeO.ite ?_ ?_)
      | (with_reducible refine LeO.bind ?_ (fun _ => ?_))
      | exact ih0 _ _
      | exact ih1 _ _ _
      | exact LeO.none _
      | refine LeO.ite ?_ ?_
      | refine LeO.bind ?_ (fun _ => ?_)
theorem lychgateref02_open.mono : ∀ a0 a1 k, LeO (lychgateref02_open.f k a0 a1) (lychgateref02_open.f (k + 1) a0 a1) := by
  intro a0 a1 k
  obtain ⟨ih0, ih1⟩ := lychgateref02_open.mono_l k
  exact ih0 a0 a1
set_option maxHeartbeats 8000000 in
set_option maxRecDepth 100000 in
theorem lychgateref02_open.calls (k : Nat) : ∀ (a0_0 : Int) (A0_1 : Option Addr) (c0_1 : Nat) (l0_1 : List (S26)) (r : Bool) (w : World) (hr0_1 : Kd.C k26 w A0_1 l0_1.length l0_1) (hc0_1 : l0_1.length ≤ c0_1) (h : lychgateref02_open.f k a0_0 l0_1 = some r),
    Calls Try.prog 85 #[.agg #[.int .i8 a0_0, .slice A0_1 l0_1.length c0_1]] w fun e w' => e = .returned (.bool r) ∧ Below w.heap.size w w' := by
  induction k using Nat.strongRecOn with
  | _ k ih =>
  intro a0_0 A0_1 c0_1 l0_1 r w hr0_1 hc0_1 h
  cases k with
  | zero => exact absurd h (by simp [lychgateref02_open.f])
  | succ k =>
  simp only [lychgateref02_open.f] at h
  have hu26 := Try.underlying26
  have HR0_1 := Aside0.mk hr0_1
  have HC0_1 := Aside0.mk hc0_1
  clear hr0_1 hc0_1
  have HB := Aside0.mk (Below.refl w.heap.size w)
  have H : (if a0_0 = 0 then (some true) else (lychgateref02_open.l0 k 0 a0_0 l0_1)) = some r := h
  clear h
  by_cases c2 : a0_0 = 0
  · rw [if_pos c2] at H
    have c2b0 : (a0_0 == 0) = true := beq_iff_eq.mpr c2
    have c2b1 : (a0_0 != 0) = false := bne_eq_false_iff_eq.mpr c2
    clear c2
    obtain rfl := Option.some.inj H
    go_enter Try.func85, Try.ntmps85
    go_wp2_with (first | ((with_reducible refine gate_dst (N := 1) rfl ?_); refine box_event ?hg (N := 1) ?hd (cs := #[.int .i8 a0_0, .slice A0_1 l0_1.length c0_1]) (t := 26) ?hr ?_; (case hd => rfl); (case hg => rfl); (case hr => first | (go_simp; done) | (go_simp; rfl)); intro gb283 hg w3 hbox hb; have n0_ := Aside0.mk (below_step (by repeat (first | (with_reducible first | exact HB.out | apply below_alloc | apply pw_below_drewN | apply below_drew1) | exact HB.out)) hb); have n1_ := Aside0.mk (hbox); have n2_ := Aside0.mk ((by rw [hg]; exact (below_size (by repeat (first | (with_reducible first | exact HB.out | apply below_alloc | apply pw_below_drewN | apply below_drew1) | exact HB.out))) : w.heap.size ≤ gb283)); have n3_ := Aside0.mk ((by rw [hg]; exact (below_size (by repeat (first | (with_reducible first | exact HB.out | apply below_alloc | apply pw_below_drewN | apply below_drew1) | exact HB.out))) : w.heap.size ≤ gb283)); clear HB; have HB := n0_; have BK283 := n1_; have GW283 := n2_; have GE283 := n3_; clear n0_ n1_ n2_ n3_; clear hb hbox hg; have hcz4_0 : w3.cell? ⟨gb283, 0, none⟩ = some (.int .i8 a0_0) := (blk_cell BK283.out 0).trans rfl; have hcz4_1 : w3.cell? ⟨gb283, 1, none⟩ = some (.slice A0_1 l0_1.length c0_1) := (blk_cell BK283.out 1).trans rfl; have hfz4_0 := blk_frozen BK283.out 0; have hfz4_1 := blk_frozen BK283.out 1))
    go_ret
    exact ⟨by first | rfl | (simp [errW_none, errW_some] <;> rfl) | (simp [*, errW_none, errW_some] <;> rfl), by repeat (first | (with_reducible first | exact HB.out | apply below_alloc | apply pw_below_drewN | apply below_drew1 | refine below_set ?_ GE283.out) | exact HB.out)⟩
  · rw [if_neg c2] at H
    have c2b0 : (a0_0 == 0) = false := beq_eq_false_iff_ne.mpr c2
    have c2b1 : (a0_0 != 0) = true := bne_iff_ne.mpr c2
    have H' := Aside0.mk H
    clear H
    go_enter Try.func85, Try.ntmps85
    go_wp2_with (first | ((with_reducible refine gate_dst (N := 1) rfl ?_); refine box_event ?hg (N := 1) ?hd (cs := #[.int .i8 a0_0, .slice A0_1 l0_1.length c0_1]) (t := 26) ?hr ?_; (case hd => rfl); (case hg => rfl); (case hr => first | (go_simp; done) | (go_simp; rfl)); intro gb283 hg w5 hbox hb; have n0_ := Aside0.mk (below_step (by repeat (first | (with_reducible first | exact HB.out | apply below_alloc | apply pw_below_drewN | apply below_drew1) | exact HB.out)) hb); have n1_ := Aside0.mk (hbox); have n2_ := Aside0.mk ((by rw [hg]; exact (below_size (by repeat (first | (with_reducible first | exact HB.out | apply below_alloc | apply pw_below_drewN | apply below_drew1) | exact HB.out))) : w.heap.size ≤ gb283)); have n3_ := Aside0.mk ((by rw [hg]; exact (below_size (by repeat (first | (with_reducible first | exact HB.out | apply below_alloc | apply pw_below_drewN | apply below_drew1) | exact HB.out))) : w.heap.size ≤ gb283)); clear HB; have HB := n0_; have BK283 := n1_; have GW283 := n2_; have GE283 := n3_; clear n0_ n1_ n2_ n3_; clear hb hbox hg; have hcz6_0 : w5.cell? ⟨gb283, 0, none⟩ = some (.int .i8 a0_0) := (blk_cell BK283.out 0).trans rfl; have hcz6_1 : w5.cell? ⟨gb283, 1, none⟩ = some (.slice A0_1 l0_1.length c0_1) := (blk_cell BK283.out 1).trans rfl; have hfz6_0 := blk_frozen BK283.out 0; have hfz6_1 := blk_frozen BK283.out 1))
    go_loopg [3] k (fun kq v3 w' => ∃ (x3_1 : Int), v3 = .int .i64 x3_1 ∧ Aside0 (lychgateref02_open.l0 kq x3_1 a0_0 l0_1 = some r) ∧ Aside0 (kq ≤ k) ∧ Aside0 (w'.heap[gb283]? = some (.cells #[.int .i8 a0_0, (.slice A0_1 l0_1.length c0_1)] 26 (0, 0))) ∧ Aside0 (Below w.heap.size w w'))
    case atStart => exact ⟨(0), (by first | rfl | (simp; done) | (simp [*]; done)), H', ⟨Nat.le_refl _⟩, ⟨by (with_reducible repeat (first | refine blk_drewN ?_ _ | refine blk_drew ?_ | refine blk_alloc ?_ _)); exact BK283.out⟩, ⟨by repeat (first | (with_reducible first | exact HB.out | apply below_alloc | apply pw_below_drewN | apply below_drew1 | refine below_set ?_ GE283.out) | exact HB.out)⟩⟩
    case round =>
      clear H'
      try clear c2
      try clear c2b0
      try clear c2b1
      try clear p2
      try clear hcz4_0
      try clear hcz4_1
      try clear hcz6_0
      try clear hcz6_1
      try clear hfz4_0
      try clear hfz4_1
      try clear hfz6_0
      try clear hfz6_1
      obtain ⟨x3_1, rfl, HA, HK1, BK283, HB⟩ := hrel
      cases gk with
      | zero => exact absurd HA.out (by simp [lychgateref02_open.l0])
      | succ k1 =>
        have H := HA.out
        clear HA
        simp only [lychgateref02_open.l0] at H
        by_cases c7 : x3_1 < (l0_1.length : Int)
        · rw [if_pos c7] at H
          have c7b0 : decide (x3_1 < (l0_1.length : Int)) = true := decide_eq_true c7
          clear c7
          by_cases c8 : 0 ≤ x3_1
          · rw [if_pos c8] at H
            have c8b0 : decide (0 ≤ x3_1) = true := decide_eq_true c8
            clear c8
            replace H := Option.bind_eq_some_iff.mp H
            obtain ⟨t285, A90, H⟩ := H
            replace H : (if t285 = true then (some true) else (lychgateref02_open.l0 k1 (wrap64 (x3_1 + 1)) a0_0 l0_1)) = some r := H
            have A9 := Aside0.mk A90
            clear A90
            by_cases c10 : t285 = true
            · subst c10
              have H1 : (some true) = some r := by rw [if_pos rfl] at H; exact H
              clear H
              have H := H1
              clear H1
              obtain rfl := Option.some.inj H
              have hcz11_0 : wr.cell? ⟨gb283, 0, none⟩ = some (.int .i8 a0_0) := (blk_cell BK283.out 0).trans rfl
              have hcz11_1 : wr.cell? ⟨gb283, 1, none⟩ = some (.slice A0_1 l0_1.length c0_1) := (blk_cell BK283.out 1).trans rfl
              have hfz11_0 := blk_frozen BK283.out 0
              have hfz11_1 := blk_frozen BK283.out 1
              have p284 : 0 ≤ (x3_1 : Int) := of_decide_eq_true (by first | (with_reducible assumption) | assumption)
              have q284 : x3_1 < (l0_1.length : Int) := of_decide_eq_true (by first | (with_reducible assumption) | assumption)
              obtain ⟨ad284, A284_1, c284_1, e284, hx284_0, hx284_1, hl284_1, hi284_1⟩ := at_T26 HR0_1.out x3_1 p284 q284
              cases e284
              replace hx284_0 := (HB.out.cell (World.block_lt_of_cell? w _ hx284_0)).trans hx284_0
              replace hx284_1 := (HB.out.cell (World.block_lt_of_cell? w _ hx284_1)).trans hx284_1
              have HR284_1 := Aside0.mk hi284_1
              have HC284_1 := Aside0.mk hl284_1
              clear hi284_1 hl284_1
              replace p284 := eq_true p284
              replace q284 := eq_true q284
              go_wp2_with (first | ((with_reducible refine gate_callee (f := 85) rfl ?_); refine goesL_ (some 20) rfl rfl Try.func85 (by kernel_rfl) rfl #[.agg #[.int .i8 ((rd_T26 l0_1 x3_1).f0), .slice A284_1 ((rd_T26 l0_1 x3_1).f1).length c284_1]] rfl (by (try simp only [List.map_toArray, List.map_cons, List.map_nil]); first | done | rfl | (simp only [List.length_drop, List.length_take]; rfl)) ?_; (with_reducible refine (ih k1 (by have := HK1.out; omega) ((rd_T26 l0_1 x3_1).f0) _ _ ((rd_T26 l0_1 x3_1).f1) true _ ?side1 ?side2 A9.out).mono ?_); (case side1 => repeat (first | exact (Kd.C_below HR284_1.out HB.out) | (with_reducible refine Kd.C_alloc ?_ _) | (with_reducible refine Kd.C_drewN ?_ _) | (with_reducible refine Kd.C_drew ?_))); (case side2 => exact HC284_1.out); rintro e w12 ⟨rfl, hb⟩; refine ⟨_, rfl, ?_⟩; have n0_ := Aside0.mk (blk_below (g := gb283) (o := .cells #[.int .i8 a0_0, .slice (some ad284) l0_1.length c0_1] 26 (0, 0)) (by (with_reducible repeat (first | refine blk_drewN ?_ _ | refine blk_drew ?_ | refine blk_alloc ?_ _)); exact BK283.out) hb); have n1_ := Aside0.mk (below_step (by repeat (first | (with_reducible first | exact HB.out | apply below_alloc | apply pw_below_drewN | apply below_drew1 | refine below_set ?_ GE283.out) | exact HB.out)) hb); clear BK283; clear HB; have BK283 := n0_; have HB := n1_; clear n0_ n1_; (try clear hb); (try clear hb2); (try clear hk); (try clear hi)))
              go_ret
              exact ⟨by first | rfl | (simp [errW_none, errW_some] <;> rfl) | (simp [*, errW_none, errW_some] <;> rfl), by repeat (first | (with_reducible first | exact HB.out | apply below_alloc | apply pw_below_drewN | apply below_drew1 | refine below_set ?_ GE283.out) | exact HB.out)⟩
            · replace c10 := Bool.eq_false_iff.mpr c10
              subst c10
              have H1 : (lychgateref02_open.l0 k1 (wrap64 (x3_1 + 1)) a0_0 l0_1) = some r := by rw [if_neg (show ¬ (false = true) by decide)] at H; exact H
              clear H
              have H := H1
              clear H1
              have H' := Aside0.mk H
              clear H
              have hcz13_0 : wr.cell? ⟨gb283, 0, none⟩ = some (.int .i8 a0_0) := (blk_cell BK283.out 0).trans rfl
              have hcz13_1 : wr.cell? ⟨gb283, 1, none⟩ = some (.slice A0_1 l0_1.length c0_1) := (blk_cell BK283.out 1).trans rfl
              have hfz13_0 := blk_frozen BK283.out 0
              have hfz13_1 := blk_frozen BK283.out 1
              have p284 : 0 ≤ (x3_1 : Int) := of_decide_eq_true (by first | (with_reducible assumption) | assumption)
              have q284 : x3_1 < (l0_1.length : Int) := of_decide_eq_true (by first | (with_reducible assumption) | assumption)
              obtain ⟨ad284, A284_1, c284_1, e284, hx284_0, hx284_1, hl284_1, hi284_1⟩ := at_T26 HR0_1.out x3_1 p284 q284
              cases e284
              replace hx284_0 := (HB.out.cell (World.block_lt_of_cell? w _ hx284_0)).trans hx284_0
              replace hx284_1 := (HB.out.cell (World.block_lt_of_cell? w _ hx284_1)).trans hx284_1
              have HR284_1 := Aside0.mk hi284_1
              have HC284_1 := Aside0.mk hl284_1
              clear hi284_1 hl284_1
              replace p284 := eq_true p284
              replace q284 := eq_true q284
              go_wp2_with (first | ((with_reducible refine gate_callee (f := 85) rfl ?_); refine goesL_ (some 20) rfl rfl Try.func85 (by kernel_rfl) rfl #[.agg #[.int .i8 ((rd_T26 l0_1 x3_1).f0), .slice A284_1 ((rd_T26 l0_1 x3_1).f1).length c284_1]] rfl (by (try simp only [List.map_toArray, List.map_cons, List.map_nil]); first | done | rfl | (simp only [List.length_drop, List.length_take]; rfl)) ?_; (with_reducible refine (ih k1 (by have := HK1.out; omega) ((rd_T26 l0_1 x3_1).f0) _ _ ((rd_T26 l0_1 x3_1).f1) false _ ?side1 ?side2 A9.out).mono ?_); (case side1 => repeat (first | exact (Kd.C_below HR284_1.out HB.out) | (with_reducible refine Kd.C_alloc ?_ _) | (with_reducible refine Kd.C_drewN ?_ _) | (with_reducible refine Kd.C_drew ?_))); (case side2 => exact HC284_1.out); rintro e w14 ⟨rfl, hb⟩; refine ⟨_, rfl, ?_⟩; have n0_ := Aside0.mk (blk_below (g := gb283) (o := .cells #[.int .i8 a0_0, .slice (some ad284) l0_1.length c0_1] 26 (0, 0)) (by (with_reducible repeat (first | refine blk_drewN ?_ _ | refine blk_drew ?_ | refine blk_alloc ?_ _)); exact BK283.out) hb); have n1_ := Aside0.mk (below_step (by repeat (first | (with_reducible first | exact HB.out | apply below_alloc | apply pw_below_drewN | apply below_drew1 | refine below_set ?_ GE283.out) | exact HB.out)) hb); clear BK283; clear HB; have BK283 := n0_; have HB := n1_; clear n0_ n1_; (try clear hb); (try clear hb2); (try clear hk); (try clear hi)))
              go_roundg k1
              case measure => have := HK1.out; omega
              case rel => exact ⟨(wrap64 (x3_1 + 1)), (by first | rfl | (simp; done) | (simp [*]; done)), H', ⟨by have := HK1.out; omega⟩, ⟨by (with_reducible repeat (first | refine blk_drewN ?_ _ | refine blk_drew ?_ | refine blk_alloc ?_ _)); exact BK283.out⟩, ⟨by repeat (first | (with_reducible first | exact HB.out | apply below_alloc | apply pw_below_drewN | apply below_drew1 | refine below_set ?_ GE283.out) | exact HB.out)⟩⟩
          · rw [if_neg c8] at H
            exact absurd H (by simp)
        · rw [if_neg c7] at H
          have c7b0 : decide (x3_1 < (l0_1.length : Int)) = false := decide_eq_false c7
          clear c7
          obtain rfl := Option.some.inj H
          have hcz15_0 : wr.cell? ⟨gb283, 0, none⟩ = some (.int .i8 a0_0) := (blk_cell BK283.out 0).trans rfl
          have hcz15_1 : wr.cell? ⟨gb283, 1, none⟩ = some (.slice A0_1 l0_1.length c0_1) := (blk_cell BK283.out 1).trans rfl
          have hfz15_0 := blk_frozen BK283.out 0
          have hfz15_1 := blk_frozen BK283.out 1
          go_wp2
          go_ret
          exact ⟨by first | rfl | (simp [errW_none, errW_some] <;> rfl) | (simp [*, errW_none, errW_some] <;> rfl), by repeat (first | (with_reducible first | exact HB.out | apply below_alloc | apply pw_below_drewN | apply below_drew1 | refine below_set ?_ GE283.out) | exact HB.out)⟩

/-! ### lychgateref02_Known: function 50 -/
def lychgateref02_Known.f (k : Nat) (a0_0 : Int) (l0_1 : List (S26)) : Option (Bool) := (lychgateref02_Check.f k a0_0 l0_1).bind fun t287 => (if t287 = 0 then ((lychgateref02_open.f k a0_0 l0_1).bind fun t288 => (some (!t288))) else (some false))
theorem lychgateref02_Known.mono : ∀ a0 a1 k, LeO (lychgateref02_Known.f k a0 a1) (lychgateref02_Known.f (k + 1) a0 a1) := by
  intro a0 a1 k
  unfold lychgateref02_Known.f
  repeat' first
      | (with_reducible exact lychgateref02_Check.mono _ _ _)
      | (with_reducible exact lychgateref02_open.mono _ _ _)
      | (with_reducible exact LeO.refl _)
      | (with_reducible exact LeO.none _)
      | (with_reducible refine LeO.ite ?_ ?_)
      | (with_reducible refine LeO.bind ?_ (fun _ => ?_))
      | exact lychgateref02_Check.mono _ _ _
      | exact lychgateref02_open.mono _ _ _
      | exact LeO.none _
      | refine LeO.ite ?_ ?_
      | refine LeO.bind ?_ (fun _ => ?_)
set_option maxHeartbeats 8000000 in
set_option maxRecDepth 100000 in
theorem lychgateref02_Known.calls (k : Nat) (a0_0 : Int) (A0_1 : Option Addr) (c0_1 : Nat) (l0_1 : List (S26)) (r : Bool) (w : World) (hr0_1 : Kd.C k26 w A0_1 l0_1.length l0_1) (hc0_1 : l0_1.length ≤ c0_1) (h : lychgateref02_Known.f k a0_0 l0_1 = some r) :
    Calls Try.prog 50 #[.agg #[.int .i8 a0_0, .slice A0_1 l0_1.length c0_1]] w fun e w' => e = .returned (.bool r) ∧ Below w.heap.size w w' := by
  have hu26 := Try.underlying26
  have HR0_1 := Aside0.mk hr0_1
  have HC0_1 := Aside0.mk hc0_1
  clear hr0_1 hc0_1
  have HB := Aside0.mk (Below.refl w.heap.size w)
  have H : ((lychgateref02_Check.f k a0_0 l0_1).bind fun t287 => (if t287 = 0 then ((lychgateref02_open.f k a0_0 l0_1).bind fun t288 => (some (!t288))) else (some false))) = some r := h
  clear h
  replace H := Option.bind_eq_some_iff.mp H
  obtain ⟨t287, A20, H⟩ := H
  replace H : (if t287 = 0 then ((lychgateref02_open.f k a0_0 l0_1).bind fun t288 => (some (!t288))) else (some false)) = some r := H
  have A2 := Aside0.mk A20
  clear A20
  by_cases c3 : t287 = 0
  · rw [if_pos c3] at H
    have c3b0 : (t287 == 0) = true := beq_iff_eq.mpr c3
    have c3b1 : (t287 != 0) = false := bne_eq_false_iff_eq.mpr c3
    clear c3
    replace H := Option.bind_eq_some_iff.mp H
    obtain ⟨t288, A40, H⟩ := H
    replace H : (some (!t288)) = some r := H
    have A4 := Aside0.mk A40
    clear A40
    obtain rfl := Option.some.inj H
    go_enter Try.func50, Try.ntmps50
    go_wp2_with (first | ((with_reducible refine gate_dst (N := 1) rfl ?_); refine box_event ?hg (N := 1) ?hd (cs := #[.int .i8 a0_0, .slice A0_1 l0_1.length c0_1]) (t := 26) ?hr ?_; (case hd => rfl); (case hg => rfl); (case hr => first | (go_simp; done) | (go_simp; rfl)); intro gb286 hg w5 hbox hb; have n0_ := Aside0.mk (below_step (by repeat (first | (with_reducible first | exact HB.out | apply below_alloc | apply pw_below_drewN | apply below_drew1) | exact HB.out)) hb); have n1_ := Aside0.mk (hbox); have n2_ := Aside0.mk ((by rw [hg]; exact (below_size (by repeat (first | (with_reducible first | exact HB.out | apply below_alloc | apply pw_below_drewN | apply below_drew1) | exact HB.out))) : w.heap.size ≤ gb286)); have n3_ := Aside0.mk ((by rw [hg]; exact (below_size (by repeat (first | (with_reducible first | exact HB.out | apply below_alloc | apply pw_below_drewN | apply below_drew1) | exact HB.out))) : w.heap.size ≤ gb286)); clear HB; have HB := n0_; have BK286 := n1_; have GW286 := n2_; have GE286 := n3_; clear n0_ n1_ n2_ n3_; clear hb hbox hg; have hcz6_0 : w5.cell? ⟨gb286, 0, none⟩ = some (.int .i8 a0_0) := (blk_cell BK286.out 0).trans rfl; have hcz6_1 : w5.cell? ⟨gb286, 1, none⟩ = some (.slice A0_1 l0_1.length c0_1) := (blk_cell BK286.out 1).trans rfl; have hfz6_0 := blk_frozen BK286.out 0; have hfz6_1 := blk_frozen BK286.out 1) | ((with_reducible refine gate_callee (f := 45) rfl ?_); refine goesL_ (some 4) rfl rfl Try.func45 (by kernel_rfl) rfl #[.agg #[.int .i8 a0_0, .slice A0_1 l0_1.length c0_1]] rfl (by (try simp only [List.map_toArray, List.map_cons, List.map_nil]); first | done | rfl | (simp only [List.length_drop, List.length_take]; rfl)) ?_; (with_reducible refine (lychgateref02_Check.calls k a0_0 _ _ l0_1 t287 _ ?side1 ?side2 A2.out).mono ?_); (case side1 => repeat (first | exact (Kd.C_below HR0_1.out HB.out) | (with_reducible refine Kd.C_alloc ?_ _) | (with_reducible refine Kd.C_drewN ?_ _) | (with_reducible refine Kd.C_drew ?_))); (case side2 => exact HC0_1.out); rintro e w7 ⟨rfl, hb⟩; refine ⟨_, rfl, ?_⟩; have n0_ := Aside0.mk (blk_below (g := gb286) (o := .cells #[.int .i8 a0_0, .slice A0_1 l0_1.length c0_1] 26 (0, 0)) (by (with_reducible repeat (first | refine blk_drewN ?_ _ | refine blk_drew ?_ | refine blk_alloc ?_ _)); exact BK286.out) hb); have n1_ := Aside0.mk (below_step (by repeat (first | (with_reducible first | exact HB.out | apply below_alloc | apply pw_below_drewN | apply below_drew1 | refine below_set ?_ GE286.out) | exact HB.out)) hb); clear BK286; clear HB; have BK286 := n0_; have HB := n1_; clear n0_ n1_; (try clear hb); (try clear hb2); (try clear hk); (try clear hi); have hcz8_0 : w7.cell? ⟨gb286, 0, none⟩ = some (.int .i8 a0_0) := (blk_cell BK286.out 0).trans rfl; have hcz8_1 : w7.cell? ⟨gb286, 1, none⟩ = some (.slice A0_1 l0_1.length c0_1) := (blk_cell BK286.out 1).trans rfl; have hfz8_0 := blk_frozen BK286.out 0; have hfz8_1 := blk_frozen BK286.out 1) | (go_at_call 85; (with_reducible refine (lychgateref02_open.calls k a0_0 _ _ l0_1 t288 _ ?side1 ?side2 A4.out).mono ?_); (case side1 => repeat (first | exact (Kd.C_below HR0_1.out HB.out) | (with_reducible refine Kd.C_alloc ?_ _) | (with_reducible refine Kd.C_drewN ?_ _) | (with_reducible refine Kd.C_drew ?_))); (case side2 => exact HC0_1.out); rintro e w9 ⟨rfl, hb⟩; have n0_ := Aside0.mk (blk_below (g := gb286) (o := .cells #[.int .i8 a0_0, .slice A0_1 l0_1.length c0_1] 26 (0, 0)) (by (with_reducible repeat (first | refine blk_drewN ?_ _ | refine blk_drew ?_ | refine blk_alloc ?_ _)); exact BK286.out) hb); have n1_ := Aside0.mk (below_step (by repeat (first | (with_reducible first | exact HB.out | apply below_alloc | apply pw_below_drewN | apply below_drew1 | refine below_set ?_ GE286.out) | exact HB.out)) hb); clear BK286; clear HB; have BK286 := n0_; have HB := n1_; clear n0_ n1_; (try clear hb); (try clear hb2); (try clear hk); (try clear hi)))
    go_ret
    exact ⟨by first | rfl | (simp [errW_none, errW_some] <;> rfl) | (simp [*, errW_none, errW_some] <;> rfl), by repeat (first | (with_reducible first | exact HB.out | apply below_alloc | apply pw_below_drewN | apply below_drew1 | refine below_set ?_ GE286.out) | exact HB.out)⟩
  · rw [if_neg c3] at H
    have c3b0 : (t287 == 0) = false := beq_eq_false_iff_ne.mpr c3
    have c3b1 : (t287 != 0) = true := bne_iff_ne.mpr c3
    obtain rfl := Option.some.inj H
    go_enter Try.func50, Try.ntmps50
    go_wp2_with (first | ((with_reducible refine gate_dst (N := 1) rfl ?_); refine box_event ?hg (N := 1) ?hd (cs := #[.int .i8 a0_0, .slice A0_1 l0_1.length c0_1]) (t := 26) ?hr ?_; (case hd => rfl); (case hg => rfl); (case hr => first | (go_simp; done) | (go_simp; rfl)); intro gb286 hg w10 hbox hb; have n0_ := Aside0.mk (below_step (by repeat (first | (with_reducible first | exact HB.out | apply below_alloc | apply pw_below_drewN | apply below_drew1) | exact HB.out)) hb); have n1_ := Aside0.mk (hbox); have n2_ := Aside0.mk ((by rw [hg]; exact (below_size (by repeat (first | (with_reducible first | exact HB.out | apply below_alloc | apply pw_below_drewN | apply below_drew1) | exact HB.out))) : w.heap.size ≤ gb286)); have n3_ := Aside0.mk ((by rw [hg]; exact (below_size (by repeat (first | (with_reducible first | exact HB.out | apply below_alloc | apply pw_below_drewN | apply below_drew1) | exact HB.out))) : w.heap.size ≤ gb286)); clear HB; have HB := n0_; have BK286 := n1_; have GW286 := n2_; have GE286 := n3_; clear n0_ n1_ n2_ n3_; clear hb hbox hg; have hcz11_0 : w10.cell? ⟨gb286, 0, none⟩ = some (.int .i8 a0_0) := (blk_cell BK286.out 0).trans rfl; have hcz11_1 : w10.cell? ⟨gb286, 1, none⟩ = some (.slice A0_1 l0_1.length c0_1) := (blk_cell BK286.out 1).trans rfl; have hfz11_0 := blk_frozen BK286.out 0; have hfz11_1 := blk_frozen BK286.out 1) | ((with_reducible refine gate_callee (f := 45) rfl ?_); refine goesL_ (some 4) rfl rfl Try.func45 (by kernel_rfl) rfl #[.agg #[.int .i8 a0_0, .slice A0_1 l0_1.length c0_1]] rfl (by (try simp only [List.map_toArray, List.map_cons, List.map_nil]); first | done | rfl | (simp only [List.length_drop, List.length_take]; rfl)) ?_; (with_reducible refine (lychgateref02_Check.calls k a0_0 _ _ l0_1 t287 _ ?side1 ?side2 A2.out).mono ?_); (case side1 => repeat (first | exact (Kd.C_below HR0_1.out HB.out) | (with_reducible refine Kd.C_alloc ?_ _) | (with_reducible refine Kd.C_drewN ?_ _) | (with_reducible refine Kd.C_drew ?_))); (case side2 => exact HC0_1.out); rintro e w12 ⟨rfl, hb⟩; refine ⟨_, rfl, ?_⟩; have n0_ := Aside0.mk (blk_below (g := gb286) (o := .cells #[.int .i8 a0_0, .slice A0_1 l0_1.length c0_1] 26 (0, 0)) (by (with_reducible repeat (first | refine blk_drewN ?_ _ | refine blk_drew ?_ | refine blk_alloc ?_ _)); exact BK286.out) hb); have n1_ := Aside0.mk (below_step (by repeat (first | (with_reducible first | exact HB.out | apply below_alloc | apply pw_below_drewN | apply below_drew1 | refine below_set ?_ GE286.out) | exact HB.out)) hb); clear BK286; clear HB; have BK286 := n0_; have HB := n1_; clear n0_ n1_; (try clear hb); (try clear hb2); (try clear hk); (try clear hi)))
    go_ret
    exact ⟨by first | rfl | (simp [errW_none, errW_some] <;> rfl) | (simp [*, errW_none, errW_some] <;> rfl), by repeat (first | (with_reducible first | exact HB.out | apply below_alloc | apply pw_below_drewN | apply below_drew1 | refine below_set ?_ GE286.out) | exact HB.out)⟩

-- NOT PRINTED: function 52 (lychgatelaw02_SpoilType)

-- left out: function 53 (lychgatelaw02_wakes)

-- NOT PRINTED: function 10 (lychgatelaw02_TypesTells)

end Go.Proofs.Ytamhdpllmhafhaa.X
/- Hand texts of round 1, parted: HRefKnown. -/
namespace Go.Proofs.Ytamhdpllmhafhaa.X
open Go.RowKit Go.Proofs.YtamhdpllmhafhaaW.PrintWords Go.Proofs.YtamhdpllmhafhaaW.PrintLast Go.Proofs.YtamhdpllmhafhaaW.PrintMore
set_option linter.unusedVariables false
set_option linter.unusedSimpArgs false

theorem refopen_ev (n : Nat) : ∀ (k : Int) (l : List S26), nodesL l < n → nodesL l ≤ 8192 → Ev (fun f => lychgateref02_open.f f k l) (!closedB ⟨k, l⟩) := by
  induction n with
  | zero => intro k l h; omega
  | succ n ih =>
  intro k l hn h8
  have hlen := length_le_nodesL l
  have loop : ∀ (d i : Nat), i ≤ l.length → l.length - i = d → Ev (fun f => lychgateref02_open.l0 f (i : Int) k l) (!closedL (l.drop i)) := by
    intro d
    induction d with
    | zero =>
      intro i hi hd
      refine Ev.step (f := fun _ => some false) (fun f => by simp only [lychgateref02_open.l0]; rw [if_neg (by omega)]) (Ev_eq (Ev.now _) ?_)
      rw [List.drop_eq_nil_of_le (by omega), closedL]
      rfl
    | succ d ihd =>
      intro i hi hd
      have hlt : i < l.length := by omega
      have hr := nodesL_rd l i hlt
      have e1 := ih (rd_T26 l i).f0 (rd_T26 l i).f1 (by omega) (by omega)
      rw [S26.eta] at e1
      refine Ev.step (f := fun f => (lychgateref02_open.f f (rd_T26 l i).f0 (rd_T26 l i).f1).bind fun t => if t = true then some true else lychgateref02_open.l0 f ((i + 1 : Nat) : Int) k l) (fun f => ?_) (Ev.bind e1 ?_)
      · simp only [lychgateref02_open.l0]
        rw [if_pos (by omega), if_pos (by omega), w64 ((i : Int) + 1) (by omega) (by omega)]
        rfl
      · rw [closedL_drop l i hlt]
        cases closedB (rd_T26 l i) with
        | true => simpa using ihd (i + 1) (by omega) (by omega)
        | false => simpa using Ev.now _
  rw [closedB]
  by_cases hk : k = 0
  · exact Ev.step (f := fun _ => some true) (fun f => by simp only [lychgateref02_open.f]; rw [if_pos hk]) (Ev_eq (Ev.now _) (by simp [hk]))
  · refine Ev.step (f := fun f => lychgateref02_open.l0 f 0 k l) (fun f => by simp only [lychgateref02_open.f]; rw [if_neg hk]) (Ev_eq (loop l.length 0 (by omega) rfl) ?_)
    simp [hk]
theorem refKnown_ev (t : S26) : Ev (fun f => lychgateref02_Known.f f t.f0 t.f1) (knownB t) := by
  unfold lychgateref02_Known.f knownB
  refine Ev.bind (Ev_eq (refCheck_ev t.f0 t.f1) (by rw [S26.eta])) ?_
  by_cases h1 : checkI t = 0
  · simp only [h1, if_true, decide_true, Bool.true_and]
    have := (check_nodes h1).1
    rw [nodes_eq] at this
    exact Ev_eq (Ev.bind (refopen_ev (nodesL t.f1 + 1) t.f0 t.f1 (by omega) (by omega)) (Ev.now _)) (by rw [S26.eta]; simp)
  · simpa [h1] using Ev.now _

theorem refKnown_calls {t : S26} {v : Value} {w : World} (h : IsT w v t) : Calls Try.prog 50 #[v] w fun e w' => e = .returned (.bool (knownB t)) ∧ Below w.heap.size w w' := by
  obtain ⟨A, c, rfl, h1, h2⟩ := h
  obtain ⟨k, hk⟩ := (refKnown_ev t).rounds
  exact lychgateref02_Known.calls k t.f0 A c t.f1 _ w h2 h1 hk
end Go.Proofs.Ytamhdpllmhafhaa.X
/- The walk of the law TypesTells: any type: check, measure, ground, text; it stays as it was. -/
namespace Go.Proofs.Ytamhdpllmhafhaa.X
open Go.RowKit Go.Proofs.YtamhdpllmhafhaaW.PrintWords Go.Proofs.YtamhdpllmhafhaaW.PrintLast Go.Proofs.YtamhdpllmhafhaaW.PrintMore
set_option linter.unusedVariables false
set_option linter.unusedSimpArgs false

theorem ground_shape (a : S26) : (groundT a).1.f1 = [] ∨ (groundT a).1.f1 = [z26, z26] := by
  unfold groundT
  split
  · split
    · exact .inl rfl
    · exact .inr rfl
  · exact .inl rfl
/-- types.Ground, with what it has made. -/
theorem GroundR_calls {t : S26} {v : Value} {w : World} (h : IsT w v t) : Calls Try.prog 41 #[v] w fun e w' => ∃ v1, e = .returned (.tuple #[.agg #[.int .i8 (groundT t).1.f0, v1], .bool (groundT t).2]) ∧ k26.R 26 w' w.heap.size (fun _ => True) v1 (groundT t).1.f1 ∧ Below w.heap.size w w' := by
  obtain ⟨A, c, rfl, h1, h2⟩ := h
  obtain ⟨k, hk⟩ := (Ground_ev t).rounds
  exact types_Ground.calls k t.f0 A c t.f1 _ _ _ w h2 h1 hk
theorem refText_tx {t : S26} {v : Value} {w : World} {tx : ByteArray} (HTX : textS t = tx) (h : IsT w v t) : Calls Try.prog 44 #[v] w fun e w' => e = .returned (.tuple #[.string tx, .int .i64 (checkI t)]) ∧ Below w.heap.size w w' := by
  subst HTX
  exact refText_calls h
set_option maxRecDepth 100000 in
set_option maxHeartbeats 3200000 in
theorem tells_no (a g : S26) (okb : Bool) (w : World) (A : Option Addr) (ca : Nat) (T0 : Aside0 (IsT w (.agg #[.int .i8 a.f0, .slice A a.f1.length ca]) a)) (GA : Aside0 (groundT a = (g, okb))) (GL : Aside0 (g.f1 = [] ∨ g.f1 = [z26, z26])) (SM : Aside0 (smallB a = false)) (LA : Aside0 (likeB a a = true)) (LG : Aside0 (likeB g g = true)) (tx : ByteArray) (HTX : Aside0 (textS a = tx)) :
    Calls Try.prog 10 #[.agg #[.int .i8 a.f0, .slice A a.f1.length ca]] w fun e w' => e = .returned (.bool true) ∧ Below w.heap.size w w' := by
  go_enter Try.func10, Try.ntmps10
  go_wp2_with fail
  refine (Ground_calls (T0.out.below (below1 ..))).mono ?_
  rw [GA.out]
  rintro e w1 ⟨vv, rfl, ht, hB⟩
  obtain ⟨A3, c3, rfl, hl, hc⟩ := ht
  have T3 := Aside0.mk (IsT.mk (k := g.f0) hl hc)
  rw [S26.eta] at T3
  obtain ⟨k1, hB1⟩ := one_block hB
  have K1 := Aside0.mk k1
  have HB := Aside0.mk hB1
  replace T0 := Aside0.mk (IsT.below T0.out hB1)
  clear hB hB1 k1 hl hc
  obtain ⟨e0, e1⟩ := c26_of K1.out (Below.refl _ _)
  have q := blk_lt K1.out
  go_wp2_with fail
  have hB := below1 w1 #[.int .i8 g.f0, .slice A3 g.f1.length c3] 26
  have K3 := Aside0.mk (heap_alloc_new w1 (.cells #[.int .i8 g.f0, .slice A3 g.f1.length c3] 26))
  replace K1 := Aside0.mk (blk_below K1.out hB)
  replace T0 := Aside0.mk (IsT.below T0.out hB)
  replace T3 := Aside0.mk (IsT.below T3.out hB)
  replace HB := Aside0.mk (below_then HB.out HB.out.size hB)
  clear hB
  clear e0 e1 q
  refine (refGround_calls T0.out).mono ?_
  rw [GA.out]
  rintro e w2 ⟨vv, rfl, ht, hB⟩
  obtain ⟨A5, c5, rfl, hl, hc⟩ := ht
  have T5 := Aside0.mk (IsT.mk (k := g.f0) hl hc)
  rw [S26.eta] at T5
  replace K1 := Aside0.mk (blk_below K1.out hB)
  replace K3 := Aside0.mk (blk_below K3.out hB)
  replace T0 := Aside0.mk (IsT.below T0.out hB)
  replace T3 := Aside0.mk (IsT.below T3.out hB)
  replace HB := Aside0.mk (below_then HB.out HB.out.size hB)
  clear hB
  clear hl hc
  generalize w1.heap.size = n3 at *
  obtain ⟨e0, e1⟩ := c26_of K1.out (Below.refl _ _)
  have q := blk_lt K1.out
  go_wp2_with fail
  have hB := below1 w2 #[.int .i8 g.f0, .slice A5 g.f1.length c5] 26
  have K5 := Aside0.mk (heap_alloc_new w2 (.cells #[.int .i8 g.f0, .slice A5 g.f1.length c5] 26))
  replace K1 := Aside0.mk (blk_below K1.out hB)
  replace K3 := Aside0.mk (blk_below K3.out hB)
  replace T0 := Aside0.mk (IsT.below T0.out hB)
  replace T3 := Aside0.mk (IsT.below T3.out hB)
  replace T5 := Aside0.mk (IsT.below T5.out hB)
  replace HB := Aside0.mk (below_then HB.out HB.out.size hB)
  clear hB
  clear e0 e1 q
  refine (Text_calls T0.out).mono ?_
  unfold TPost
  rw [HTX.out]
  rintro e w3 ⟨rfl, hB⟩
  replace K1 := Aside0.mk (blk_below K1.out hB)
  replace K3 := Aside0.mk (blk_below K3.out hB)
  replace K5 := Aside0.mk (blk_below K5.out hB)
  replace T0 := Aside0.mk (IsT.below T0.out hB)
  replace T3 := Aside0.mk (IsT.below T3.out hB)
  replace T5 := Aside0.mk (IsT.below T5.out hB)
  replace HB := Aside0.mk (below_then HB.out HB.out.size hB)
  clear hB
  generalize w2.heap.size = n5 at *
  obtain ⟨e0, e1⟩ := c26_of K1.out (Below.refl _ _)
  have q := blk_lt K1.out
  go_wp2_with fail
  clear e0 e1 q
  refine (refText_tx (HTX := HTX.out) T0.out).mono ?_
  rintro e w4 ⟨rfl, hB⟩
  replace K1 := Aside0.mk (blk_below K1.out hB)
  replace K3 := Aside0.mk (blk_below K3.out hB)
  replace K5 := Aside0.mk (blk_below K5.out hB)
  replace T0 := Aside0.mk (IsT.below T0.out hB)
  replace T3 := Aside0.mk (IsT.below T3.out hB)
  replace T5 := Aside0.mk (IsT.below T5.out hB)
  replace HB := Aside0.mk (below_then HB.out HB.out.size hB)
  clear hB
  go_wp2_with fail
  have OK := Aside0.mk (fun w' (h : Below w4.heap.size w4 w') => c26_of K1.out h)
  have HBW := Aside0.mk (Below.refl w4.heap.size w4)
  refine wp_region_held_drew (S := (fun w' => (w'.cell? ⟨w.heap.size, 0, none⟩ = some (.int .i8 a.f0) ∧ w'.cell? ⟨w.heap.size, 1, none⟩ = some (.slice A a.f1.length ca)))) (by kernel_rfl) (OK.out _ HBW.out.drew) (fun hHeld => ?_)
  refine takeH (d := some 37) (v := ?_) 0 rfl rfl (by kernel_rfl) (by kernel_rfl) (by kernel_rfl) (fun _ _ _ h => h) (by rfl) ?_ hHeld ?_
  rotate_left
  · intro w hSw
    try dsimp only at hSw
    go_simp <;> with_reducible rfl
  try simp only [Act.put, List.setIfInBounds_toArray, List.set_cons_zero, List.set_cons_succ]
  refine takeH (d := some 39) (v := ?_) 2 rfl rfl (by kernel_rfl) (by kernel_rfl) (by kernel_rfl) (fun _ _ _ h => h) (by rfl) ?_ hHeld ?_
  rotate_left
  · intro w hSw
    try dsimp only at hSw
    go_simp <;> with_reducible rfl
  try simp only [Act.put, List.setIfInBounds_toArray, List.set_cons_zero, List.set_cons_succ]
  refine callH (d := some 38) 1 rfl rfl (by kernel_rfl) (by rfl) (by kernel_rfl) (Check_calls ((T0).out.below HBW.out.drew)) ?_
  rintro e v1 ⟨rfl, hB⟩
  have H1 := Aside0.mk (below_then HBW.out.drew (HBW.out.drew).size hB)
  clear hB
  refine ⟨_, rfl, OK.out _ H1.out, fun hHeld => ?_⟩
  try simp only [Act.put, List.setIfInBounds_toArray, List.set_cons_zero, List.set_cons_succ]
  refine callH (d := some 40) 3 rfl rfl (by kernel_rfl) (by rfl) (by kernel_rfl) (refCheck2_calls ((T0).out.below H1.out)) ?_
  rintro e v2 ⟨rfl, hB⟩
  have H2 := Aside0.mk (below_then H1.out (H1.out).size hB)
  clear hB
  refine ⟨_, rfl, OK.out _ H2.out, fun hHeld => ?_⟩
  try simp only [Act.put, List.setIfInBounds_toArray, List.set_cons_zero, List.set_cons_succ]
  refine takeH (d := some 41) (v := ?_) 4 rfl rfl (by kernel_rfl) (by kernel_rfl) (by kernel_rfl) (fun _ _ _ h => h) (by rfl) ?_ hHeld ?_
  rotate_left
  · intro w hSw
    try dsimp only at hSw
    go_simp <;> with_reducible rfl
  try simp only [Act.put, List.setIfInBounds_toArray, List.set_cons_zero, List.set_cons_succ]
  refine takeH (d := some 42) (v := ?_) 5 rfl rfl (by kernel_rfl) (by kernel_rfl) (by kernel_rfl) (fun _ _ _ h => h) (by rfl) ?_ hHeld ?_
  rotate_left
  · intro w hSw
    try dsimp only at hSw
    go_simp <;> with_reducible rfl
  try simp only [Act.put, List.setIfInBounds_toArray, List.set_cons_zero, List.set_cons_succ]
  refine takeH (d := some 43) (v := ?_) 6 rfl rfl (by kernel_rfl) (by kernel_rfl) (by kernel_rfl) (fun _ _ _ h => h) (by rfl) ?_ hHeld ?_
  rotate_left
  · intro w hSw
    try dsimp only at hSw
    go_simp <;> with_reducible rfl
  try simp only [Act.put, List.setIfInBounds_toArray, List.set_cons_zero, List.set_cons_succ]
  refine takeH (d := some 45) (v := ?_) 8 rfl rfl (by kernel_rfl) (by kernel_rfl) (by kernel_rfl) (fun _ _ _ h => h) (by rfl) ?_ hHeld ?_
  rotate_left
  · intro w hSw
    try dsimp only at hSw
    go_simp <;> with_reducible rfl
  try simp only [Act.put, List.setIfInBounds_toArray, List.set_cons_zero, List.set_cons_succ]
  refine callH (d := some 44) 7 rfl rfl (by kernel_rfl) (by rfl) (by kernel_rfl) (Nodes_calls ((T0).out.below H2.out)) ?_
  rintro e v3 ⟨rfl, hB⟩
  have H3 := Aside0.mk (below_then H2.out (H2.out).size hB)
  clear hB
  refine ⟨_, rfl, OK.out _ H3.out, fun hHeld => ?_⟩
  try simp only [Act.put, List.setIfInBounds_toArray, List.set_cons_zero, List.set_cons_succ]
  refine callH (d := some 46) 9 rfl rfl (by kernel_rfl) (by rfl) (by kernel_rfl) (refNodes_calls ((T0).out.below H3.out)) ?_
  rintro e v4 ⟨rfl, hB⟩
  have H4 := Aside0.mk (below_then H3.out (H3.out).size hB)
  clear hB
  refine ⟨_, rfl, OK.out _ H4.out, fun hHeld => ?_⟩
  try simp only [Act.put, List.setIfInBounds_toArray, List.set_cons_zero, List.set_cons_succ]
  refine takeH (d := some 47) (v := ?_) 10 rfl rfl (by kernel_rfl) (by kernel_rfl) (by kernel_rfl) (fun _ _ _ h => h) (by rfl) ?_ hHeld ?_
  rotate_left
  · intro w hSw
    try dsimp only at hSw
    go_simp <;> with_reducible rfl
  try simp only [Act.put, List.setIfInBounds_toArray, List.set_cons_zero, List.set_cons_succ]
  refine takeH (d := some 48) (v := ?_) 11 rfl rfl (by kernel_rfl) (by kernel_rfl) (by kernel_rfl) (fun _ _ _ h => h) (by rfl) ?_ hHeld ?_
  rotate_left
  · intro w hSw
    try dsimp only at hSw
    go_simp <;> with_reducible rfl
  try simp only [Act.put, List.setIfInBounds_toArray, List.set_cons_zero, List.set_cons_succ]
  refine takeH (d := some 49) (v := ?_) 12 rfl rfl (by kernel_rfl) (by kernel_rfl) (by kernel_rfl) (fun _ _ _ h => h) (by rfl) ?_ hHeld ?_
  rotate_left
  · intro w hSw
    try dsimp only at hSw
    go_simp <;> with_reducible rfl
  try simp only [Act.put, List.setIfInBounds_toArray, List.set_cons_zero, List.set_cons_succ]
  refine takeH (d := some 50) (v := ?_) 13 rfl rfl (by kernel_rfl) (by kernel_rfl) (by kernel_rfl) (fun _ _ _ h => h) (by rfl) ?_ hHeld ?_
  rotate_left
  · intro w hSw
    try dsimp only at hSw
    go_simp <;> with_reducible rfl
  try simp only [Act.put, List.setIfInBounds_toArray, List.set_cons_zero, List.set_cons_succ]
  refine takeH (d := some 52) (v := ?_) 15 rfl rfl (by kernel_rfl) (by kernel_rfl) (by kernel_rfl) (fun _ _ _ h => h) (by rfl) ?_ hHeld ?_
  rotate_left
  · intro w hSw
    try dsimp only at hSw
    go_simp <;> with_reducible rfl
  try simp only [Act.put, List.setIfInBounds_toArray, List.set_cons_zero, List.set_cons_succ]
  refine callH (d := some 51) 14 rfl rfl (by kernel_rfl) (by rfl) (by kernel_rfl) (Depth_calls ((T0).out.below H4.out)) ?_
  rintro e v5 ⟨rfl, hB⟩
  have H5 := Aside0.mk (below_then H4.out (H4.out).size hB)
  clear hB
  refine ⟨_, rfl, OK.out _ H5.out, fun hHeld => ?_⟩
  try simp only [Act.put, List.setIfInBounds_toArray, List.set_cons_zero, List.set_cons_succ]
  refine callH (d := some 53) 16 rfl rfl (by kernel_rfl) (by rfl) (by kernel_rfl) (refDepth_calls ((T0).out.below H5.out)) ?_
  rintro e v6 ⟨rfl, hB⟩
  have H6 := Aside0.mk (below_then H5.out (H5.out).size hB)
  clear hB
  refine ⟨_, rfl, OK.out _ H6.out, fun hHeld => ?_⟩
  try simp only [Act.put, List.setIfInBounds_toArray, List.set_cons_zero, List.set_cons_succ]
  refine takeH (d := some 54) (v := ?_) 17 rfl rfl (by kernel_rfl) (by kernel_rfl) (by kernel_rfl) (fun _ _ _ h => h) (by rfl) ?_ hHeld ?_
  rotate_left
  · intro w hSw
    try dsimp only at hSw
    go_simp <;> with_reducible rfl
  try simp only [Act.put, List.setIfInBounds_toArray, List.set_cons_zero, List.set_cons_succ]
  refine takeH (d := some 55) (v := ?_) 18 rfl rfl (by kernel_rfl) (by kernel_rfl) (by kernel_rfl) (fun _ _ _ h => h) (by rfl) ?_ hHeld ?_
  rotate_left
  · intro w hSw
    try dsimp only at hSw
    go_simp <;> with_reducible rfl
  try simp only [Act.put, List.setIfInBounds_toArray, List.set_cons_zero, List.set_cons_succ]
  refine takeH (d := some 56) (v := ?_) 19 rfl rfl (by kernel_rfl) (by kernel_rfl) (by kernel_rfl) (fun _ _ _ h => h) (by rfl) ?_ hHeld ?_
  rotate_left
  · intro w hSw
    try dsimp only at hSw
    go_simp <;> with_reducible rfl
  try simp only [Act.put, List.setIfInBounds_toArray, List.set_cons_zero, List.set_cons_succ]
  refine takeH (d := some 57) (v := ?_) 20 rfl rfl (by kernel_rfl) (by kernel_rfl) (by kernel_rfl) (fun _ _ _ h => h) (by rfl) ?_ hHeld ?_
  rotate_left
  · intro w hSw
    try dsimp only at hSw
    go_simp <;> with_reducible rfl
  try simp only [Act.put, List.setIfInBounds_toArray, List.set_cons_zero, List.set_cons_succ]
  refine takeH (d := some 59) (v := ?_) 22 rfl rfl (by kernel_rfl) (by kernel_rfl) (by kernel_rfl) (fun _ _ _ h => h) (by rfl) ?_ hHeld ?_
  rotate_left
  · intro w hSw
    try dsimp only at hSw
    go_simp <;> with_reducible rfl
  try simp only [Act.put, List.setIfInBounds_toArray, List.set_cons_zero, List.set_cons_succ]
  refine callH (d := some 58) 21 rfl rfl (by kernel_rfl) (by rfl) (by kernel_rfl) (Known_calls ((T0).out.below H6.out)) ?_
  rintro e v7 ⟨rfl, hB⟩
  have H7 := Aside0.mk (below_then H6.out (H6.out).size hB)
  clear hB
  refine ⟨_, rfl, OK.out _ H7.out, fun hHeld => ?_⟩
  try simp only [Act.put, List.setIfInBounds_toArray, List.set_cons_zero, List.set_cons_succ]
  refine callH (d := some 60) 23 rfl rfl (by kernel_rfl) (by rfl) (by kernel_rfl) (refKnown_calls ((T0).out.below H7.out)) ?_
  rintro e v8 ⟨rfl, hB⟩
  have H8 := Aside0.mk (below_then H7.out (H7.out).size hB)
  clear hB
  refine ⟨_, rfl, OK.out _ H8.out, fun hHeld => ?_⟩
  try simp only [Act.put, List.setIfInBounds_toArray, List.set_cons_zero, List.set_cons_succ]
  refine takeH (d := some 61) (v := ?_) 24 rfl rfl (by kernel_rfl) (by kernel_rfl) (by kernel_rfl) (fun _ _ _ h => h) (by rfl) ?_ hHeld ?_
  rotate_left
  · intro w hSw
    try dsimp only at hSw
    go_simp <;> with_reducible rfl
  try simp only [Act.put, List.setIfInBounds_toArray, List.set_cons_zero, List.set_cons_succ]
  refine takeH (d := some 62) (v := ?_) 25 rfl rfl (by kernel_rfl) (by kernel_rfl) (by kernel_rfl) (fun _ _ _ h => h) (by rfl) ?_ hHeld ?_
  rotate_left
  · intro w hSw
    try dsimp only at hSw
    go_simp <;> with_reducible rfl
  try simp only [Act.put, List.setIfInBounds_toArray, List.set_cons_zero, List.set_cons_succ]
  refine takeH (d := some 11) (v := ?_) 26 rfl rfl (by kernel_rfl) (by kernel_rfl) (by kernel_rfl) (fun _ _ _ h => h) (by rfl) ?_ hHeld ?_
  rotate_left
  · intro w hSw
    try dsimp only at hSw
    go_simp <;> with_reducible rfl
  try simp only [Act.put, List.setIfInBounds_toArray, List.set_cons_zero, List.set_cons_succ]
  refine wpAnyH_done (by kernel_rfl) ?_ _
  have hB := H8.out
  replace K1 := Aside0.mk (blk_below K1.out hB)
  replace K3 := Aside0.mk (blk_below K3.out hB)
  replace K5 := Aside0.mk (blk_below K5.out hB)
  replace T0 := Aside0.mk (IsT.below T0.out hB)
  replace T3 := Aside0.mk (IsT.below T3.out hB)
  replace T5 := Aside0.mk (IsT.below T5.out hB)
  replace HB := Aside0.mk (below_then HB.out HB.out.size hB)
  clear hB
  clear OK HBW H1 H2 H3 H4 H5 H6 H7 H8
  obtain ⟨e0, e1⟩ := c26_of K3.out (Below.refl _ _)
  have q := blk_lt K3.out
  obtain ⟨e2, e3⟩ := c26_of K5.out (Below.refl _ _)
  have q2 := blk_lt K5.out
  go_wp2_with fail
  clear e0 e1 e2 e3 q q2
  refine (LikeType_calls T3.out T5.out).mono ?_
  rw [LG.out]
  rintro e w5 ⟨rfl, hB⟩
  replace K1 := Aside0.mk (blk_below K1.out hB)
  replace K5 := Aside0.mk (blk_below K5.out hB)
  replace T0 := Aside0.mk (IsT.below T0.out hB)
  replace T5 := Aside0.mk (IsT.below T5.out hB)
  replace HB := Aside0.mk (below_then HB.out HB.out.size hB)
  clear hB
  obtain ⟨e0, e1⟩ := c26_of K1.out (Below.refl _ _)
  have q := blk_lt K1.out
  go_wp2_with fail
  clear e0 e1 q
  refine (Small_calls T0.out).mono ?_
  rw [SM.out]
  rintro e w6 ⟨rfl, hB⟩
  replace K1 := Aside0.mk (blk_below K1.out hB)
  replace K5 := Aside0.mk (blk_below K5.out hB)
  replace T0 := Aside0.mk (IsT.below T0.out hB)
  replace T5 := Aside0.mk (IsT.below T5.out hB)
  replace HB := Aside0.mk (below_then HB.out HB.out.size hB)
  clear hB
  go_wp2_with fail
  refine (wakes2_calls _).mono ?_
  rintro e we ⟨rfl, hB⟩
  replace HB := Aside0.mk (below_then HB.out HB.out.size hB)
  clear hB
  go_wp2_with fail
  go_ret
  exact ⟨rfl, HB.out⟩
set_option maxRecDepth 100000 in
set_option maxHeartbeats 3200000 in
theorem tells_yes (a g : S26) (okb : Bool) (w : World) (A : Option Addr) (ca : Nat) (T0 : Aside0 (IsT w (.agg #[.int .i8 a.f0, .slice A a.f1.length ca]) a)) (GA : Aside0 (groundT a = (g, okb))) (GL : Aside0 (g.f1 = [] ∨ g.f1 = [z26, z26])) (SM : Aside0 (smallB a = true)) (LA : Aside0 (likeB a a = true)) (LG : Aside0 (likeB g g = true)) (tx : ByteArray) (HTX : Aside0 (textS a = tx)) (SN : Aside0 (nodes a ≤ 32768)) :
    Calls Try.prog 10 #[.agg #[.int .i8 a.f0, .slice A a.f1.length ca]] w fun e w' => e = .returned (.bool true) ∧ Below w.heap.size w w' := by
  go_enter Try.func10, Try.ntmps10
  go_wp2_with fail
  refine (Ground_calls (T0.out.below (below1 ..))).mono ?_
  rw [GA.out]
  rintro e w1 ⟨vv, rfl, ht, hB⟩
  obtain ⟨A3, c3, rfl, hl, hc⟩ := ht
  have T3 := Aside0.mk (IsT.mk (k := g.f0) hl hc)
  rw [S26.eta] at T3
  obtain ⟨k1, hB1⟩ := one_block hB
  have K1 := Aside0.mk k1
  have HB := Aside0.mk hB1
  replace T0 := Aside0.mk (IsT.below T0.out hB1)
  clear hB hB1 k1 hl hc
  obtain ⟨e0, e1⟩ := c26_of K1.out (Below.refl _ _)
  have q := blk_lt K1.out
  go_wp2_with fail
  have hB := below1 w1 #[.int .i8 g.f0, .slice A3 g.f1.length c3] 26
  have K3 := Aside0.mk (heap_alloc_new w1 (.cells #[.int .i8 g.f0, .slice A3 g.f1.length c3] 26))
  replace K1 := Aside0.mk (blk_below K1.out hB)
  replace T0 := Aside0.mk (IsT.below T0.out hB)
  replace T3 := Aside0.mk (IsT.below T3.out hB)
  replace HB := Aside0.mk (below_then HB.out HB.out.size hB)
  clear hB
  clear e0 e1 q
  refine (refGround_calls T0.out).mono ?_
  rw [GA.out]
  rintro e w2 ⟨vv, rfl, ht, hB⟩
  obtain ⟨A5, c5, rfl, hl, hc⟩ := ht
  have T5 := Aside0.mk (IsT.mk (k := g.f0) hl hc)
  rw [S26.eta] at T5
  replace K1 := Aside0.mk (blk_below K1.out hB)
  replace K3 := Aside0.mk (blk_below K3.out hB)
  replace T0 := Aside0.mk (IsT.below T0.out hB)
  replace T3 := Aside0.mk (IsT.below T3.out hB)
  replace HB := Aside0.mk (below_then HB.out HB.out.size hB)
  clear hB
  clear hl hc
  generalize w1.heap.size = n3 at *
  obtain ⟨e0, e1⟩ := c26_of K1.out (Below.refl _ _)
  have q := blk_lt K1.out
  go_wp2_with fail
  have hB := below1 w2 #[.int .i8 g.f0, .slice A5 g.f1.length c5] 26
  have K5 := Aside0.mk (heap_alloc_new w2 (.cells #[.int .i8 g.f0, .slice A5 g.f1.length c5] 26))
  replace K1 := Aside0.mk (blk_below K1.out hB)
  replace K3 := Aside0.mk (blk_below K3.out hB)
  replace T0 := Aside0.mk (IsT.below T0.out hB)
  replace T3 := Aside0.mk (IsT.below T3.out hB)
  replace T5 := Aside0.mk (IsT.below T5.out hB)
  replace HB := Aside0.mk (below_then HB.out HB.out.size hB)
  clear hB
  clear e0 e1 q
  refine (Text_calls T0.out).mono ?_
  unfold TPost
  rw [HTX.out]
  rintro e w3 ⟨rfl, hB⟩
  replace K1 := Aside0.mk (blk_below K1.out hB)
  replace K3 := Aside0.mk (blk_below K3.out hB)
  replace K5 := Aside0.mk (blk_below K5.out hB)
  replace T0 := Aside0.mk (IsT.below T0.out hB)
  replace T3 := Aside0.mk (IsT.below T3.out hB)
  replace T5 := Aside0.mk (IsT.below T5.out hB)
  replace HB := Aside0.mk (below_then HB.out HB.out.size hB)
  clear hB
  generalize w2.heap.size = n5 at *
  obtain ⟨e0, e1⟩ := c26_of K1.out (Below.refl _ _)
  have q := blk_lt K1.out
  go_wp2_with fail
  clear e0 e1 q
  refine (refText_tx (HTX := HTX.out) T0.out).mono ?_
  rintro e w4 ⟨rfl, hB⟩
  replace K1 := Aside0.mk (blk_below K1.out hB)
  replace K3 := Aside0.mk (blk_below K3.out hB)
  replace K5 := Aside0.mk (blk_below K5.out hB)
  replace T0 := Aside0.mk (IsT.below T0.out hB)
  replace T3 := Aside0.mk (IsT.below T3.out hB)
  replace T5 := Aside0.mk (IsT.below T5.out hB)
  replace HB := Aside0.mk (below_then HB.out HB.out.size hB)
  clear hB
  go_wp2_with fail
  have OK := Aside0.mk (fun w' (h : Below w4.heap.size w4 w') => c26_of K1.out h)
  have HBW := Aside0.mk (Below.refl w4.heap.size w4)
  refine wp_region_held_drew (S := (fun w' => (w'.cell? ⟨w.heap.size, 0, none⟩ = some (.int .i8 a.f0) ∧ w'.cell? ⟨w.heap.size, 1, none⟩ = some (.slice A a.f1.length ca)))) (by kernel_rfl) (OK.out _ HBW.out.drew) (fun hHeld => ?_)
  refine takeH (d := some 37) (v := ?_) 0 rfl rfl (by kernel_rfl) (by kernel_rfl) (by kernel_rfl) (fun _ _ _ h => h) (by rfl) ?_ hHeld ?_
  rotate_left
  · intro w hSw
    try dsimp only at hSw
    go_simp <;> with_reducible rfl
  try simp only [Act.put, List.setIfInBounds_toArray, List.set_cons_zero, List.set_cons_succ]
  refine takeH (d := some 39) (v := ?_) 2 rfl rfl (by kernel_rfl) (by kernel_rfl) (by kernel_rfl) (fun _ _ _ h => h) (by rfl) ?_ hHeld ?_
  rotate_left
  · intro w hSw
    try dsimp only at hSw
    go_simp <;> with_reducible rfl
  try simp only [Act.put, List.setIfInBounds_toArray, List.set_cons_zero, List.set_cons_succ]
  refine callH (d := some 38) 1 rfl rfl (by kernel_rfl) (by rfl) (by kernel_rfl) (Check_calls ((T0).out.below HBW.out.drew)) ?_
  rintro e v1 ⟨rfl, hB⟩
  have H1 := Aside0.mk (below_then HBW.out.drew (HBW.out.drew).size hB)
  clear hB
  refine ⟨_, rfl, OK.out _ H1.out, fun hHeld => ?_⟩
  try simp only [Act.put, List.setIfInBounds_toArray, List.set_cons_zero, List.set_cons_succ]
  refine callH (d := some 40) 3 rfl rfl (by kernel_rfl) (by rfl) (by kernel_rfl) (refCheck2_calls ((T0).out.below H1.out)) ?_
  rintro e v2 ⟨rfl, hB⟩
  have H2 := Aside0.mk (below_then H1.out (H1.out).size hB)
  clear hB
  refine ⟨_, rfl, OK.out _ H2.out, fun hHeld => ?_⟩
  try simp only [Act.put, List.setIfInBounds_toArray, List.set_cons_zero, List.set_cons_succ]
  refine takeH (d := some 41) (v := ?_) 4 rfl rfl (by kernel_rfl) (by kernel_rfl) (by kernel_rfl) (fun _ _ _ h => h) (by rfl) ?_ hHeld ?_
  rotate_left
  · intro w hSw
    try dsimp only at hSw
    go_simp <;> with_reducible rfl
  try simp only [Act.put, List.setIfInBounds_toArray, List.set_cons_zero, List.set_cons_succ]
  refine takeH (d := some 42) (v := ?_) 5 rfl rfl (by kernel_rfl) (by kernel_rfl) (by kernel_rfl) (fun _ _ _ h => h) (by rfl) ?_ hHeld ?_
  rotate_left
  · intro w hSw
    try dsimp only at hSw
    go_simp <;> with_reducible rfl
  try simp only [Act.put, List.setIfInBounds_toArray, List.set_cons_zero, List.set_cons_succ]
  refine takeH (d := some 43) (v := ?_) 6 rfl rfl (by kernel_rfl) (by kernel_rfl) (by kernel_rfl) (fun _ _ _ h => h) (by rfl) ?_ hHeld ?_
  rotate_left
  · intro w hSw
    try dsimp only at hSw
    go_simp <;> with_reducible rfl
  try simp only [Act.put, List.setIfInBounds_toArray, List.set_cons_zero, List.set_cons_succ]
  refine takeH (d := some 45) (v := ?_) 8 rfl rfl (by kernel_rfl) (by kernel_rfl) (by kernel_rfl) (fun _ _ _ h => h) (by rfl) ?_ hHeld ?_
  rotate_left
  · intro w hSw
    try dsimp only at hSw
    go_simp <;> with_reducible rfl
  try simp only [Act.put, List.setIfInBounds_toArray, List.set_cons_zero, List.set_cons_succ]
  refine callH (d := some 44) 7 rfl rfl (by kernel_rfl) (by rfl) (by kernel_rfl) (Nodes_calls ((T0).out.below H2.out)) ?_
  rintro e v3 ⟨rfl, hB⟩
  have H3 := Aside0.mk (below_then H2.out (H2.out).size hB)
  clear hB
  refine ⟨_, rfl, OK.out _ H3.out, fun hHeld => ?_⟩
  try simp only [Act.put, List.setIfInBounds_toArray, List.set_cons_zero, List.set_cons_succ]
  refine callH (d := some 46) 9 rfl rfl (by kernel_rfl) (by rfl) (by kernel_rfl) (refNodes_calls ((T0).out.below H3.out)) ?_
  rintro e v4 ⟨rfl, hB⟩
  have H4 := Aside0.mk (below_then H3.out (H3.out).size hB)
  clear hB
  refine ⟨_, rfl, OK.out _ H4.out, fun hHeld => ?_⟩
  try simp only [Act.put, List.setIfInBounds_toArray, List.set_cons_zero, List.set_cons_succ]
  refine takeH (d := some 47) (v := ?_) 10 rfl rfl (by kernel_rfl) (by kernel_rfl) (by kernel_rfl) (fun _ _ _ h => h) (by rfl) ?_ hHeld ?_
  rotate_left
  · intro w hSw
    try dsimp only at hSw
    go_simp <;> with_reducible rfl
  try simp only [Act.put, List.setIfInBounds_toArray, List.set_cons_zero, List.set_cons_succ]
  refine takeH (d := some 48) (v := ?_) 11 rfl rfl (by kernel_rfl) (by kernel_rfl) (by kernel_rfl) (fun _ _ _ h => h) (by rfl) ?_ hHeld ?_
  rotate_left
  · intro w hSw
    try dsimp only at hSw
    go_simp <;> with_reducible rfl
  try simp only [Act.put, List.setIfInBounds_toArray, List.set_cons_zero, List.set_cons_succ]
  refine takeH (d := some 49) (v := ?_) 12 rfl rfl (by kernel_rfl) (by kernel_rfl) (by kernel_rfl) (fun _ _ _ h => h) (by rfl) ?_ hHeld ?_
  rotate_left
  · intro w hSw
    try dsimp only at hSw
    go_simp <;> with_reducible rfl
  try simp only [Act.put, List.setIfInBounds_toArray, List.set_cons_zero, List.set_cons_succ]
  refine takeH (d := some 50) (v := ?_) 13 rfl rfl (by kernel_rfl) (by kernel_rfl) (by kernel_rfl) (fun _ _ _ h => h) (by rfl) ?_ hHeld ?_
  rotate_left
  · intro w hSw
    try dsimp only at hSw
    go_simp <;> with_reducible rfl
  try simp only [Act.put, List.setIfInBounds_toArray, List.set_cons_zero, List.set_cons_succ]
  refine takeH (d := some 52) (v := ?_) 15 rfl rfl (by kernel_rfl) (by kernel_rfl) (by kernel_rfl) (fun _ _ _ h => h) (by rfl) ?_ hHeld ?_
  rotate_left
  · intro w hSw
    try dsimp only at hSw
    go_simp <;> with_reducible rfl
  try simp only [Act.put, List.setIfInBounds_toArray, List.set_cons_zero, List.set_cons_succ]
  refine callH (d := some 51) 14 rfl rfl (by kernel_rfl) (by rfl) (by kernel_rfl) (Depth_calls ((T0).out.below H4.out)) ?_
  rintro e v5 ⟨rfl, hB⟩
  have H5 := Aside0.mk (below_then H4.out (H4.out).size hB)
  clear hB
  refine ⟨_, rfl, OK.out _ H5.out, fun hHeld => ?_⟩
  try simp only [Act.put, List.setIfInBounds_toArray, List.set_cons_zero, List.set_cons_succ]
  refine callH (d := some 53) 16 rfl rfl (by kernel_rfl) (by rfl) (by kernel_rfl) (refDepth_calls ((T0).out.below H5.out)) ?_
  rintro e v6 ⟨rfl, hB⟩
  have H6 := Aside0.mk (below_then H5.out (H5.out).size hB)
  clear hB
  refine ⟨_, rfl, OK.out _ H6.out, fun hHeld => ?_⟩
  try simp only [Act.put, List.setIfInBounds_toArray, List.set_cons_zero, List.set_cons_succ]
  refine takeH (d := some 54) (v := ?_) 17 rfl rfl (by kernel_rfl) (by kernel_rfl) (by kernel_rfl) (fun _ _ _ h => h) (by rfl) ?_ hHeld ?_
  rotate_left
  · intro w hSw
    try dsimp only at hSw
    go_simp <;> with_reducible rfl
  try simp only [Act.put, List.setIfInBounds_toArray, List.set_cons_zero, List.set_cons_succ]
  refine takeH (d := some 55) (v := ?_) 18 rfl rfl (by kernel_rfl) (by kernel_rfl) (by kernel_rfl) (fun _ _ _ h => h) (by rfl) ?_ hHeld ?_
  rotate_left
  · intro w hSw
    try dsimp only at hSw
    go_simp <;> with_reducible rfl
  try simp only [Act.put, List.setIfInBounds_toArray, List.set_cons_zero, List.set_cons_succ]
  refine takeH (d := some 56) (v := ?_) 19 rfl rfl (by kernel_rfl) (by kernel_rfl) (by kernel_rfl) (fun _ _ _ h => h) (by rfl) ?_ hHeld ?_
  rotate_left
  · intro w hSw
    try dsimp only at hSw
    go_simp <;> with_reducible rfl
  try simp only [Act.put, List.setIfInBounds_toArray, List.set_cons_zero, List.set_cons_succ]
  refine takeH (d := some 57) (v := ?_) 20 rfl rfl (by kernel_rfl) (by kernel_rfl) (by kernel_rfl) (fun _ _ _ h => h) (by rfl) ?_ hHeld ?_
  rotate_left
  · intro w hSw
    try dsimp only at hSw
    go_simp <;> with_reducible rfl
  try simp only [Act.put, List.setIfInBounds_toArray, List.set_cons_zero, List.set_cons_succ]
  refine takeH (d := some 59) (v := ?_) 22 rfl rfl (by kernel_rfl) (by kernel_rfl) (by kernel_rfl) (fun _ _ _ h => h) (by rfl) ?_ hHeld ?_
  rotate_left
  · intro w hSw
    try dsimp only at hSw
    go_simp <;> with_reducible rfl
  try simp only [Act.put, List.setIfInBounds_toArray, List.set_cons_zero, List.set_cons_succ]
  refine callH (d := some 58) 21 rfl rfl (by kernel_rfl) (by rfl) (by kernel_rfl) (Known_calls ((T0).out.below H6.out)) ?_
  rintro e v7 ⟨rfl, hB⟩
  have H7 := Aside0.mk (below_then H6.out (H6.out).size hB)
  clear hB
  refine ⟨_, rfl, OK.out _ H7.out, fun hHeld => ?_⟩
  try simp only [Act.put, List.setIfInBounds_toArray, List.set_cons_zero, List.set_cons_succ]
  refine callH (d := some 60) 23 rfl rfl (by kernel_rfl) (by rfl) (by kernel_rfl) (refKnown_calls ((T0).out.below H7.out)) ?_
  rintro e v8 ⟨rfl, hB⟩
  have H8 := Aside0.mk (below_then H7.out (H7.out).size hB)
  clear hB
  refine ⟨_, rfl, OK.out _ H8.out, fun hHeld => ?_⟩
  try simp only [Act.put, List.setIfInBounds_toArray, List.set_cons_zero, List.set_cons_succ]
  refine takeH (d := some 61) (v := ?_) 24 rfl rfl (by kernel_rfl) (by kernel_rfl) (by kernel_rfl) (fun _ _ _ h => h) (by rfl) ?_ hHeld ?_
  rotate_left
  · intro w hSw
    try dsimp only at hSw
    go_simp <;> with_reducible rfl
  try simp only [Act.put, List.setIfInBounds_toArray, List.set_cons_zero, List.set_cons_succ]
  refine takeH (d := some 62) (v := ?_) 25 rfl rfl (by kernel_rfl) (by kernel_rfl) (by kernel_rfl) (fun _ _ _ h => h) (by rfl) ?_ hHeld ?_
  rotate_left
  · intro w hSw
    try dsimp only at hSw
    go_simp <;> with_reducible rfl
  try simp only [Act.put, List.setIfInBounds_toArray, List.set_cons_zero, List.set_cons_succ]
  refine takeH (d := some 11) (v := ?_) 26 rfl rfl (by kernel_rfl) (by kernel_rfl) (by kernel_rfl) (fun _ _ _ h => h) (by rfl) ?_ hHeld ?_
  rotate_left
  · intro w hSw
    try dsimp only at hSw
    go_simp <;> with_reducible rfl
  try simp only [Act.put, List.setIfInBounds_toArray, List.set_cons_zero, List.set_cons_succ]
  refine wpAnyH_done (by kernel_rfl) ?_ _
  have hB := H8.out
  replace K1 := Aside0.mk (blk_below K1.out hB)
  replace K3 := Aside0.mk (blk_below K3.out hB)
  replace K5 := Aside0.mk (blk_below K5.out hB)
  replace T0 := Aside0.mk (IsT.below T0.out hB)
  replace T3 := Aside0.mk (IsT.below T3.out hB)
  replace T5 := Aside0.mk (IsT.below T5.out hB)
  replace HB := Aside0.mk (below_then HB.out HB.out.size hB)
  clear hB
  clear OK HBW H1 H2 H3 H4 H5 H6 H7 H8
  obtain ⟨e0, e1⟩ := c26_of K3.out (Below.refl _ _)
  have q := blk_lt K3.out
  obtain ⟨e2, e3⟩ := c26_of K5.out (Below.refl _ _)
  have q2 := blk_lt K5.out
  go_wp2_with fail
  clear e0 e1 e2 e3 q q2
  refine (LikeType_calls T3.out T5.out).mono ?_
  rw [LG.out]
  rintro e w5 ⟨rfl, hB⟩
  replace K1 := Aside0.mk (blk_below K1.out hB)
  replace K5 := Aside0.mk (blk_below K5.out hB)
  replace T0 := Aside0.mk (IsT.below T0.out hB)
  replace T5 := Aside0.mk (IsT.below T5.out hB)
  replace HB := Aside0.mk (below_then HB.out HB.out.size hB)
  clear hB
  obtain ⟨e0, e1⟩ := c26_of K1.out (Below.refl _ _)
  have q := blk_lt K1.out
  go_wp2_with fail
  clear e0 e1 q
  refine (Small_calls T0.out).mono ?_
  rw [SM.out]
  rintro e w6 ⟨rfl, hB⟩
  replace K1 := Aside0.mk (blk_below K1.out hB)
  replace K5 := Aside0.mk (blk_below K5.out hB)
  replace T0 := Aside0.mk (IsT.below T0.out hB)
  replace T5 := Aside0.mk (IsT.below T5.out hB)
  replace HB := Aside0.mk (below_then HB.out HB.out.size hB)
  clear hB
  obtain ⟨e0, e1⟩ := c26_of K1.out (Below.refl _ _)
  have q := blk_lt K1.out
  go_wp2_with fail
  clear e0 e1 q
  refine (CopiedType_calls T0.out SN.out).mono ?_
  rintro e w7 ⟨vv, rfl, ht, hB⟩
  obtain ⟨A12, c12, rfl, hl, hc⟩ := ht
  have T12 := Aside0.mk (IsT.mk (k := a.f0) hl hc)
  rw [S26.eta] at T12
  replace K1 := Aside0.mk (blk_below K1.out hB)
  replace K5 := Aside0.mk (blk_below K5.out hB)
  replace T0 := Aside0.mk (IsT.below T0.out hB)
  replace T5 := Aside0.mk (IsT.below T5.out hB)
  replace HB := Aside0.mk (below_then HB.out HB.out.size hB)
  clear hB
  clear hl hc
  go_wp2_with fail
  have hB := below1 w7 #[.int .i8 a.f0, .slice A12 a.f1.length c12] 26
  have K12 := Aside0.mk (heap_alloc_new w7 (.cells #[.int .i8 a.f0, .slice A12 a.f1.length c12] 26))
  replace K1 := Aside0.mk (blk_below K1.out hB)
  replace K5 := Aside0.mk (blk_below K5.out hB)
  replace T0 := Aside0.mk (IsT.below T0.out hB)
  replace T5 := Aside0.mk (IsT.below T5.out hB)
  replace T12 := Aside0.mk (IsT.below T12.out hB)
  replace HB := Aside0.mk (below_then HB.out HB.out.size hB)
  clear hB
  refine (Text_calls T12.out).mono ?_
  unfold TPost
  rintro e w8 ⟨rfl, hB⟩
  replace K1 := Aside0.mk (blk_below K1.out hB)
  replace K5 := Aside0.mk (blk_below K5.out hB)
  replace K12 := Aside0.mk (blk_below K12.out hB)
  replace T0 := Aside0.mk (IsT.below T0.out hB)
  replace T5 := Aside0.mk (IsT.below T5.out hB)
  replace T12 := Aside0.mk (IsT.below T12.out hB)
  replace HB := Aside0.mk (below_then HB.out HB.out.size hB)
  clear hB
  generalize w7.heap.size = n12 at *
  obtain ⟨e0, e1⟩ := c26_of K12.out (Below.refl _ _)
  have q := blk_lt K12.out
  go_wp2_with fail
  clear e0 e1 q
  refine (GroundR_calls T12.out).mono ?_
  rw [GA.out]
  rintro e w9 ⟨v1, rfl, hR, hB⟩
  obtain ⟨A13, c13, rfl⟩ := Kd.R_slice hR
  have HR := Aside0.mk hR
  have HBG := Aside0.mk hB
  clear hR hB
  go_wp2_with fail
  have hx := below1 w9 #[.int .i8 g.f0, .slice A13 g.f1.length c13] 26
  refine (Spoil_ground (base := w8.heap.size) GL.out (Kd.R_below HR.out hx) (Nat.le_trans HBG.out.size hx.size)).mono ?_
  rintro e w10 ⟨rfl, hS⟩
  have hB := (below_then HBG.out HBG.out.size hx).trans hS
  replace K1 := Aside0.mk (blk_below K1.out hB)
  replace K5 := Aside0.mk (blk_below K5.out hB)
  replace K12 := Aside0.mk (blk_below K12.out hB)
  replace T0 := Aside0.mk (IsT.below T0.out hB)
  replace T5 := Aside0.mk (IsT.below T5.out hB)
  replace T12 := Aside0.mk (IsT.below T12.out hB)
  replace HB := Aside0.mk (below_then HB.out HB.out.size hB)
  clear hB
  clear hx hS HR HBG
  obtain ⟨e0, e1⟩ := c26_of K12.out (Below.refl _ _)
  have q := blk_lt K12.out
  go_wp2_with fail
  clear e0 e1 q
  refine (Ground_calls T12.out).mono ?_
  rw [GA.out]
  rintro e w11 ⟨vv, rfl, ht, hB⟩
  obtain ⟨A15, c15, rfl, hl, hc⟩ := ht
  have T15 := Aside0.mk (IsT.mk (k := g.f0) hl hc)
  rw [S26.eta] at T15
  replace K1 := Aside0.mk (blk_below K1.out hB)
  replace K5 := Aside0.mk (blk_below K5.out hB)
  replace K12 := Aside0.mk (blk_below K12.out hB)
  replace T0 := Aside0.mk (IsT.below T0.out hB)
  replace T5 := Aside0.mk (IsT.below T5.out hB)
  replace T12 := Aside0.mk (IsT.below T12.out hB)
  replace HB := Aside0.mk (below_then HB.out HB.out.size hB)
  clear hB
  clear hl hc
  obtain ⟨e0, e1⟩ := c26_of K1.out (Below.refl _ _)
  have q := blk_lt K1.out
  obtain ⟨e2, e3⟩ := c26_of K12.out (Below.refl _ _)
  have q2 := blk_lt K12.out
  go_wp2_with fail
  clear e0 e1 e2 e3 q q2
  have hB := below1 w11 #[.int .i8 g.f0, .slice A15 g.f1.length c15] 26
  have K15 := Aside0.mk (heap_alloc_new w11 (.cells #[.int .i8 g.f0, .slice A15 g.f1.length c15] 26))
  replace K5 := Aside0.mk (blk_below K5.out hB)
  replace T0 := Aside0.mk (IsT.below T0.out hB)
  replace T5 := Aside0.mk (IsT.below T5.out hB)
  replace T12 := Aside0.mk (IsT.below T12.out hB)
  replace T15 := Aside0.mk (IsT.below T15.out hB)
  replace HB := Aside0.mk (below_then HB.out HB.out.size hB)
  clear hB
  refine (LikeType_calls T12.out T0.out).mono ?_
  rw [LA.out]
  rintro e w12 ⟨rfl, hB⟩
  replace K5 := Aside0.mk (blk_below K5.out hB)
  replace K15 := Aside0.mk (blk_below K15.out hB)
  replace T5 := Aside0.mk (IsT.below T5.out hB)
  replace T15 := Aside0.mk (IsT.below T15.out hB)
  replace HB := Aside0.mk (below_then HB.out HB.out.size hB)
  clear hB
  generalize w11.heap.size = n15 at *
  obtain ⟨e0, e1⟩ := c26_of K5.out (Below.refl _ _)
  have q := blk_lt K5.out
  obtain ⟨e2, e3⟩ := c26_of K15.out (Below.refl _ _)
  have q2 := blk_lt K15.out
  go_wp2_with fail
  clear e0 e1 e2 e3 q q2
  refine (LikeType_calls T15.out T5.out).mono ?_
  rw [LG.out]
  rintro e w13 ⟨rfl, hB⟩
  replace HB := Aside0.mk (below_then HB.out HB.out.size hB)
  clear hB
  go_wp2_with fail
  refine (wakes2_calls _).mono ?_
  rintro e we ⟨rfl, hB⟩
  replace HB := Aside0.mk (below_then HB.out HB.out.size hB)
  clear hB
  go_wp2_with fail
  go_ret
  exact ⟨rfl, HB.out⟩
theorem typesTells_walk (u0 : Value) (a : S26) (w : World) (h0 : IsT w u0 a) : Calls Try.prog 10 #[u0] w fun e w' => e = .returned (.bool true) ∧ Below w.heap.size w w' := by
  have T0 := Aside0.mk h0
  obtain ⟨A, ca, rfl, _, _⟩ := h0
  cases hs : smallB a with
  | false => exact tells_no a _ _ w A ca T0 (.mk rfl) (.mk (ground_shape a)) (.mk hs) (.mk (like_refl _)) (.mk (like_refl _)) _ (.mk rfl)
  | true => exact tells_yes a _ _ w A ca T0 (.mk rfl) (.mk (ground_shape a)) (.mk hs) (.mk (like_refl _)) (.mk (like_refl _)) _ (.mk rfl) (.mk (of_decide_eq_true hs))
end Go.Proofs.Ytamhdpllmhafhaa.X
