/- Texts of this claim, joined: GLeaf, HCp, HCpD, HCpC. -/
import Derived.Test.YtjmpejbciniceaaDoorKCoerceCheck1
import Derived.Test.YtjmpejbciniceaaDoorKCoerceCheck5
import Derived.Test.YtjmpejbciniceaaDoorKCoerceCheck10
namespace Go.Proofs.YtjmpejbciniceaaDoor.X
open Go.RowKit Go.Proofs.YtjmpejbciniceaaDoorW.PrintWords Go.Proofs.YtjmpejbciniceaaDoorW.PrintLast Go.Proofs.YtjmpejbciniceaaDoorW.PrintMore
attribute [local go_sem] max2_int min2_int max_two min_two max_three min_three max_four min_four
set_option linter.unusedVariables false
set_option linter.unusedSimpArgs false
def coerce_leaf.f (a0 : Int) : Option (Bool) := if a0 = 0 then (some true) else (if a0 = 1 then (some true) else (if a0 = 2 then (some true) else (if a0 = 3 then (some true) else (some false))))
set_option maxHeartbeats 8000000 in
set_option maxRecDepth 100000 in
theorem coerce_leaf.calls (a0 : Int) (r : Bool) (w : World) (h : coerce_leaf.f a0 = some r) :
    Calls Tryd.prog 94 #[.int .i8 a0] w fun e w' => e = .returned (.bool r) ∧ Drawn0 w w' := by
  have H : (if a0 = 0 then (some true) else (if a0 = 1 then (some true) else (if a0 = 2 then (some true) else (if a0 = 3 then (some true) else (some false))))) = some r := h
  clear h
  by_cases c2 : a0 = 0
  · rw [if_pos c2] at H
    have c2b0 : (a0 == 0) = true := beq_iff_eq.mpr c2
    have c2b1 : (a0 != 0) = false := bne_eq_false_iff_eq.mpr c2
    clear c2
    obtain rfl := Option.some.inj H
    go_enter Tryd.func94, Tryd.ntmps94
    go_wp2
    go_ret
    exact ⟨by first | rfl | (simp; done) | (simp [*]; done), by repeat (first | exact Drawn0.refl _ | apply Drawn0.step)⟩
  · rw [if_neg c2] at H
    have c2b0 : (a0 == 0) = false := beq_eq_false_iff_ne.mpr c2
    have c2b1 : (a0 != 0) = true := bne_iff_ne.mpr c2
    by_cases c3 : a0 = 1
    · rw [if_pos c3] at H
      have c3b0 : (a0 == 1) = true := beq_iff_eq.mpr c3
      have c3b1 : (a0 != 1) = false := bne_eq_false_iff_eq.mpr c3
      clear c3
      obtain rfl := Option.some.inj H
      go_enter Tryd.func94, Tryd.ntmps94
      go_wp2
      go_ret
      exact ⟨by first | rfl | (simp; done) | (simp [*]; done), by repeat (first | exact Drawn0.refl _ | apply Drawn0.step)⟩
    · rw [if_neg c3] at H
      have c3b0 : (a0 == 1) = false := beq_eq_false_iff_ne.mpr c3
      have c3b1 : (a0 != 1) = true := bne_iff_ne.mpr c3
      by_cases c4 : a0 = 2
      · rw [if_pos c4] at H
        have c4b0 : (a0 == 2) = true := beq_iff_eq.mpr c4
        have c4b1 : (a0 != 2) = false := bne_eq_false_iff_eq.mpr c4
        clear c4
        obtain rfl := Option.some.inj H
        go_enter Tryd.func94, Tryd.ntmps94
        go_wp2
        go_ret
        exact ⟨by first | rfl | (simp; done) | (simp [*]; done), by repeat (first | exact Drawn0.refl _ | apply Drawn0.step)⟩
      · rw [if_neg c4] at H
        have c4b0 : (a0 == 2) = false := beq_eq_false_iff_ne.mpr c4
        have c4b1 : (a0 != 2) = true := bne_iff_ne.mpr c4
        by_cases c5 : a0 = 3
        · rw [if_pos c5] at H
          have c5b0 : (a0 == 3) = true := beq_iff_eq.mpr c5
          have c5b1 : (a0 != 3) = false := bne_eq_false_iff_eq.mpr c5
          clear c5
          obtain rfl := Option.some.inj H
          go_enter Tryd.func94, Tryd.ntmps94
          go_wp2
          go_ret
          exact ⟨by first | rfl | (simp; done) | (simp [*]; done), by repeat (first | exact Drawn0.refl _ | apply Drawn0.step)⟩
        · rw [if_neg c5] at H
          have c5b0 : (a0 == 3) = false := beq_eq_false_iff_ne.mpr c5
          have c5b1 : (a0 != 3) = true := bne_iff_ne.mpr c5
          obtain rfl := Option.some.inj H
          go_enter Tryd.func94, Tryd.ntmps94
          go_wp2
          go_ret
          exact ⟨by first | rfl | (simp; done) | (simp [*]; done), by repeat (first | exact Drawn0.refl _ | apply Drawn0.step)⟩
end Go.Proofs.YtjmpejbciniceaaDoor.X
namespace Go.Proofs.YtjmpejbciniceaaDoor.X
open Go.RowKit Go.Proofs.YtjmpejbciniceaaDoorW.PrintWords Go.Proofs.YtjmpejbciniceaaDoorW.PrintLast Go.Proofs.YtjmpejbciniceaaDoorW.PrintMore
set_option linter.unusedVariables false
set_option linter.unusedSimpArgs false
def CellsC (w : World) (p : Addr) (x : S54) (A2 : Option Addr) (c2 : Nat) (A4 : Option Addr) (c4 : Nat) (A7 : Option Addr) (c7 : Nat) : Prop :=
  w.cell? p = some (.int .i8 x.f0) ∧ w.cell? ⟨p.block, p.off + 1, none⟩ = some (.int .i8 x.f1.f0) ∧ w.cell? ⟨p.block, p.off + 2, none⟩ = some (.slice A2 x.f1.f1.length c2) ∧ w.cell? ⟨p.block, p.off + 3, none⟩ = some (.int .i8 x.f2.f0) ∧ w.cell? ⟨p.block, p.off + 4, none⟩ = some (.slice A4 x.f2.f1.length c4) ∧ w.cell? ⟨p.block, p.off + 5, none⟩ = some (.int .i64 x.f3) ∧ w.cell? ⟨p.block, p.off + 6, none⟩ = some (.bool x.f4) ∧ w.cell? ⟨p.block, p.off + 7, none⟩ = some (.slice A7 x.f5.length c7)
theorem CellsC.below {w w' : World} {p : Addr} {x : S54} {A2 A4 A7 : Option Addr} {c2 c4 c7 B : Nat} (h : CellsC w p x A2 c2 A4 c4 A7 c7) (hB : Below B w w') (hb : w.heap.size ≤ B) : CellsC w' p x A2 c2 A4 c4 A7 c7 := by
  have hp := World.block_lt_of_cell? w _ h.1
  have k : ∀ (o : Nat) (v : Value), w.cell? ⟨p.block, o, none⟩ = some v → w'.cell? ⟨p.block, o, none⟩ = some v := fun o v hv => (hB.cell (by show p.block < B; omega)).trans hv
  exact ⟨(hB.cell (by omega)).trans h.1, k _ _ h.2.1, k _ _ h.2.2.1, k _ _ h.2.2.2.1, k _ _ h.2.2.2.2.1, k _ _ h.2.2.2.2.2.1, k _ _ h.2.2.2.2.2.2.1, k _ _ h.2.2.2.2.2.2.2⟩
def AtC (w : World) (p : Addr) (x : S54) : Prop := ∃ A2 c2 A4 c4 A7 c7, CellsC w p x A2 c2 A4 c4 A7 c7 ∧ IsT w (.agg #[.int .i8 x.f1.f0, .slice A2 x.f1.f1.length c2]) x.f1 ∧ IsT w (.agg #[.int .i8 x.f2.f0, .slice A4 x.f2.f1.length c4]) x.f2 ∧ x.f5.length ≤ c7 ∧ Kd.C k54 w A7 x.f5.length x.f5
theorem AtC.below {w w' : World} {p : Addr} {x : S54} (h : AtC w p x) (hB : Below w.heap.size w w') : AtC w' p x := by
  obtain ⟨A2, c2, A4, c4, A7, c7, h1, h2, h3, h4, h5⟩ := h
  exact ⟨A2, c2, A4, c4, A7, c7, h1.below hB (Nat.le_refl _), h2.below hB, h3.below hB, h4, Kd.C_below h5 hB⟩
theorem AtC_kid {w : World} {A : Option Addr} {n : Nat} {xs : List S54} (h : Kd.C k54 w A n xs) (i : Int) (h0 : 0 ≤ i) (h1 : i < n) {x : S54} (hx : rd_T54 xs i = x) : ∃ ad, A = some ad ∧ AtC w (ad.add (i.toNat * 8)) x := by
  obtain ⟨ad, A2, c2, A4, c4, A7, c7, e, k0, k1, k2, k3, k4, k5, k6, k7, l1, l2, l3, l4, l5, l6⟩ := at_T54 h i h0 h1
  rw [hx] at k0 k1 k2 k3 k4 k5 k6 k7 l1 l2 l3 l4 l5 l6
  exact ⟨ad, e, A2, c2, A4, c4, A7, c7, ⟨k0, k1, k2, k3, k4, k5, k6, k7⟩, ⟨A2, c2, rfl, l1, l2⟩, ⟨A4, c4, rfl, l3, l4⟩, l5, l6⟩
theorem AtC_box {w : World} {g : Nat} {A2 A4 A7 : Option Addr} {c2 c4 c7 : Nat} {x : S54} (hb : w.heap[g]? = some (.cells #[.int .i8 x.f0, .int .i8 x.f1.f0, .slice A2 x.f1.f1.length c2, .int .i8 x.f2.f0, .slice A4 x.f2.f1.length c4, .int .i64 x.f3, .bool x.f4, .slice A7 x.f5.length c7] 54 (0, 0)))
    (hx : IsC w (.agg #[.int .i8 x.f0, .int .i8 x.f1.f0, .slice A2 x.f1.f1.length c2, .int .i8 x.f2.f0, .slice A4 x.f2.f1.length c4, .int .i64 x.f3, .bool x.f4, .slice A7 x.f5.length c7]) x) : AtC w ⟨g, 0, none⟩ x := by
  obtain ⟨B2, d2, B4, d4, B7, d7, e, h1, h2, h3, h4, h5, h6⟩ := hx
  have e' : (A2 = B2 ∧ c2 = d2) ∧ (A4 = B4 ∧ c4 = d4) ∧ A7 = B7 ∧ c7 = d7 := by simpa using e
  obtain ⟨⟨rfl, rfl⟩, ⟨rfl, rfl⟩, rfl, rfl⟩ := e'
  refine ⟨A2, c2, A4, c4, A7, c7, ⟨?_, ?_, ?_, ?_, ?_, ?_, ?_, ?_⟩, ⟨A2, c2, rfl, h1, h2⟩, ⟨A4, c4, rfl, h3, h4⟩, h5, h6⟩
  · exact (blk_cell hb 0).trans rfl
  all_goals first | exact (blk_cell hb 1).trans rfl | exact (blk_cell hb 2).trans rfl | exact (blk_cell hb 3).trans rfl | exact (blk_cell hb 4).trans rfl | exact (blk_cell hb 5).trans rfl | exact (blk_cell hb 6).trans rfl | exact (blk_cell hb 7).trans rfl
theorem leaf_is (k : Int) : coerce_leaf.f k = some (leafB k) := by
  unfold coerce_leaf.f leafB
  by_cases h0 : k = 0
  · simp [h0]
  · by_cases h1 : k = 1
    · simp [h1]
    · by_cases h2 : k = 2
      · simp [h2]
      · by_cases h3 : k = 3
        · simp [h3]
        · simp [h0, h1, h2, h3]
theorem leaf_calls (k : Int) (w : World) : Calls Tryd.prog 94 #[.int .i8 k] w fun e w' => e = .returned (.bool (leafB k)) ∧ Below w.heap.size w w' := (coerce_leaf.calls k _ w (leaf_is k)).mono fun _ _ h => ⟨h.1, h.2.below⟩
end Go.Proofs.YtjmpejbciniceaaDoor.X
namespace Go.Proofs.YtjmpejbciniceaaDoor.X
open Go.RowKit Go.Proofs.YtjmpejbciniceaaDoorW.PrintWords Go.Proofs.YtjmpejbciniceaaDoorW.PrintLast Go.Proofs.YtjmpejbciniceaaDoorW.PrintMore
set_option linter.unusedVariables false
set_option linter.unusedSimpArgs false
def DeepPost (r : Int) (w : World) (e : Ending) (w' : World) : Prop := e = .returned (.int .i64 r) ∧ Below w.heap.size w w'
set_option maxRecDepth 100000 in
theorem deep_one {p : Addr} {w : World} : Calls Tryd.prog 45 #[.pointer (some p), .int .i64 1] w (DeepPost 1 w) := by
  go_enter Tryd.func45, Tryd.ntmps45
  go_wp2_with fail
  go_ret
  exact ⟨rfl, Below.refl _ _⟩
set_option maxRecDepth 100000 in
set_option maxHeartbeats 400000 in
theorem deep_n {x : S54} {p : Addr} {most : Int} {w : World} (hm1 : Aside0 (2 ≤ most)) (hLo : Aside0 (leafB x.f0 = false)) (hp : Aside0 (AtC w p x)) (h8 : Aside0 (cnodes x ≤ 8192)) (hm : Aside0 (most ≤ 201)) (IH : Aside0 (∀ (y : S54) (q : Addr) (m : Int) (w : World), cnodes y < cnodes x → cnodes y ≤ 8192 → 1 ≤ m → m ≤ 201 → AtC w q y → Calls Tryd.prog 45 #[.pointer (some q), .int .i64 m] w (DeepPost (min (cdepth y : Int) m) w))) : Calls Tryd.prog 45 #[.pointer (some p), .int .i64 most] w (DeepPost (min (cdepth x : Int) most) w) := by
  obtain ⟨A2, c2, A4, c4, A7, c7, hP, hT, hU, hl7, hC⟩ := hp.out
  have HP := Aside0.mk hP
  have HT := Aside0.mk hT
  have HU := Aside0.mk hU
  have HC := Aside0.mk hC
  have hL : x.f5.length ≤ 9223372036854775807 := hC.2.1
  clear hP hT hU hC
  have HB := Aside0.mk (Below.refl w.heap.size w)
  have hb1 := hm1.out
  have hb2 := hm.out
  have gm : (most == 1) = false := beq_eq_false_iff_ne.mpr (by have := hm1.out; omega)
  have hd1 := depthI_ge x.f1
  have hd2 := depthI_ge x.f2
  have hlf := hLo.out
  have gk : (x.f0 == 1) = false := beq_eq_false_iff_ne.mpr fun h => by rw [h] at hlf; simp [leafB] at hlf
  have HD : Aside0 ((cdepth x : Int) = 1 + max 0 (cdepthL x.f5 : Int)) := .mk (by rw [cdepth_eq, hlf, if_neg (beq_eq_false_iff_ne.mp gk)]; simp only [Bool.false_eq_true, if_false]; omega)
  obtain ⟨k0, k1, k2, k3, k4, k5, k6, k7⟩ := HP.out.below HB.out (Nat.le_refl _)
  go_enter Tryd.func45, Tryd.ntmps45
  go_wp2_with fail
  clear k0 k1 k2 k3 k4 k5 k6 k7
  refine (leaf_calls x.f0 _).mono ?_
  rintro e w1 ⟨rfl, hB⟩
  rw [hlf]
  replace HB := Aside0.mk (below_then HB.out HB.out.size hB)
  clear hB
  obtain ⟨k0, k1, k2, k3, k4, k5, k6, k7⟩ := HP.out.below HB.out (Nat.le_refl _)
  go_wp2_with fail
  clear k0 k1 k2 k3 k4 k5 k6 k7
  have hd0 : (0 : Int) ≤ 0 ∧ (0 : Int) ≤ 201 := by omega
  go_loopw [5, 36] (fun d i wr => ∃ (j : Nat) (acc : Int), i = .int .i64 j ∧ d = .int .i64 acc ∧ j ≤ x.f5.length ∧ 0 ≤ acc ∧ acc ≤ 201 ∧ min (max acc (cdepthL (x.f5.drop j) : Int)) (most - 1) = min (max 0 (cdepthL x.f5 : Int)) (most - 1) ∧ Below w.heap.size w wr) (fun _ i _ => x.f5.length - (intOf i).toNat)
  case atStart => exact ⟨0, 0, rfl, rfl, Nat.zero_le _, hd0.1, hd0.2, by rw [List.drop_zero], HB.out⟩
  case round =>
    clear HB
    obtain ⟨j, acc, rfl, rfl, hj, ha0, ha1, hinv, hB⟩ := hrel
    have HB := Aside0.mk hB
    have HI := Aside0.mk hinv
    clear hB hinv
    obtain ⟨k0, k1, k2, k3, k4, k5, k6, k7⟩ := HP.out.below HB.out (Nat.le_refl _)
    by_cases hlt : j < x.f5.length
    · obtain ⟨ad, rfl, hK⟩ := AtC_kid (Kd.C_below HC.out HB.out) (j : Int) (by omega) (by omega) rfl
      have HK := Aside0.mk hK
      have HDr := Aside0.mk (cdepthL_drop x.f5 j hlt)
      have HN : Aside0 (cnodes (rd_T54 x.f5 (j : Int)) < cnodes x) := .mk (by have e1 := cnodesL_drop x.f5 j hlt; have e2 := cnodesL_drop_le x.f5 j; have e3 := cnodes_eq x; omega)
      clear hK
      generalize rd_T54 x.f5 (j : Int) = y at *
      go_wp2_with fail
      clear k0 k1 k2 k3 k4 k5 k6 k7
      refine (IH.out y _ (most - 1) _ HN.out (by have := HN.out; have := h8.out; omega) (by have := hm1.out; omega) (by have := hm.out; omega) HK.out).mono ?_
      rintro e w5 ⟨rfl, hB⟩
      replace HB := Aside0.mk (below_then HB.out HB.out.size hB)
      clear hB
      have hcd : 0 ≤ (cdepth y : Int) := by omega
      have hmx2 : (if acc < min (cdepth y : Int) (most - 1) then min (cdepth y : Int) (most - 1) else acc) = max acc (min (cdepth y : Int) (most - 1)) := by split <;> omega
      go_wp2_with fail
      go_roundw
      case rel =>
        refine ⟨j + 1, max acc (min (cdepth y : Int) (most - 1)), by go_num, ?_, by omega, ?_, ?_, ?_, HB.out⟩
        · rfl
        · omega
        · have := hm.out; omega
        · have := HI.out; have := HDr.out; omega
      case measure => simp [intOf]; omega
    · obtain rfl : j = x.f5.length := by omega
      have hfin : min (acc + 1) most = min (cdepth x : Int) most := by have e1 := HI.out; have e2 := HD.out; rw [List.drop_eq_nil_of_le (Nat.le_refl _), cdepthL] at e1; omega
      have hmn : (if most < acc + 1 then most else acc + 1) = min (cdepth x : Int) most := by rw [← hfin]; split <;> omega
      go_wp2_with fail
      go_ret
      exact ⟨rfl, HB.out⟩
set_option maxRecDepth 100000 in
set_option maxHeartbeats 400000 in
theorem deep_t {x : S54} {p : Addr} {most : Int} {w : World} (hm1 : Aside0 (2 ≤ most)) (hLo : Aside0 (leafB x.f0 = true)) (hk1 : Aside0 (x.f0 ≠ 1)) (hp : Aside0 (AtC w p x)) (h8 : Aside0 (cnodes x ≤ 8192)) (hm : Aside0 (most ≤ 201)) (IH : Aside0 (∀ (y : S54) (q : Addr) (m : Int) (w : World), cnodes y < cnodes x → cnodes y ≤ 8192 → 1 ≤ m → m ≤ 201 → AtC w q y → Calls Tryd.prog 45 #[.pointer (some q), .int .i64 m] w (DeepPost (min (cdepth y : Int) m) w))) : Calls Tryd.prog 45 #[.pointer (some p), .int .i64 most] w (DeepPost (min (cdepth x : Int) most) w) := by
  obtain ⟨A2, c2, A4, c4, A7, c7, hP, hT, hU, hl7, hC⟩ := hp.out
  have HP := Aside0.mk hP
  have HT := Aside0.mk hT
  have HU := Aside0.mk hU
  have HC := Aside0.mk hC
  have hL : x.f5.length ≤ 9223372036854775807 := hC.2.1
  clear hP hT hU hC
  have HB := Aside0.mk (Below.refl w.heap.size w)
  have hb1 := hm1.out
  have hb2 := hm.out
  have gm : (most == 1) = false := beq_eq_false_iff_ne.mpr (by have := hm1.out; omega)
  have hd1 := depthI_ge x.f1
  have hd2 := depthI_ge x.f2
  have hlf := hLo.out
  have gk : (x.f0 == 1) = false := beq_eq_false_iff_ne.mpr hk1.out
  have HD : Aside0 ((cdepth x : Int) = 1 + max (depthI x.f1) (cdepthL x.f5 : Int)) := .mk (by rw [cdepth_eq, hlf]; simp only [if_true, if_neg (beq_eq_false_iff_ne.mp gk)]; omega)
  obtain ⟨k0, k1, k2, k3, k4, k5, k6, k7⟩ := HP.out.below HB.out (Nat.le_refl _)
  go_enter Tryd.func45, Tryd.ntmps45
  go_wp2_with fail
  clear k0 k1 k2 k3 k4 k5 k6 k7
  refine (leaf_calls x.f0 _).mono ?_
  rintro e w1 ⟨rfl, hB⟩
  rw [hlf]
  replace HB := Aside0.mk (below_then HB.out HB.out.size hB)
  clear hB
  obtain ⟨k0, k1, k2, k3, k4, k5, k6, k7⟩ := HP.out.below HB.out (Nat.le_refl _)
  go_wp2_with fail
  clear k0 k1 k2 k3 k4 k5 k6 k7
  refine (Depth_calls (HT.out.below HB.out)).mono ?_
  rintro e w2 ⟨rfl, hB⟩
  replace HB := Aside0.mk (below_then HB.out HB.out.size hB)
  clear hB
  obtain ⟨k0, k1, k2, k3, k4, k5, k6, k7⟩ := HP.out.below HB.out (Nat.le_refl _)
  go_wp2_with fail
  clear k0 k1 k2 k3 k4 k5 k6 k7
  have hd0 : 0 ≤ depthI x.f1 ∧ depthI x.f1 ≤ 201 := by omega
  generalize depthI x.f1 = d0 at *
  go_loopw [5, 36] (fun d i wr => ∃ (j : Nat) (acc : Int), i = .int .i64 j ∧ d = .int .i64 acc ∧ j ≤ x.f5.length ∧ 0 ≤ acc ∧ acc ≤ 201 ∧ min (max acc (cdepthL (x.f5.drop j) : Int)) (most - 1) = min (max d0 (cdepthL x.f5 : Int)) (most - 1) ∧ Below w.heap.size w wr) (fun _ i _ => x.f5.length - (intOf i).toNat)
  case atStart => exact ⟨0, d0, rfl, rfl, Nat.zero_le _, hd0.1, hd0.2, by rw [List.drop_zero], HB.out⟩
  case round =>
    clear HB
    obtain ⟨j, acc, rfl, rfl, hj, ha0, ha1, hinv, hB⟩ := hrel
    have HB := Aside0.mk hB
    have HI := Aside0.mk hinv
    clear hB hinv
    obtain ⟨k0, k1, k2, k3, k4, k5, k6, k7⟩ := HP.out.below HB.out (Nat.le_refl _)
    by_cases hlt : j < x.f5.length
    · obtain ⟨ad, rfl, hK⟩ := AtC_kid (Kd.C_below HC.out HB.out) (j : Int) (by omega) (by omega) rfl
      have HK := Aside0.mk hK
      have HDr := Aside0.mk (cdepthL_drop x.f5 j hlt)
      have HN : Aside0 (cnodes (rd_T54 x.f5 (j : Int)) < cnodes x) := .mk (by have e1 := cnodesL_drop x.f5 j hlt; have e2 := cnodesL_drop_le x.f5 j; have e3 := cnodes_eq x; omega)
      clear hK
      generalize rd_T54 x.f5 (j : Int) = y at *
      go_wp2_with fail
      clear k0 k1 k2 k3 k4 k5 k6 k7
      refine (IH.out y _ (most - 1) _ HN.out (by have := HN.out; have := h8.out; omega) (by have := hm1.out; omega) (by have := hm.out; omega) HK.out).mono ?_
      rintro e w5 ⟨rfl, hB⟩
      replace HB := Aside0.mk (below_then HB.out HB.out.size hB)
      clear hB
      have hcd : 0 ≤ (cdepth y : Int) := by omega
      have hmx2 : (if acc < min (cdepth y : Int) (most - 1) then min (cdepth y : Int) (most - 1) else acc) = max acc (min (cdepth y : Int) (most - 1)) := by split <;> omega
      go_wp2_with fail
      go_roundw
      case rel =>
        refine ⟨j + 1, max acc (min (cdepth y : Int) (most - 1)), by go_num, ?_, by omega, ?_, ?_, ?_, HB.out⟩
        · rfl
        · omega
        · have := hm.out; omega
        · have := HI.out; have := HDr.out; omega
      case measure => simp [intOf]; omega
    · obtain rfl : j = x.f5.length := by omega
      have hfin : min (acc + 1) most = min (cdepth x : Int) most := by have e1 := HI.out; have e2 := HD.out; rw [List.drop_eq_nil_of_le (Nat.le_refl _), cdepthL] at e1; omega
      have hmn : (if most < acc + 1 then most else acc + 1) = min (cdepth x : Int) most := by rw [← hfin]; split <;> omega
      go_wp2_with fail
      go_ret
      exact ⟨rfl, HB.out⟩
set_option maxRecDepth 100000 in
set_option maxHeartbeats 400000 in
theorem deep_u {x : S54} {p : Addr} {most : Int} {w : World} (hm1 : Aside0 (2 ≤ most)) (hk1 : Aside0 (x.f0 = 1)) (hp : Aside0 (AtC w p x)) (h8 : Aside0 (cnodes x ≤ 8192)) (hm : Aside0 (most ≤ 201)) (IH : Aside0 (∀ (y : S54) (q : Addr) (m : Int) (w : World), cnodes y < cnodes x → cnodes y ≤ 8192 → 1 ≤ m → m ≤ 201 → AtC w q y → Calls Tryd.prog 45 #[.pointer (some q), .int .i64 m] w (DeepPost (min (cdepth y : Int) m) w))) : Calls Tryd.prog 45 #[.pointer (some p), .int .i64 most] w (DeepPost (min (cdepth x : Int) most) w) := by
  obtain ⟨A2, c2, A4, c4, A7, c7, hP, hT, hU, hl7, hC⟩ := hp.out
  have HP := Aside0.mk hP
  have HT := Aside0.mk hT
  have HU := Aside0.mk hU
  have HC := Aside0.mk hC
  have hL : x.f5.length ≤ 9223372036854775807 := hC.2.1
  clear hP hT hU hC
  have HB := Aside0.mk (Below.refl w.heap.size w)
  have hb1 := hm1.out
  have hb2 := hm.out
  have gm : (most == 1) = false := beq_eq_false_iff_ne.mpr (by have := hm1.out; omega)
  have hd1 := depthI_ge x.f1
  have hd2 := depthI_ge x.f2
  have hlf : leafB x.f0 = true := by rw [hk1.out]; rfl
  have gk : (x.f0 == 1) = true := by rw [hk1.out]; rfl
  have HD : Aside0 ((cdepth x : Int) = 1 + max (max (depthI x.f1) (depthI x.f2)) (cdepthL x.f5 : Int)) := .mk (by rw [cdepth_eq, hlf]; simp only [if_true, if_pos hk1.out]; omega)
  obtain ⟨k0, k1, k2, k3, k4, k5, k6, k7⟩ := HP.out.below HB.out (Nat.le_refl _)
  go_enter Tryd.func45, Tryd.ntmps45
  go_wp2_with fail
  clear k0 k1 k2 k3 k4 k5 k6 k7
  refine (leaf_calls x.f0 _).mono ?_
  rintro e w1 ⟨rfl, hB⟩
  rw [hlf]
  replace HB := Aside0.mk (below_then HB.out HB.out.size hB)
  clear hB
  obtain ⟨k0, k1, k2, k3, k4, k5, k6, k7⟩ := HP.out.below HB.out (Nat.le_refl _)
  go_wp2_with fail
  clear k0 k1 k2 k3 k4 k5 k6 k7
  refine (Depth_calls (HT.out.below HB.out)).mono ?_
  rintro e w2 ⟨rfl, hB⟩
  replace HB := Aside0.mk (below_then HB.out HB.out.size hB)
  clear hB
  obtain ⟨k0, k1, k2, k3, k4, k5, k6, k7⟩ := HP.out.below HB.out (Nat.le_refl _)
  go_wp2_with fail
  clear k0 k1 k2 k3 k4 k5 k6 k7
  refine (Depth_calls (HU.out.below HB.out)).mono ?_
  rintro e w3 ⟨rfl, hB⟩
  replace HB := Aside0.mk (below_then HB.out HB.out.size hB)
  clear hB
  obtain ⟨k0, k1, k2, k3, k4, k5, k6, k7⟩ := HP.out.below HB.out (Nat.le_refl _)
  have hmx : (if depthI x.f1 < depthI x.f2 then depthI x.f2 else depthI x.f1) = max (depthI x.f1) (depthI x.f2) := by split <;> omega
  go_wp2_with fail
  clear k0 k1 k2 k3 k4 k5 k6 k7
  have hd0 : 0 ≤ max (depthI x.f1) (depthI x.f2) ∧ max (depthI x.f1) (depthI x.f2) ≤ 201 := by omega
  generalize max (depthI x.f1) (depthI x.f2) = d0 at *
  go_loopw [5, 36] (fun d i wr => ∃ (j : Nat) (acc : Int), i = .int .i64 j ∧ d = .int .i64 acc ∧ j ≤ x.f5.length ∧ 0 ≤ acc ∧ acc ≤ 201 ∧ min (max acc (cdepthL (x.f5.drop j) : Int)) (most - 1) = min (max d0 (cdepthL x.f5 : Int)) (most - 1) ∧ Below w.heap.size w wr) (fun _ i _ => x.f5.length - (intOf i).toNat)
  case atStart => exact ⟨0, d0, rfl, rfl, Nat.zero_le _, hd0.1, hd0.2, by rw [List.drop_zero], HB.out⟩
  case round =>
    clear HB
    obtain ⟨j, acc, rfl, rfl, hj, ha0, ha1, hinv, hB⟩ := hrel
    have HB := Aside0.mk hB
    have HI := Aside0.mk hinv
    clear hB hinv
    obtain ⟨k0, k1, k2, k3, k4, k5, k6, k7⟩ := HP.out.below HB.out (Nat.le_refl _)
    by_cases hlt : j < x.f5.length
    · obtain ⟨ad, rfl, hK⟩ := AtC_kid (Kd.C_below HC.out HB.out) (j : Int) (by omega) (by omega) rfl
      have HK := Aside0.mk hK
      have HDr := Aside0.mk (cdepthL_drop x.f5 j hlt)
      have HN : Aside0 (cnodes (rd_T54 x.f5 (j : Int)) < cnodes x) := .mk (by have e1 := cnodesL_drop x.f5 j hlt; have e2 := cnodesL_drop_le x.f5 j; have e3 := cnodes_eq x; omega)
      clear hK
      generalize rd_T54 x.f5 (j : Int) = y at *
      go_wp2_with fail
      clear k0 k1 k2 k3 k4 k5 k6 k7
      refine (IH.out y _ (most - 1) _ HN.out (by have := HN.out; have := h8.out; omega) (by have := hm1.out; omega) (by have := hm.out; omega) HK.out).mono ?_
      rintro e w5 ⟨rfl, hB⟩
      replace HB := Aside0.mk (below_then HB.out HB.out.size hB)
      clear hB
      have hcd : 0 ≤ (cdepth y : Int) := by omega
      have hmx2 : (if acc < min (cdepth y : Int) (most - 1) then min (cdepth y : Int) (most - 1) else acc) = max acc (min (cdepth y : Int) (most - 1)) := by split <;> omega
      go_wp2_with fail
      go_roundw
      case rel =>
        refine ⟨j + 1, max acc (min (cdepth y : Int) (most - 1)), by go_num, ?_, by omega, ?_, ?_, ?_, HB.out⟩
        · rfl
        · omega
        · have := hm.out; omega
        · have := HI.out; have := HDr.out; omega
      case measure => simp [intOf]; omega
    · obtain rfl : j = x.f5.length := by omega
      have hfin : min (acc + 1) most = min (cdepth x : Int) most := by have e1 := HI.out; have e2 := HD.out; rw [List.drop_eq_nil_of_le (Nat.le_refl _), cdepthL] at e1; omega
      have hmn : (if most < acc + 1 then most else acc + 1) = min (cdepth x : Int) most := by rw [← hfin]; split <;> omega
      go_wp2_with fail
      go_ret
      exact ⟨rfl, HB.out⟩
theorem deep_at (n : Nat) : ∀ (x : S54) (p : Addr) (most : Int) (w : World), cnodes x < n → cnodes x ≤ 8192 → 1 ≤ most → most ≤ 201 → AtC w p x → Calls Tryd.prog 45 #[.pointer (some p), .int .i64 most] w (DeepPost (min (cdepth x : Int) most) w) := by
  induction n with
  | zero => intro x p most w h; omega
  | succ n ih =>
  intro x p most w hn h8 h1 h2 hx
  by_cases hm : most = 1
  · subst hm
    have : min (cdepth x : Int) 1 = 1 := by have := cdepth_eq x; omega
    rw [this]
    exact deep_one
  · have IH : Aside0 (∀ (y : S54) (q : Addr) (m : Int) (w : World), cnodes y < cnodes x → cnodes y ≤ 8192 → 1 ≤ m → m ≤ 201 → AtC w q y → Calls Tryd.prog 45 #[.pointer (some q), .int .i64 m] w (DeepPost (min (cdepth y : Int) m) w)) := ⟨fun y q m w a => ih y q m w (by omega)⟩
    by_cases hk : x.f0 = 1
    · exact deep_u ⟨by omega⟩ ⟨hk⟩ ⟨hx⟩ ⟨h8⟩ ⟨h2⟩ IH
    · cases hl : leafB x.f0 with
      | false => exact deep_n ⟨by omega⟩ ⟨hl⟩ ⟨hx⟩ ⟨h8⟩ ⟨h2⟩ IH
      | true => exact deep_t ⟨by omega⟩ ⟨hl⟩ ⟨hk⟩ ⟨hx⟩ ⟨h8⟩ ⟨h2⟩ IH
end Go.Proofs.YtjmpejbciniceaaDoor.X
namespace Go.Proofs.YtjmpejbciniceaaDoor.X
open Go.RowKit Go.Proofs.YtjmpejbciniceaaDoorW.PrintWords Go.Proofs.YtjmpejbciniceaaDoorW.PrintLast Go.Proofs.YtjmpejbciniceaaDoorW.PrintMore
set_option linter.unusedVariables false
set_option linter.unusedSimpArgs false
section
variable {P : Program} {ops : Array Oper} {Q : Exit → Act → World → Prop}
theorem callK {oi : Oper} {a : Act} {w : World} {f : FuncId} {args : Array Value} {R : Ending → World → Prop} {K : Act → World → Prop}
    (hw : Region.wanted oi (yielded ops a.tmps) = true) (hx : (execOp a.eval oi).run P w = .ok (.enter f args) w) (hc : Calls P f args w R)
    (h : ∀ e w', R e w' → ∃ v, e = .returned v ∧ K (a.put oi.dst v) w') : if Region.wanted oi (yielded ops a.tmps) = true then Oper.wp P oi a w K Q else K (a.put oi.dst undef) w := by
  rw [if_pos hw]
  unfold Oper.wp
  rw [hx, Oper.upon_enter]
  refine hc.mono fun e w' hR => ?_
  obtain ⟨v, rfl, hW⟩ := h e w' hR
  exact hW
end
def FV (g gd : Nat) : Value := .func (.func 93) #[] #[.pointer (some ⟨g, 0, none⟩), .pointer (some ⟨gd, 0, none⟩)]
structure CSt (w0 wi : World) (g gd : Nat) (r : Int) (w : World) : Prop where
  mk ::
  below : Below w0.heap.size w0 w
  keep : KeepBut wi w g none
  cell : w.heap[g]? = some (.cells #[.int .i64 r] 3 (0, 0))
  down : w.heap[gd]? = some (.cells #[FV g gd] 88 (0, 0))
theorem CSt.next {w0 wi w w' : World} {g gd : Nat} {r : Int} (h : CSt w0 wi g gd r w) (hB : Below w.heap.size w w') : CSt w0 wi g gd r w' :=
  ⟨below_then h.below h.below.size hB, h.keep.trans (KeepBut.of_below hB g none) (.inl rfl), blk_below h.cell hB, blk_below h.down hB⟩
theorem CSt.put {w0 wi w : World} {g gd : Nat} {r : Int} (h : CSt w0 wi g gd r w) (hg : w0.heap.size ≤ g) (hne : gd ≠ g) (r' : Int) : CSt w0 wi g gd r' (w.setCell ⟨g, 0, none⟩ (.int .i64 r')) :=
  ⟨h.below.setCell hg _, h.keep.set_ 0 _, blk_put h.cell 0 _ rfl, blk_far h.down hne _⟩
theorem CSt.own {w0 wi w : World} {g gd : Nat} {r : Int} (h : CSt w0 wi g gd r w) : CSt w0 w g gd r w := ⟨h.below, KeepBut.refl _ _ _, h.cell, h.down⟩
theorem CSt.trans {w0 wi w w' : World} {g gd : Nat} {r r' : Int} (h : CSt w0 wi g gd r w) (k : CSt w0 w g gd r' w') : CSt w0 wi g gd r' w' := ⟨k.below, h.keep.trans k.keep (.inl rfl), k.cell, k.down⟩
def CntPost (w0 wi : World) (g gd : Nat) (v s : Int) (e : Ending) (w' : World) : Prop := Below w0.heap.size w0 w' ∧ KeepBut wi w' g none ∧ ((v + s ≤ 8192 ∧ e = .returned (.bool true) ∧ CSt w0 wi g gd (v + s) w') ∨ (8192 < v + s ∧ e = .returned (.bool false)))
set_option maxRecDepth 100000 in
set_option maxHeartbeats 3200000 in
theorem counted_n {x : S54} {p : Addr} {w0 w : World} {g gd : Nat} {v : Int} (hv0 : 0 ≤ v) (hv1 : v ≤ 8192) (hg : w0.heap.size ≤ g) (hne : gd ≠ g) (hLo : Aside0 (leafB x.f0 = false)) (hs : Aside0 (CSt w0 w g gd v w)) (hp : Aside0 (AtC w0 p x)) (IH : Aside0 (∀ (y : S54) (q : Addr) (r : Int) (w : World), cnodes y < cnodes x → 0 ≤ r → r ≤ 8192 → CSt w0 w g gd r w → AtC w0 q y → Calls Tryd.prog 93 #[.pointer (some q), .pointer (some ⟨g, 0, none⟩), .pointer (some ⟨gd, 0, none⟩)] w (CntPost w0 w g gd r (cnodes y)))) :
    Calls Tryd.prog 93 #[.pointer (some p), .pointer (some ⟨g, 0, none⟩), .pointer (some ⟨gd, 0, none⟩)] w (CntPost w0 w g gd v (cnodes x)) := by
  obtain ⟨A2, c2, A4, c4, A7, c7, hP, hT, hU, hl7, hC⟩ := hp.out
  have HP := Aside0.mk hP
  have HT := Aside0.mk hT
  have HU := Aside0.mk hU
  have HC := Aside0.mk hC
  have hL : x.f5.length ≤ 9223372036854775807 := hC.2.1
  clear hP hT hU hC
  have HS := hs
  obtain ⟨n1, hn1⟩ : ∃ n : Int, ((min (nodes x.f1) 8193 : Nat) : Int) = n := ⟨_, rfl⟩
  obtain ⟨n2, hn3⟩ : ∃ n : Int, ((min (nodes x.f2) 8193 : Nat) : Int) = n := ⟨_, rfl⟩
  have h1n : 0 ≤ n1 ∧ n1 ≤ 8193 := by omega
  have h2n : 0 ≤ n2 ∧ n2 ≤ 8193 := by omega
  have hlf := hLo.out
  have gk : (x.f0 == 1) = false := beq_eq_false_iff_ne.mpr fun h => by rw [h] at hlf; simp [leafB] at hlf
  have HR : Aside0 (v + 1 + cnodesL x.f5 = v + cnodes x) := .mk (by rw [cnodes_eq, hlf]; simp only [Bool.false_eq_true, if_false, if_neg (beq_eq_false_iff_ne.mp gk)]; omega)
  have n0 := (blk_cell HS.out.cell 0).trans rfl
  have z0 := blk_frozen HS.out.cell 0
  simp at n0
  replace HS := Aside0.mk (HS.out.put hg hne (v + 1))
  obtain ⟨k0, k1, k2, k3, k4, k5, k6, k7⟩ := HP.out.below HS.out.below (Nat.le_refl _)
  go_enter Tryd.func93, Tryd.ntmps93
  go_wp2_with fail
  clear n0 z0
  clear k0 k1 k2 k3 k4 k5 k6 k7
  generalize w.setCell ⟨g, 0, none⟩ (.int .i64 (v + 1)) = w1 at *
  refine (leaf_calls x.f0 _).mono ?_
  rintro e w2 ⟨rfl, hB⟩
  rw [hlf]
  replace HS := Aside0.mk (HS.out.next hB)
  clear hB
  obtain ⟨k0, k1, k2, k3, k4, k5, k6, k7⟩ := HP.out.below HS.out.below (Nat.le_refl _)
  go_wp2_with fail
  clear k0 k1 k2 k3 k4 k5 k6 k7
  go_loopw [37] (fun i wr => ∃ (j : Nat) (r : Int), i = .int .i64 j ∧ j ≤ x.f5.length ∧ 0 ≤ r ∧ r ≤ 30000 ∧ r + cnodesL (x.f5.drop j) = v + cnodes x ∧ CSt w0 w g gd r wr) (fun i _ => x.f5.length - (intOf i).toNat)
  case atStart => exact ⟨0, v + 1, rfl, Nat.zero_le _, by omega, by omega, by rw [List.drop_zero]; exact HR.out, HS.out⟩
  case round =>
    clear HS
    obtain ⟨j, r, rfl, hj, hr0, hr1, hinv, hS⟩ := hrel
    have HS := Aside0.mk hS
    have HI := Aside0.mk hinv
    clear hS hinv
    by_cases hlt : j < x.f5.length
    · obtain ⟨ad, rfl, hK⟩ := AtC_kid HC.out (j : Int) (by omega) (by omega) rfl
      have HK := Aside0.mk hK
      have HDr := Aside0.mk (cnodesL_drop x.f5 j hlt)
      have HN : Aside0 (cnodes (rd_T54 x.f5 (j : Int)) < cnodes x) := .mk (by have e1 := cnodesL_drop x.f5 j hlt; have e2 := cnodesL_drop_le x.f5 j; have e3 := cnodes_eq x; omega)
      clear hK
      generalize rd_T54 x.f5 (j : Int) = y at *
      go_wp2_with fail
      refine wp_region_held_drew (S := fun w' => w'.cell? ⟨gd, 0, none⟩ = some (FV g gd) ∧ w'.cell? ⟨p.block, p.off + 7, none⟩ = some (.slice (some ad) x.f5.length c7)) (by kernel_rfl) ⟨(blk_cell HS.out.down 0).trans rfl, (HP.out.below HS.out.below (Nat.le_refl _)).2.2.2.2.2.2.2⟩ (fun hHeld => ?_)
      have hB := (Below.refl wr.heap.size wr).drew
      replace HS := Aside0.mk (HS.out.next hB)
      clear hB
      generalize wr.drew = w30 at *
      refine wpAnyH_ready (rs := [0]) (by kernel_rfl) (by simp) ?_
      refine AllReadyH.cons rfl (fun K hK => ?_) AllReadyH.nil
      have n0 := (blk_cell HS.out.cell 0).trans rfl
      have z0 := blk_frozen HS.out.cell 0
      simp at n0
      go_simp
      clear n0 z0
      refine hK.out _ _ hHeld (fun hHeld => ?_)
      clear hK K
      try simp only [Act.put, List.setIfInBounds_toArray, List.set_cons_zero, List.set_cons_succ]
      by_cases h9 : r ≤ 8192
      · have hgt : decide (8192 < r) = false := decide_eq_false (by omega)
        refine tK 41 1 hHeld ?_
        try rw [hgt]
        refine tK 42 2 hHeld ?_
        refine tK 43 3 hHeld ?_
        refine tK 44 4 hHeld ?_
        refine tK 45 5 hHeld ?_
        refine tK 46 6 hHeld ?_
        refine tK 47 7 hHeld ?_
        refine tK 48 8 hHeld ?_
        refine tK 49 9 hHeld ?_
        refine cK 50 10 (IH.out y _ r _ HN.out hr0 h9 HS.out.own HK.out) ?_
        rintro e w31 ⟨hB, hK, hpost⟩
        have HB2 := Aside0.mk hB
        have HK2 := Aside0.mk (HS.out.keep.trans hK (.inl rfl))
        have HDn := Aside0.mk (hK.blk HS.out.down hne (by simp))
        clear hB hK
        have HP2 := Aside0.mk (HP.out.below HB2.out (Nat.le_refl _))
        rcases hpost with ⟨hle, rfl, hS⟩ | ⟨hgt2, rfl⟩
        · replace HS := Aside0.mk (HS.out.trans hS)
          clear hS
          refine ⟨_, rfl, ⟨(blk_cell HDn.out 0).trans rfl, HP2.out.2.2.2.2.2.2.2⟩, fun hHeld => nA ?_⟩
          refine tK 51 11 hHeld ?_
          refine tK 52 12 hHeld ?_
          refine wpAnyH_done (by kernel_rfl) ?_ _
          go_wp2_with fail
          go_roundw
          case rel => exact ⟨j + 1, r + cnodes y, by go_num, by omega, by omega, by omega, by have := HI.out; have := HDr.out; omega, HS.out⟩
          case measure => simp [intOf]; omega
        · refine ⟨_, rfl, ⟨(blk_cell HDn.out 0).trans rfl, HP2.out.2.2.2.2.2.2.2⟩, fun hHeld => nA ?_⟩
          refine tK 51 11 hHeld ?_
          refine tK 52 12 hHeld ?_
          refine wpAnyH_done (by kernel_rfl) ?_ _
          go_wp2_with fail
          go_ret
          exact ⟨HB2.out, HK2.out, .inr ⟨by have := HI.out; have := HDr.out; omega, rfl⟩⟩
      · have hgt : decide (8192 < r) = true := decide_eq_true (by omega)
        refine tK 41 1 hHeld ?_
        try rw [hgt]
        refine tK 42 2 hHeld ?_
        refine pK 43 3 hHeld ?_
        refine pK 44 4 hHeld ?_
        refine pK 45 5 hHeld ?_
        refine pK 46 6 hHeld ?_
        refine pK 47 7 hHeld ?_
        refine pK 48 8 hHeld ?_
        refine pK 49 9 hHeld ?_
        refine pK 50 10 hHeld ?_
        refine pK 51 11 hHeld ?_
        refine tK 52 12 hHeld ?_
        refine wpAnyH_done (by kernel_rfl) ?_ _
        go_wp2_with fail
        go_ret
        exact ⟨HS.out.below, HS.out.keep, .inr ⟨by have := HI.out; omega, rfl⟩⟩
    · obtain rfl : j = x.f5.length := by omega
      have he : r = v + cnodes x := by have := HI.out; rw [List.drop_eq_nil_of_le (Nat.le_refl _), cnodesL] at this; omega
      subst he
      have n0 := (blk_cell HS.out.cell 0).trans rfl
      have z0 := blk_frozen HS.out.cell 0
      simp at n0
      by_cases h9 : v + (cnodes x : Int) ≤ 8192
      · have hle : decide (v + (cnodes x : Int) ≤ 8192) = true := decide_eq_true h9
        go_wp2_with fail
        go_ret
        exact ⟨HS.out.below, HS.out.keep, .inl ⟨by omega, rfl, HS.out⟩⟩
      · have hle : decide (v + (cnodes x : Int) ≤ 8192) = false := decide_eq_false h9
        go_wp2_with fail
        go_ret
        exact ⟨HS.out.below, HS.out.keep, .inr ⟨by omega, rfl⟩⟩
set_option maxRecDepth 100000 in
set_option maxHeartbeats 3200000 in
theorem counted_t {x : S54} {p : Addr} {w0 w : World} {g gd : Nat} {v : Int} (hv0 : 0 ≤ v) (hv1 : v ≤ 8192) (hg : w0.heap.size ≤ g) (hne : gd ≠ g) (hLo : Aside0 (leafB x.f0 = true)) (hk1 : Aside0 (x.f0 ≠ 1)) (hs : Aside0 (CSt w0 w g gd v w)) (hp : Aside0 (AtC w0 p x)) (IH : Aside0 (∀ (y : S54) (q : Addr) (r : Int) (w : World), cnodes y < cnodes x → 0 ≤ r → r ≤ 8192 → CSt w0 w g gd r w → AtC w0 q y → Calls Tryd.prog 93 #[.pointer (some q), .pointer (some ⟨g, 0, none⟩), .pointer (some ⟨gd, 0, none⟩)] w (CntPost w0 w g gd r (cnodes y)))) :
    Calls Tryd.prog 93 #[.pointer (some p), .pointer (some ⟨g, 0, none⟩), .pointer (some ⟨gd, 0, none⟩)] w (CntPost w0 w g gd v (cnodes x)) := by
  obtain ⟨A2, c2, A4, c4, A7, c7, hP, hT, hU, hl7, hC⟩ := hp.out
  have HP := Aside0.mk hP
  have HT := Aside0.mk hT
  have HU := Aside0.mk hU
  have HC := Aside0.mk hC
  have hL : x.f5.length ≤ 9223372036854775807 := hC.2.1
  clear hP hT hU hC
  have HS := hs
  obtain ⟨n1, hn1⟩ : ∃ n : Int, ((min (nodes x.f1) 8193 : Nat) : Int) = n := ⟨_, rfl⟩
  obtain ⟨n2, hn3⟩ : ∃ n : Int, ((min (nodes x.f2) 8193 : Nat) : Int) = n := ⟨_, rfl⟩
  have h1n : 0 ≤ n1 ∧ n1 ≤ 8193 := by omega
  have h2n : 0 ≤ n2 ∧ n2 ≤ 8193 := by omega
  have hlf := hLo.out
  have gk : (x.f0 == 1) = false := beq_eq_false_iff_ne.mpr hk1.out
  have HR : Aside0 (v + 1 + n1 + cnodesL x.f5 = v + cnodes x) := .mk (by rw [cnodes_eq, hlf]; simp only [if_true, if_neg (beq_eq_false_iff_ne.mp gk)]; omega)
  have n0 := (blk_cell HS.out.cell 0).trans rfl
  have z0 := blk_frozen HS.out.cell 0
  simp at n0
  replace HS := Aside0.mk (HS.out.put hg hne (v + 1))
  obtain ⟨k0, k1, k2, k3, k4, k5, k6, k7⟩ := HP.out.below HS.out.below (Nat.le_refl _)
  go_enter Tryd.func93, Tryd.ntmps93
  go_wp2_with fail
  clear n0 z0
  clear k0 k1 k2 k3 k4 k5 k6 k7
  generalize w.setCell ⟨g, 0, none⟩ (.int .i64 (v + 1)) = w1 at *
  refine (leaf_calls x.f0 _).mono ?_
  rintro e w2 ⟨rfl, hB⟩
  rw [hlf]
  replace HS := Aside0.mk (HS.out.next hB)
  clear hB
  obtain ⟨k0, k1, k2, k3, k4, k5, k6, k7⟩ := HP.out.below HS.out.below (Nat.le_refl _)
  go_wp2_with fail
  clear k0 k1 k2 k3 k4 k5 k6 k7
  refine wp_region_held_drew (S := fun w' => w'.cell? ⟨p.block, p.off + 1, none⟩ = some (.int .i8 x.f1.f0) ∧ w'.cell? ⟨p.block, p.off + 2, none⟩ = some (.slice A2 x.f1.f1.length c2)) (by kernel_rfl) ⟨(HP.out.below HS.out.below (Nat.le_refl _)).2.1, (HP.out.below HS.out.below (Nat.le_refl _)).2.2.1⟩ (fun hHeld => ?_)
  have hB := (Below.refl w2.heap.size w2).drew
  replace HS := Aside0.mk (HS.out.next hB)
  clear hB
  generalize w2.drew = w11 at *
  refine tK 14 1 hHeld ?_
  refine tK 15 2 hHeld ?_
  refine tK 16 3 hHeld ?_
  refine tK 17 4 hHeld ?_
  refine wpAnyH_ready (rs := [0, 5]) (by kernel_rfl) (by simp) ?_
  refine AllReadyH.cons rfl (fun K hK => ?_) (AllReadyH.cons rfl (fun K hK => ?_) AllReadyH.nil)
  · have n0 := (blk_cell HS.out.cell 0).trans rfl
    have z0 := blk_frozen HS.out.cell 0
    simp at n0
    go_simp
    clear n0 z0
    refine hK.out _ _ hHeld (fun hHeld => ?_)
    clear hK K
    try simp only [Act.put, List.setIfInBounds_toArray, List.set_cons_zero, List.set_cons_succ]
    refine cK 18 5 (Nodes_calls (HT.out.below HS.out.below)) ?_
    rintro e w12 ⟨rfl, hB⟩
    replace HS := Aside0.mk (HS.out.next hB)
    clear hB
    rw [hn1]
    refine ⟨_, rfl, ⟨(HP.out.below HS.out.below (Nat.le_refl _)).2.1, (HP.out.below HS.out.below (Nat.le_refl _)).2.2.1⟩, fun hHeld => nA ?_⟩
    have hwr : IntKind.i64.wrap (v + 1 + n1) = v + 1 + n1 := IntWalk.i64_in _ (by omega)
    refine tK 19 6 hHeld ?_
    try rw [hwr]
    clear hwr
    refine wpAnyH_ready (rs := [7]) (by kernel_rfl) (by simp) ?_
    refine AllReadyH.cons rfl (fun K hK => ?_) AllReadyH.nil
    have n0 := (blk_cell HS.out.cell 0).trans rfl
    have z0 := blk_frozen HS.out.cell 0
    simp at n0
    go_simp
    clear n0 z0
    replace HS := Aside0.mk (HS.out.put hg hne (v + 1 + n1))
    refine hK.out _ _ ⟨(HP.out.below HS.out.below (Nat.le_refl _)).2.1, (HP.out.below HS.out.below (Nat.le_refl _)).2.2.1⟩ (fun hHeld => ?_)
    clear hK K hHeld
    try simp only [Act.put, List.setIfInBounds_toArray, List.set_cons_zero, List.set_cons_succ]
    generalize w12.setCell ⟨g, 0, none⟩ (.int .i64 (v + 1 + n1)) = wz at *
    refine wpAnyH_done (by kernel_rfl) ?_ _
    obtain ⟨k0, k1, k2, k3, k4, k5, k6, k7⟩ := HP.out.below HS.out.below (Nat.le_refl _)
    go_wp2_with fail
    clear k0 k1 k2 k3 k4 k5 k6 k7
    go_loopw [37] (fun i wr => ∃ (j : Nat) (r : Int), i = .int .i64 j ∧ j ≤ x.f5.length ∧ 0 ≤ r ∧ r ≤ 30000 ∧ r + cnodesL (x.f5.drop j) = v + cnodes x ∧ CSt w0 w g gd r wr) (fun i _ => x.f5.length - (intOf i).toNat)
    case atStart => exact ⟨0, v + 1 + n1, rfl, Nat.zero_le _, by omega, by omega, by rw [List.drop_zero]; exact HR.out, HS.out⟩
    case round =>
      clear HS
      obtain ⟨j, r, rfl, hj, hr0, hr1, hinv, hS⟩ := hrel
      have HS := Aside0.mk hS
      have HI := Aside0.mk hinv
      clear hS hinv
      by_cases hlt : j < x.f5.length
      · obtain ⟨ad, rfl, hK⟩ := AtC_kid HC.out (j : Int) (by omega) (by omega) rfl
        have HK := Aside0.mk hK
        have HDr := Aside0.mk (cnodesL_drop x.f5 j hlt)
        have HN : Aside0 (cnodes (rd_T54 x.f5 (j : Int)) < cnodes x) := .mk (by have e1 := cnodesL_drop x.f5 j hlt; have e2 := cnodesL_drop_le x.f5 j; have e3 := cnodes_eq x; omega)
        clear hK
        generalize rd_T54 x.f5 (j : Int) = y at *
        go_wp2_with fail
        refine wp_region_held_drew (S := fun w' => w'.cell? ⟨gd, 0, none⟩ = some (FV g gd) ∧ w'.cell? ⟨p.block, p.off + 7, none⟩ = some (.slice (some ad) x.f5.length c7)) (by kernel_rfl) ⟨(blk_cell HS.out.down 0).trans rfl, (HP.out.below HS.out.below (Nat.le_refl _)).2.2.2.2.2.2.2⟩ (fun hHeld => ?_)
        have hB := (Below.refl wr.heap.size wr).drew
        replace HS := Aside0.mk (HS.out.next hB)
        clear hB
        generalize wr.drew = w30 at *
        refine wpAnyH_ready (rs := [0]) (by kernel_rfl) (by simp) ?_
        refine AllReadyH.cons rfl (fun K hK => ?_) AllReadyH.nil
        have n0 := (blk_cell HS.out.cell 0).trans rfl
        have z0 := blk_frozen HS.out.cell 0
        simp at n0
        go_simp
        clear n0 z0
        refine hK.out _ _ hHeld (fun hHeld => ?_)
        clear hK K
        try simp only [Act.put, List.setIfInBounds_toArray, List.set_cons_zero, List.set_cons_succ]
        by_cases h9 : r ≤ 8192
        · have hgt : decide (8192 < r) = false := decide_eq_false (by omega)
          refine tK 41 1 hHeld ?_
          try rw [hgt]
          refine tK 42 2 hHeld ?_
          refine tK 43 3 hHeld ?_
          refine tK 44 4 hHeld ?_
          refine tK 45 5 hHeld ?_
          refine tK 46 6 hHeld ?_
          refine tK 47 7 hHeld ?_
          refine tK 48 8 hHeld ?_
          refine tK 49 9 hHeld ?_
          refine cK 50 10 (IH.out y _ r _ HN.out hr0 h9 HS.out.own HK.out) ?_
          rintro e w31 ⟨hB, hK, hpost⟩
          have HB2 := Aside0.mk hB
          have HK2 := Aside0.mk (HS.out.keep.trans hK (.inl rfl))
          have HDn := Aside0.mk (hK.blk HS.out.down hne (by simp))
          clear hB hK
          have HP2 := Aside0.mk (HP.out.below HB2.out (Nat.le_refl _))
          rcases hpost with ⟨hle, rfl, hS⟩ | ⟨hgt2, rfl⟩
          · replace HS := Aside0.mk (HS.out.trans hS)
            clear hS
            refine ⟨_, rfl, ⟨(blk_cell HDn.out 0).trans rfl, HP2.out.2.2.2.2.2.2.2⟩, fun hHeld => nA ?_⟩
            refine tK 51 11 hHeld ?_
            refine tK 52 12 hHeld ?_
            refine wpAnyH_done (by kernel_rfl) ?_ _
            go_wp2_with fail
            go_roundw
            case rel => exact ⟨j + 1, r + cnodes y, by go_num, by omega, by omega, by omega, by have := HI.out; have := HDr.out; omega, HS.out⟩
            case measure => simp [intOf]; omega
          · refine ⟨_, rfl, ⟨(blk_cell HDn.out 0).trans rfl, HP2.out.2.2.2.2.2.2.2⟩, fun hHeld => nA ?_⟩
            refine tK 51 11 hHeld ?_
            refine tK 52 12 hHeld ?_
            refine wpAnyH_done (by kernel_rfl) ?_ _
            go_wp2_with fail
            go_ret
            exact ⟨HB2.out, HK2.out, .inr ⟨by have := HI.out; have := HDr.out; omega, rfl⟩⟩
        · have hgt : decide (8192 < r) = true := decide_eq_true (by omega)
          refine tK 41 1 hHeld ?_
          try rw [hgt]
          refine tK 42 2 hHeld ?_
          refine pK 43 3 hHeld ?_
          refine pK 44 4 hHeld ?_
          refine pK 45 5 hHeld ?_
          refine pK 46 6 hHeld ?_
          refine pK 47 7 hHeld ?_
          refine pK 48 8 hHeld ?_
          refine pK 49 9 hHeld ?_
          refine pK 50 10 hHeld ?_
          refine pK 51 11 hHeld ?_
          refine tK 52 12 hHeld ?_
          refine wpAnyH_done (by kernel_rfl) ?_ _
          go_wp2_with fail
          go_ret
          exact ⟨HS.out.below, HS.out.keep, .inr ⟨by have := HI.out; omega, rfl⟩⟩
      · obtain rfl : j = x.f5.length := by omega
        have he : r = v + cnodes x := by have := HI.out; rw [List.drop_eq_nil_of_le (Nat.le_refl _), cnodesL] at this; omega
        subst he
        have n0 := (blk_cell HS.out.cell 0).trans rfl
        have z0 := blk_frozen HS.out.cell 0
        simp at n0
        by_cases h9 : v + (cnodes x : Int) ≤ 8192
        · have hle : decide (v + (cnodes x : Int) ≤ 8192) = true := decide_eq_true h9
          go_wp2_with fail
          go_ret
          exact ⟨HS.out.below, HS.out.keep, .inl ⟨by omega, rfl, HS.out⟩⟩
        · have hle : decide (v + (cnodes x : Int) ≤ 8192) = false := decide_eq_false h9
          go_wp2_with fail
          go_ret
          exact ⟨HS.out.below, HS.out.keep, .inr ⟨by omega, rfl⟩⟩
  · refine callK (by rfl) (by kernel_rfl) (Nodes_calls (HT.out.below HS.out.below)) ?_
    rintro e w13 ⟨rfl, hB⟩
    replace HS := Aside0.mk (HS.out.next hB)
    clear hB
    rw [hn1]
    refine ⟨_, rfl, ?_⟩
    refine hK.out _ _ ⟨(HP.out.below HS.out.below (Nat.le_refl _)).2.1, (HP.out.below HS.out.below (Nat.le_refl _)).2.2.1⟩ (fun hHeld => ?_)
    clear hK K
    try simp only [Act.put, List.setIfInBounds_toArray, List.set_cons_zero, List.set_cons_succ]
    refine wpAnyH_ready (rs := [0]) (by kernel_rfl) (by simp) ?_
    refine AllReadyH.cons rfl (fun K hK => ?_) AllReadyH.nil
    have n0 := (blk_cell HS.out.cell 0).trans rfl
    have z0 := blk_frozen HS.out.cell 0
    simp at n0
    go_simp
    clear n0 z0
    refine hK.out _ _ hHeld (fun hHeld => ?_)
    clear hK K
    try simp only [Act.put, List.setIfInBounds_toArray, List.set_cons_zero, List.set_cons_succ]
    have hwr : IntKind.i64.wrap (v + 1 + n1) = v + 1 + n1 := IntWalk.i64_in _ (by omega)
    refine tK 19 6 hHeld ?_
    try rw [hwr]
    clear hwr
    refine wpAnyH_ready (rs := [7]) (by kernel_rfl) (by simp) ?_
    refine AllReadyH.cons rfl (fun K hK => ?_) AllReadyH.nil
    have n0 := (blk_cell HS.out.cell 0).trans rfl
    have z0 := blk_frozen HS.out.cell 0
    simp at n0
    go_simp
    clear n0 z0
    replace HS := Aside0.mk (HS.out.put hg hne (v + 1 + n1))
    refine hK.out _ _ ⟨(HP.out.below HS.out.below (Nat.le_refl _)).2.1, (HP.out.below HS.out.below (Nat.le_refl _)).2.2.1⟩ (fun hHeld => ?_)
    clear hK K hHeld
    try simp only [Act.put, List.setIfInBounds_toArray, List.set_cons_zero, List.set_cons_succ]
    generalize w13.setCell ⟨g, 0, none⟩ (.int .i64 (v + 1 + n1)) = wz at *
    refine wpAnyH_done (by kernel_rfl) ?_ _
    obtain ⟨k0, k1, k2, k3, k4, k5, k6, k7⟩ := HP.out.below HS.out.below (Nat.le_refl _)
    go_wp2_with fail
    clear k0 k1 k2 k3 k4 k5 k6 k7
    go_loopw [37] (fun i wr => ∃ (j : Nat) (r : Int), i = .int .i64 j ∧ j ≤ x.f5.length ∧ 0 ≤ r ∧ r ≤ 30000 ∧ r + cnodesL (x.f5.drop j) = v + cnodes x ∧ CSt w0 w g gd r wr) (fun i _ => x.f5.length - (intOf i).toNat)
    case atStart => exact ⟨0, v + 1 + n1, rfl, Nat.zero_le _, by omega, by omega, by rw [List.drop_zero]; exact HR.out, HS.out⟩
    case round =>
      clear HS
      obtain ⟨j, r, rfl, hj, hr0, hr1, hinv, hS⟩ := hrel
      have HS := Aside0.mk hS
      have HI := Aside0.mk hinv
      clear hS hinv
      by_cases hlt : j < x.f5.length
      · obtain ⟨ad, rfl, hK⟩ := AtC_kid HC.out (j : Int) (by omega) (by omega) rfl
        have HK := Aside0.mk hK
        have HDr := Aside0.mk (cnodesL_drop x.f5 j hlt)
        have HN : Aside0 (cnodes (rd_T54 x.f5 (j : Int)) < cnodes x) := .mk (by have e1 := cnodesL_drop x.f5 j hlt; have e2 := cnodesL_drop_le x.f5 j; have e3 := cnodes_eq x; omega)
        clear hK
        generalize rd_T54 x.f5 (j : Int) = y at *
        go_wp2_with fail
        refine wp_region_held_drew (S := fun w' => w'.cell? ⟨gd, 0, none⟩ = some (FV g gd) ∧ w'.cell? ⟨p.block, p.off + 7, none⟩ = some (.slice (some ad) x.f5.length c7)) (by kernel_rfl) ⟨(blk_cell HS.out.down 0).trans rfl, (HP.out.below HS.out.below (Nat.le_refl _)).2.2.2.2.2.2.2⟩ (fun hHeld => ?_)
        have hB := (Below.refl wr.heap.size wr).drew
        replace HS := Aside0.mk (HS.out.next hB)
        clear hB
        generalize wr.drew = w30 at *
        refine wpAnyH_ready (rs := [0]) (by kernel_rfl) (by simp) ?_
        refine AllReadyH.cons rfl (fun K hK => ?_) AllReadyH.nil
        have n0 := (blk_cell HS.out.cell 0).trans rfl
        have z0 := blk_frozen HS.out.cell 0
        simp at n0
        go_simp
        clear n0 z0
        refine hK.out _ _ hHeld (fun hHeld => ?_)
        clear hK K
        try simp only [Act.put, List.setIfInBounds_toArray, List.set_cons_zero, List.set_cons_succ]
        by_cases h9 : r ≤ 8192
        · have hgt : decide (8192 < r) = false := decide_eq_false (by omega)
          refine tK 41 1 hHeld ?_
          try rw [hgt]
          refine tK 42 2 hHeld ?_
          refine tK 43 3 hHeld ?_
          refine tK 44 4 hHeld ?_
          refine tK 45 5 hHeld ?_
          refine tK 46 6 hHeld ?_
          refine tK 47 7 hHeld ?_
          refine tK 48 8 hHeld ?_
          refine tK 49 9 hHeld ?_
          refine cK 50 10 (IH.out y _ r _ HN.out hr0 h9 HS.out.own HK.out) ?_
          rintro e w31 ⟨hB, hK, hpost⟩
          have HB2 := Aside0.mk hB
          have HK2 := Aside0.mk (HS.out.keep.trans hK (.inl rfl))
          have HDn := Aside0.mk (hK.blk HS.out.down hne (by simp))
          clear hB hK
          have HP2 := Aside0.mk (HP.out.below HB2.out (Nat.le_refl _))
          rcases hpost with ⟨hle, rfl, hS⟩ | ⟨hgt2, rfl⟩
          · replace HS := Aside0.mk (HS.out.trans hS)
            clear hS
            refine ⟨_, rfl, ⟨(blk_cell HDn.out 0).trans rfl, HP2.out.2.2.2.2.2.2.2⟩, fun hHeld => nA ?_⟩
            refine tK 51 11 hHeld ?_
            refine tK 52 12 hHeld ?_
            refine wpAnyH_done (by kernel_rfl) ?_ _
            go_wp2_with fail
            go_roundw
            case rel => exact ⟨j + 1, r + cnodes y, by go_num, by omega, by omega, by omega, by have := HI.out; have := HDr.out; omega, HS.out⟩
            case measure => simp [intOf]; omega
          · refine ⟨_, rfl, ⟨(blk_cell HDn.out 0).trans rfl, HP2.out.2.2.2.2.2.2.2⟩, fun hHeld => nA ?_⟩
            refine tK 51 11 hHeld ?_
            refine tK 52 12 hHeld ?_
            refine wpAnyH_done (by kernel_rfl) ?_ _
            go_wp2_with fail
            go_ret
            exact ⟨HB2.out, HK2.out, .inr ⟨by have := HI.out; have := HDr.out; omega, rfl⟩⟩
        · have hgt : decide (8192 < r) = true := decide_eq_true (by omega)
          refine tK 41 1 hHeld ?_
          try rw [hgt]
          refine tK 42 2 hHeld ?_
          refine pK 43 3 hHeld ?_
          refine pK 44 4 hHeld ?_
          refine pK 45 5 hHeld ?_
          refine pK 46 6 hHeld ?_
          refine pK 47 7 hHeld ?_
          refine pK 48 8 hHeld ?_
          refine pK 49 9 hHeld ?_
          refine pK 50 10 hHeld ?_
          refine pK 51 11 hHeld ?_
          refine tK 52 12 hHeld ?_
          refine wpAnyH_done (by kernel_rfl) ?_ _
          go_wp2_with fail
          go_ret
          exact ⟨HS.out.below, HS.out.keep, .inr ⟨by have := HI.out; omega, rfl⟩⟩
      · obtain rfl : j = x.f5.length := by omega
        have he : r = v + cnodes x := by have := HI.out; rw [List.drop_eq_nil_of_le (Nat.le_refl _), cnodesL] at this; omega
        subst he
        have n0 := (blk_cell HS.out.cell 0).trans rfl
        have z0 := blk_frozen HS.out.cell 0
        simp at n0
        by_cases h9 : v + (cnodes x : Int) ≤ 8192
        · have hle : decide (v + (cnodes x : Int) ≤ 8192) = true := decide_eq_true h9
          go_wp2_with fail
          go_ret
          exact ⟨HS.out.below, HS.out.keep, .inl ⟨by omega, rfl, HS.out⟩⟩
        · have hle : decide (v + (cnodes x : Int) ≤ 8192) = false := decide_eq_false h9
          go_wp2_with fail
          go_ret
          exact ⟨HS.out.below, HS.out.keep, .inr ⟨by omega, rfl⟩⟩
set_option maxRecDepth 100000 in
set_option maxHeartbeats 3200000 in
theorem counted_u {x : S54} {p : Addr} {w0 w : World} {g gd : Nat} {v : Int} (hv0 : 0 ≤ v) (hv1 : v ≤ 8192) (hg : w0.heap.size ≤ g) (hne : gd ≠ g) (hk1 : Aside0 (x.f0 = 1)) (hs : Aside0 (CSt w0 w g gd v w)) (hp : Aside0 (AtC w0 p x)) (IH : Aside0 (∀ (y : S54) (q : Addr) (r : Int) (w : World), cnodes y < cnodes x → 0 ≤ r → r ≤ 8192 → CSt w0 w g gd r w → AtC w0 q y → Calls Tryd.prog 93 #[.pointer (some q), .pointer (some ⟨g, 0, none⟩), .pointer (some ⟨gd, 0, none⟩)] w (CntPost w0 w g gd r (cnodes y)))) :
    Calls Tryd.prog 93 #[.pointer (some p), .pointer (some ⟨g, 0, none⟩), .pointer (some ⟨gd, 0, none⟩)] w (CntPost w0 w g gd v (cnodes x)) := by
  obtain ⟨A2, c2, A4, c4, A7, c7, hP, hT, hU, hl7, hC⟩ := hp.out
  have HP := Aside0.mk hP
  have HT := Aside0.mk hT
  have HU := Aside0.mk hU
  have HC := Aside0.mk hC
  have hL : x.f5.length ≤ 9223372036854775807 := hC.2.1
  clear hP hT hU hC
  have HS := hs
  obtain ⟨n1, hn1⟩ : ∃ n : Int, ((min (nodes x.f1) 8193 : Nat) : Int) = n := ⟨_, rfl⟩
  obtain ⟨n2, hn3⟩ : ∃ n : Int, ((min (nodes x.f2) 8193 : Nat) : Int) = n := ⟨_, rfl⟩
  have h1n : 0 ≤ n1 ∧ n1 ≤ 8193 := by omega
  have h2n : 0 ≤ n2 ∧ n2 ≤ 8193 := by omega
  have hlf : leafB x.f0 = true := by rw [hk1.out]; rfl
  have gk : (x.f0 == 1) = true := by rw [hk1.out]; rfl
  have HR : Aside0 (v + 1 + n1 + n2 + cnodesL x.f5 = v + cnodes x) := .mk (by rw [cnodes_eq, hlf]; simp only [if_true, if_pos hk1.out]; omega)
  have n0 := (blk_cell HS.out.cell 0).trans rfl
  have z0 := blk_frozen HS.out.cell 0
  simp at n0
  replace HS := Aside0.mk (HS.out.put hg hne (v + 1))
  obtain ⟨k0, k1, k2, k3, k4, k5, k6, k7⟩ := HP.out.below HS.out.below (Nat.le_refl _)
  go_enter Tryd.func93, Tryd.ntmps93
  go_wp2_with fail
  clear n0 z0
  clear k0 k1 k2 k3 k4 k5 k6 k7
  generalize w.setCell ⟨g, 0, none⟩ (.int .i64 (v + 1)) = w1 at *
  refine (leaf_calls x.f0 _).mono ?_
  rintro e w2 ⟨rfl, hB⟩
  rw [hlf]
  replace HS := Aside0.mk (HS.out.next hB)
  clear hB
  obtain ⟨k0, k1, k2, k3, k4, k5, k6, k7⟩ := HP.out.below HS.out.below (Nat.le_refl _)
  go_wp2_with fail
  clear k0 k1 k2 k3 k4 k5 k6 k7
  refine wp_region_held_drew (S := fun w' => w'.cell? ⟨p.block, p.off + 1, none⟩ = some (.int .i8 x.f1.f0) ∧ w'.cell? ⟨p.block, p.off + 2, none⟩ = some (.slice A2 x.f1.f1.length c2)) (by kernel_rfl) ⟨(HP.out.below HS.out.below (Nat.le_refl _)).2.1, (HP.out.below HS.out.below (Nat.le_refl _)).2.2.1⟩ (fun hHeld => ?_)
  have hB := (Below.refl w2.heap.size w2).drew
  replace HS := Aside0.mk (HS.out.next hB)
  clear hB
  generalize w2.drew = w14 at *
  refine tK 14 1 hHeld ?_
  refine tK 15 2 hHeld ?_
  refine tK 16 3 hHeld ?_
  refine tK 17 4 hHeld ?_
  refine wpAnyH_ready (rs := [0, 5]) (by kernel_rfl) (by simp) ?_
  refine AllReadyH.cons rfl (fun K hK => ?_) (AllReadyH.cons rfl (fun K hK => ?_) AllReadyH.nil)
  · have n0 := (blk_cell HS.out.cell 0).trans rfl
    have z0 := blk_frozen HS.out.cell 0
    simp at n0
    go_simp
    clear n0 z0
    refine hK.out _ _ hHeld (fun hHeld => ?_)
    clear hK K
    try simp only [Act.put, List.setIfInBounds_toArray, List.set_cons_zero, List.set_cons_succ]
    refine cK 18 5 (Nodes_calls (HT.out.below HS.out.below)) ?_
    rintro e w15 ⟨rfl, hB⟩
    replace HS := Aside0.mk (HS.out.next hB)
    clear hB
    rw [hn1]
    refine ⟨_, rfl, ⟨(HP.out.below HS.out.below (Nat.le_refl _)).2.1, (HP.out.below HS.out.below (Nat.le_refl _)).2.2.1⟩, fun hHeld => nA ?_⟩
    have hwr : IntKind.i64.wrap (v + 1 + n1) = v + 1 + n1 := IntWalk.i64_in _ (by omega)
    refine tK 19 6 hHeld ?_
    try rw [hwr]
    clear hwr
    refine wpAnyH_ready (rs := [7]) (by kernel_rfl) (by simp) ?_
    refine AllReadyH.cons rfl (fun K hK => ?_) AllReadyH.nil
    have n0 := (blk_cell HS.out.cell 0).trans rfl
    have z0 := blk_frozen HS.out.cell 0
    simp at n0
    go_simp
    clear n0 z0
    replace HS := Aside0.mk (HS.out.put hg hne (v + 1 + n1))
    refine hK.out _ _ ⟨(HP.out.below HS.out.below (Nat.le_refl _)).2.1, (HP.out.below HS.out.below (Nat.le_refl _)).2.2.1⟩ (fun hHeld => ?_)
    clear hK K hHeld
    try simp only [Act.put, List.setIfInBounds_toArray, List.set_cons_zero, List.set_cons_succ]
    generalize w15.setCell ⟨g, 0, none⟩ (.int .i64 (v + 1 + n1)) = wz at *
    refine wpAnyH_done (by kernel_rfl) ?_ _
    obtain ⟨k0, k1, k2, k3, k4, k5, k6, k7⟩ := HP.out.below HS.out.below (Nat.le_refl _)
    go_wp2_with fail
    clear k0 k1 k2 k3 k4 k5 k6 k7
    refine wp_region_held_drew (S := fun w' => w'.cell? ⟨p.block, p.off + 3, none⟩ = some (.int .i8 x.f2.f0) ∧ w'.cell? ⟨p.block, p.off + 4, none⟩ = some (.slice A4 x.f2.f1.length c4)) (by kernel_rfl) ⟨(HP.out.below HS.out.below (Nat.le_refl _)).2.2.2.1, (HP.out.below HS.out.below (Nat.le_refl _)).2.2.2.2.1⟩ (fun hHeld => ?_)
    have hB := (Below.refl wz.heap.size wz).drew
    replace HS := Aside0.mk (HS.out.next hB)
    clear hB
    generalize wz.drew = w17 at *
    refine tK 26 1 hHeld ?_
    refine tK 27 2 hHeld ?_
    refine tK 28 3 hHeld ?_
    refine tK 29 4 hHeld ?_
    refine wpAnyH_ready (rs := [0, 5]) (by kernel_rfl) (by simp) ?_
    refine AllReadyH.cons rfl (fun K hK => ?_) (AllReadyH.cons rfl (fun K hK => ?_) AllReadyH.nil)
    · have n0 := (blk_cell HS.out.cell 0).trans rfl
      have z0 := blk_frozen HS.out.cell 0
      simp at n0
      go_simp
      clear n0 z0
      refine hK.out _ _ hHeld (fun hHeld => ?_)
      clear hK K
      try simp only [Act.put, List.setIfInBounds_toArray, List.set_cons_zero, List.set_cons_succ]
      refine cK 30 5 (Nodes_calls (HU.out.below HS.out.below)) ?_
      rintro e w18 ⟨rfl, hB⟩
      replace HS := Aside0.mk (HS.out.next hB)
      clear hB
      rw [hn3]
      refine ⟨_, rfl, ⟨(HP.out.below HS.out.below (Nat.le_refl _)).2.2.2.1, (HP.out.below HS.out.below (Nat.le_refl _)).2.2.2.2.1⟩, fun hHeld => nA ?_⟩
      have hwr : IntKind.i64.wrap (v + 1 + n1 + n2) = v + 1 + n1 + n2 := IntWalk.i64_in _ (by omega)
      refine tK 31 6 hHeld ?_
      try rw [hwr]
      clear hwr
      refine wpAnyH_ready (rs := [7]) (by kernel_rfl) (by simp) ?_
      refine AllReadyH.cons rfl (fun K hK => ?_) AllReadyH.nil
      have n0 := (blk_cell HS.out.cell 0).trans rfl
      have z0 := blk_frozen HS.out.cell 0
      simp at n0
      go_simp
      clear n0 z0
      replace HS := Aside0.mk (HS.out.put hg hne (v + 1 + n1 + n2))
      refine hK.out _ _ ⟨(HP.out.below HS.out.below (Nat.le_refl _)).2.2.2.1, (HP.out.below HS.out.below (Nat.le_refl _)).2.2.2.2.1⟩ (fun hHeld => ?_)
      clear hK K hHeld
      try simp only [Act.put, List.setIfInBounds_toArray, List.set_cons_zero, List.set_cons_succ]
      generalize w18.setCell ⟨g, 0, none⟩ (.int .i64 (v + 1 + n1 + n2)) = wy at *
      refine wpAnyH_done (by kernel_rfl) ?_ _
      obtain ⟨k0, k1, k2, k3, k4, k5, k6, k7⟩ := HP.out.below HS.out.below (Nat.le_refl _)
      go_wp2_with fail
      clear k0 k1 k2 k3 k4 k5 k6 k7
      go_loopw [37] (fun i wr => ∃ (j : Nat) (r : Int), i = .int .i64 j ∧ j ≤ x.f5.length ∧ 0 ≤ r ∧ r ≤ 30000 ∧ r + cnodesL (x.f5.drop j) = v + cnodes x ∧ CSt w0 w g gd r wr) (fun i _ => x.f5.length - (intOf i).toNat)
      case atStart => exact ⟨0, v + 1 + n1 + n2, rfl, Nat.zero_le _, by omega, by omega, by rw [List.drop_zero]; exact HR.out, HS.out⟩
      case round =>
        clear HS
        obtain ⟨j, r, rfl, hj, hr0, hr1, hinv, hS⟩ := hrel
        have HS := Aside0.mk hS
        have HI := Aside0.mk hinv
        clear hS hinv
        by_cases hlt : j < x.f5.length
        · obtain ⟨ad, rfl, hK⟩ := AtC_kid HC.out (j : Int) (by omega) (by omega) rfl
          have HK := Aside0.mk hK
          have HDr := Aside0.mk (cnodesL_drop x.f5 j hlt)
          have HN : Aside0 (cnodes (rd_T54 x.f5 (j : Int)) < cnodes x) := .mk (by have e1 := cnodesL_drop x.f5 j hlt; have e2 := cnodesL_drop_le x.f5 j; have e3 := cnodes_eq x; omega)
          clear hK
          generalize rd_T54 x.f5 (j : Int) = y at *
          go_wp2_with fail
          refine wp_region_held_drew (S := fun w' => w'.cell? ⟨gd, 0, none⟩ = some (FV g gd) ∧ w'.cell? ⟨p.block, p.off + 7, none⟩ = some (.slice (some ad) x.f5.length c7)) (by kernel_rfl) ⟨(blk_cell HS.out.down 0).trans rfl, (HP.out.below HS.out.below (Nat.le_refl _)).2.2.2.2.2.2.2⟩ (fun hHeld => ?_)
          have hB := (Below.refl wr.heap.size wr).drew
          replace HS := Aside0.mk (HS.out.next hB)
          clear hB
          generalize wr.drew = w30 at *
          refine wpAnyH_ready (rs := [0]) (by kernel_rfl) (by simp) ?_
          refine AllReadyH.cons rfl (fun K hK => ?_) AllReadyH.nil
          have n0 := (blk_cell HS.out.cell 0).trans rfl
          have z0 := blk_frozen HS.out.cell 0
          simp at n0
          go_simp
          clear n0 z0
          refine hK.out _ _ hHeld (fun hHeld => ?_)
          clear hK K
          try simp only [Act.put, List.setIfInBounds_toArray, List.set_cons_zero, List.set_cons_succ]
          by_cases h9 : r ≤ 8192
          · have hgt : decide (8192 < r) = false := decide_eq_false (by omega)
            refine tK 41 1 hHeld ?_
            try rw [hgt]
            refine tK 42 2 hHeld ?_
            refine tK 43 3 hHeld ?_
            refine tK 44 4 hHeld ?_
            refine tK 45 5 hHeld ?_
            refine tK 46 6 hHeld ?_
            refine tK 47 7 hHeld ?_
            refine tK 48 8 hHeld ?_
            refine tK 49 9 hHeld ?_
            refine cK 50 10 (IH.out y _ r _ HN.out hr0 h9 HS.out.own HK.out) ?_
            rintro e w31 ⟨hB, hK, hpost⟩
            have HB2 := Aside0.mk hB
            have HK2 := Aside0.mk (HS.out.keep.trans hK (.inl rfl))
            have HDn := Aside0.mk (hK.blk HS.out.down hne (by simp))
            clear hB hK
            have HP2 := Aside0.mk (HP.out.below HB2.out (Nat.le_refl _))
            rcases hpost with ⟨hle, rfl, hS⟩ | ⟨hgt2, rfl⟩
            · replace HS := Aside0.mk (HS.out.trans hS)
              clear hS
              refine ⟨_, rfl, ⟨(blk_cell HDn.out 0).trans rfl, HP2.out.2.2.2.2.2.2.2⟩, fun hHeld => nA ?_⟩
              refine tK 51 11 hHeld ?_
              refine tK 52 12 hHeld ?_
              refine wpAnyH_done (by kernel_rfl) ?_ _
              go_wp2_with fail
              go_roundw
              case rel => exact ⟨j + 1, r + cnodes y, by go_num, by omega, by omega, by omega, by have := HI.out; have := HDr.out; omega, HS.out⟩
              case measure => simp [intOf]; omega
            · refine ⟨_, rfl, ⟨(blk_cell HDn.out 0).trans rfl, HP2.out.2.2.2.2.2.2.2⟩, fun hHeld => nA ?_⟩
              refine tK 51 11 hHeld ?_
              refine tK 52 12 hHeld ?_
              refine wpAnyH_done (by kernel_rfl) ?_ _
              go_wp2_with fail
              go_ret
              exact ⟨HB2.out, HK2.out, .inr ⟨by have := HI.out; have := HDr.out; omega, rfl⟩⟩
          · have hgt : decide (8192 < r) = true := decide_eq_true (by omega)
            refine tK 41 1 hHeld ?_
            try rw [hgt]
            refine tK 42 2 hHeld ?_
            refine pK 43 3 hHeld ?_
            refine pK 44 4 hHeld ?_
            refine pK 45 5 hHeld ?_
            refine pK 46 6 hHeld ?_
            refine pK 47 7 hHeld ?_
            refine pK 48 8 hHeld ?_
            refine pK 49 9 hHeld ?_
            refine pK 50 10 hHeld ?_
            refine pK 51 11 hHeld ?_
            refine tK 52 12 hHeld ?_
            refine wpAnyH_done (by kernel_rfl) ?_ _
            go_wp2_with fail
            go_ret
            exact ⟨HS.out.below, HS.out.keep, .inr ⟨by have := HI.out; omega, rfl⟩⟩
        · obtain rfl : j = x.f5.length := by omega
          have he : r = v + cnodes x := by have := HI.out; rw [List.drop_eq_nil_of_le (Nat.le_refl _), cnodesL] at this; omega
          subst he
          have n0 := (blk_cell HS.out.cell 0).trans rfl
          have z0 := blk_frozen HS.out.cell 0
          simp at n0
          by_cases h9 : v + (cnodes x : Int) ≤ 8192
          · have hle : decide (v + (cnodes x : Int) ≤ 8192) = true := decide_eq_true h9
            go_wp2_with fail
            go_ret
            exact ⟨HS.out.below, HS.out.keep, .inl ⟨by omega, rfl, HS.out⟩⟩
          · have hle : decide (v + (cnodes x : Int) ≤ 8192) = false := decide_eq_false h9
            go_wp2_with fail
            go_ret
            exact ⟨HS.out.below, HS.out.keep, .inr ⟨by omega, rfl⟩⟩
    · refine callK (by rfl) (by kernel_rfl) (Nodes_calls (HU.out.below HS.out.below)) ?_
      rintro e w19 ⟨rfl, hB⟩
      replace HS := Aside0.mk (HS.out.next hB)
      clear hB
      rw [hn3]
      refine ⟨_, rfl, ?_⟩
      refine hK.out _ _ ⟨(HP.out.below HS.out.below (Nat.le_refl _)).2.2.2.1, (HP.out.below HS.out.below (Nat.le_refl _)).2.2.2.2.1⟩ (fun hHeld => ?_)
      clear hK K
      try simp only [Act.put, List.setIfInBounds_toArray, List.set_cons_zero, List.set_cons_succ]
      refine wpAnyH_ready (rs := [0]) (by kernel_rfl) (by simp) ?_
      refine AllReadyH.cons rfl (fun K hK => ?_) AllReadyH.nil
      have n0 := (blk_cell HS.out.cell 0).trans rfl
      have z0 := blk_frozen HS.out.cell 0
      simp at n0
      go_simp
      clear n0 z0
      refine hK.out _ _ hHeld (fun hHeld => ?_)
      clear hK K
      try simp only [Act.put, List.setIfInBounds_toArray, List.set_cons_zero, List.set_cons_succ]
      have hwr : IntKind.i64.wrap (v + 1 + n1 + n2) = v + 1 + n1 + n2 := IntWalk.i64_in _ (by omega)
      refine tK 31 6 hHeld ?_
      try rw [hwr]
      clear hwr
      refine wpAnyH_ready (rs := [7]) (by kernel_rfl) (by simp) ?_
      refine AllReadyH.cons rfl (fun K hK => ?_) AllReadyH.nil
      have n0 := (blk_cell HS.out.cell 0).trans rfl
      have z0 := blk_frozen HS.out.cell 0
      simp at n0
      go_simp
      clear n0 z0
      replace HS := Aside0.mk (HS.out.put hg hne (v + 1 + n1 + n2))
      refine hK.out _ _ ⟨(HP.out.below HS.out.below (Nat.le_refl _)).2.2.2.1, (HP.out.below HS.out.below (Nat.le_refl _)).2.2.2.2.1⟩ (fun hHeld => ?_)
      clear hK K hHeld
      try simp only [Act.put, List.setIfInBounds_toArray, List.set_cons_zero, List.set_cons_succ]
      generalize w19.setCell ⟨g, 0, none⟩ (.int .i64 (v + 1 + n1 + n2)) = wy at *
      refine wpAnyH_done (by kernel_rfl) ?_ _
      obtain ⟨k0, k1, k2, k3, k4, k5, k6, k7⟩ := HP.out.below HS.out.below (Nat.le_refl _)
      go_wp2_with fail
      clear k0 k1 k2 k3 k4 k5 k6 k7
      go_loopw [37] (fun i wr => ∃ (j : Nat) (r : Int), i = .int .i64 j ∧ j ≤ x.f5.length ∧ 0 ≤ r ∧ r ≤ 30000 ∧ r + cnodesL (x.f5.drop j) = v + cnodes x ∧ CSt w0 w g gd r wr) (fun i _ => x.f5.length - (intOf i).toNat)
      case atStart => exact ⟨0, v + 1 + n1 + n2, rfl, Nat.zero_le _, by omega, by omega, by rw [List.drop_zero]; exact HR.out, HS.out⟩
      case round =>
        clear HS
        obtain ⟨j, r, rfl, hj, hr0, hr1, hinv, hS⟩ := hrel
        have HS := Aside0.mk hS
        have HI := Aside0.mk hinv
        clear hS hinv
        by_cases hlt : j < x.f5.length
        · obtain ⟨ad, rfl, hK⟩ := AtC_kid HC.out (j : Int) (by omega) (by omega) rfl
          have HK := Aside0.mk hK
          have HDr := Aside0.mk (cnodesL_drop x.f5 j hlt)
          have HN : Aside0 (cnodes (rd_T54 x.f5 (j : Int)) < cnodes x) := .mk (by have e1 := cnodesL_drop x.f5 j hlt; have e2 := cnodesL_drop_le x.f5 j; have e3 := cnodes_eq x; omega)
          clear hK
          generalize rd_T54 x.f5 (j : Int) = y at *
          go_wp2_with fail
          refine wp_region_held_drew (S := fun w' => w'.cell? ⟨gd, 0, none⟩ = some (FV g gd) ∧ w'.cell? ⟨p.block, p.off + 7, none⟩ = some (.slice (some ad) x.f5.length c7)) (by kernel_rfl) ⟨(blk_cell HS.out.down 0).trans rfl, (HP.out.below HS.out.below (Nat.le_refl _)).2.2.2.2.2.2.2⟩ (fun hHeld => ?_)
          have hB := (Below.refl wr.heap.size wr).drew
          replace HS := Aside0.mk (HS.out.next hB)
          clear hB
          generalize wr.drew = w30 at *
          refine wpAnyH_ready (rs := [0]) (by kernel_rfl) (by simp) ?_
          refine AllReadyH.cons rfl (fun K hK => ?_) AllReadyH.nil
          have n0 := (blk_cell HS.out.cell 0).trans rfl
          have z0 := blk_frozen HS.out.cell 0
          simp at n0
          go_simp
          clear n0 z0
          refine hK.out _ _ hHeld (fun hHeld => ?_)
          clear hK K
          try simp only [Act.put, List.setIfInBounds_toArray, List.set_cons_zero, List.set_cons_succ]
          by_cases h9 : r ≤ 8192
          · have hgt : decide (8192 < r) = false := decide_eq_false (by omega)
            refine tK 41 1 hHeld ?_
            try rw [hgt]
            refine tK 42 2 hHeld ?_
            refine tK 43 3 hHeld ?_
            refine tK 44 4 hHeld ?_
            refine tK 45 5 hHeld ?_
            refine tK 46 6 hHeld ?_
            refine tK 47 7 hHeld ?_
            refine tK 48 8 hHeld ?_
            refine tK 49 9 hHeld ?_
            refine cK 50 10 (IH.out y _ r _ HN.out hr0 h9 HS.out.own HK.out) ?_
            rintro e w31 ⟨hB, hK, hpost⟩
            have HB2 := Aside0.mk hB
            have HK2 := Aside0.mk (HS.out.keep.trans hK (.inl rfl))
            have HDn := Aside0.mk (hK.blk HS.out.down hne (by simp))
            clear hB hK
            have HP2 := Aside0.mk (HP.out.below HB2.out (Nat.le_refl _))
            rcases hpost with ⟨hle, rfl, hS⟩ | ⟨hgt2, rfl⟩
            · replace HS := Aside0.mk (HS.out.trans hS)
              clear hS
              refine ⟨_, rfl, ⟨(blk_cell HDn.out 0).trans rfl, HP2.out.2.2.2.2.2.2.2⟩, fun hHeld => nA ?_⟩
              refine tK 51 11 hHeld ?_
              refine tK 52 12 hHeld ?_
              refine wpAnyH_done (by kernel_rfl) ?_ _
              go_wp2_with fail
              go_roundw
              case rel => exact ⟨j + 1, r + cnodes y, by go_num, by omega, by omega, by omega, by have := HI.out; have := HDr.out; omega, HS.out⟩
              case measure => simp [intOf]; omega
            · refine ⟨_, rfl, ⟨(blk_cell HDn.out 0).trans rfl, HP2.out.2.2.2.2.2.2.2⟩, fun hHeld => nA ?_⟩
              refine tK 51 11 hHeld ?_
              refine tK 52 12 hHeld ?_
              refine wpAnyH_done (by kernel_rfl) ?_ _
              go_wp2_with fail
              go_ret
              exact ⟨HB2.out, HK2.out, .inr ⟨by have := HI.out; have := HDr.out; omega, rfl⟩⟩
          · have hgt : decide (8192 < r) = true := decide_eq_true (by omega)
            refine tK 41 1 hHeld ?_
            try rw [hgt]
            refine tK 42 2 hHeld ?_
            refine pK 43 3 hHeld ?_
            refine pK 44 4 hHeld ?_
            refine pK 45 5 hHeld ?_
            refine pK 46 6 hHeld ?_
            refine pK 47 7 hHeld ?_
            refine pK 48 8 hHeld ?_
            refine pK 49 9 hHeld ?_
            refine pK 50 10 hHeld ?_
            refine pK 51 11 hHeld ?_
            refine tK 52 12 hHeld ?_
            refine wpAnyH_done (by kernel_rfl) ?_ _
            go_wp2_with fail
            go_ret
            exact ⟨HS.out.below, HS.out.keep, .inr ⟨by have := HI.out; omega, rfl⟩⟩
        · obtain rfl : j = x.f5.length := by omega
          have he : r = v + cnodes x := by have := HI.out; rw [List.drop_eq_nil_of_le (Nat.le_refl _), cnodesL] at this; omega
          subst he
          have n0 := (blk_cell HS.out.cell 0).trans rfl
          have z0 := blk_frozen HS.out.cell 0
          simp at n0
          by_cases h9 : v + (cnodes x : Int) ≤ 8192
          · have hle : decide (v + (cnodes x : Int) ≤ 8192) = true := decide_eq_true h9
            go_wp2_with fail
            go_ret
            exact ⟨HS.out.below, HS.out.keep, .inl ⟨by omega, rfl, HS.out⟩⟩
          · have hle : decide (v + (cnodes x : Int) ≤ 8192) = false := decide_eq_false h9
            go_wp2_with fail
            go_ret
            exact ⟨HS.out.below, HS.out.keep, .inr ⟨by omega, rfl⟩⟩
  · refine callK (by rfl) (by kernel_rfl) (Nodes_calls (HT.out.below HS.out.below)) ?_
    rintro e w16 ⟨rfl, hB⟩
    replace HS := Aside0.mk (HS.out.next hB)
    clear hB
    rw [hn1]
    refine ⟨_, rfl, ?_⟩
    refine hK.out _ _ ⟨(HP.out.below HS.out.below (Nat.le_refl _)).2.1, (HP.out.below HS.out.below (Nat.le_refl _)).2.2.1⟩ (fun hHeld => ?_)
    clear hK K
    try simp only [Act.put, List.setIfInBounds_toArray, List.set_cons_zero, List.set_cons_succ]
    refine wpAnyH_ready (rs := [0]) (by kernel_rfl) (by simp) ?_
    refine AllReadyH.cons rfl (fun K hK => ?_) AllReadyH.nil
    have n0 := (blk_cell HS.out.cell 0).trans rfl
    have z0 := blk_frozen HS.out.cell 0
    simp at n0
    go_simp
    clear n0 z0
    refine hK.out _ _ hHeld (fun hHeld => ?_)
    clear hK K
    try simp only [Act.put, List.setIfInBounds_toArray, List.set_cons_zero, List.set_cons_succ]
    have hwr : IntKind.i64.wrap (v + 1 + n1) = v + 1 + n1 := IntWalk.i64_in _ (by omega)
    refine tK 19 6 hHeld ?_
    try rw [hwr]
    clear hwr
    refine wpAnyH_ready (rs := [7]) (by kernel_rfl) (by simp) ?_
    refine AllReadyH.cons rfl (fun K hK => ?_) AllReadyH.nil
    have n0 := (blk_cell HS.out.cell 0).trans rfl
    have z0 := blk_frozen HS.out.cell 0
    simp at n0
    go_simp
    clear n0 z0
    replace HS := Aside0.mk (HS.out.put hg hne (v + 1 + n1))
    refine hK.out _ _ ⟨(HP.out.below HS.out.below (Nat.le_refl _)).2.1, (HP.out.below HS.out.below (Nat.le_refl _)).2.2.1⟩ (fun hHeld => ?_)
    clear hK K hHeld
    try simp only [Act.put, List.setIfInBounds_toArray, List.set_cons_zero, List.set_cons_succ]
    generalize w16.setCell ⟨g, 0, none⟩ (.int .i64 (v + 1 + n1)) = wz at *
    refine wpAnyH_done (by kernel_rfl) ?_ _
    obtain ⟨k0, k1, k2, k3, k4, k5, k6, k7⟩ := HP.out.below HS.out.below (Nat.le_refl _)
    go_wp2_with fail
    clear k0 k1 k2 k3 k4 k5 k6 k7
    refine wp_region_held_drew (S := fun w' => w'.cell? ⟨p.block, p.off + 3, none⟩ = some (.int .i8 x.f2.f0) ∧ w'.cell? ⟨p.block, p.off + 4, none⟩ = some (.slice A4 x.f2.f1.length c4)) (by kernel_rfl) ⟨(HP.out.below HS.out.below (Nat.le_refl _)).2.2.2.1, (HP.out.below HS.out.below (Nat.le_refl _)).2.2.2.2.1⟩ (fun hHeld => ?_)
    have hB := (Below.refl wz.heap.size wz).drew
    replace HS := Aside0.mk (HS.out.next hB)
    clear hB
    generalize wz.drew = w20 at *
    refine tK 26 1 hHeld ?_
    refine tK 27 2 hHeld ?_
    refine tK 28 3 hHeld ?_
    refine tK 29 4 hHeld ?_
    refine wpAnyH_ready (rs := [0, 5]) (by kernel_rfl) (by simp) ?_
    refine AllReadyH.cons rfl (fun K hK => ?_) (AllReadyH.cons rfl (fun K hK => ?_) AllReadyH.nil)
    · have n0 := (blk_cell HS.out.cell 0).trans rfl
      have z0 := blk_frozen HS.out.cell 0
      simp at n0
      go_simp
      clear n0 z0
      refine hK.out _ _ hHeld (fun hHeld => ?_)
      clear hK K
      try simp only [Act.put, List.setIfInBounds_toArray, List.set_cons_zero, List.set_cons_succ]
      refine cK 30 5 (Nodes_calls (HU.out.below HS.out.below)) ?_
      rintro e w21 ⟨rfl, hB⟩
      replace HS := Aside0.mk (HS.out.next hB)
      clear hB
      rw [hn3]
      refine ⟨_, rfl, ⟨(HP.out.below HS.out.below (Nat.le_refl _)).2.2.2.1, (HP.out.below HS.out.below (Nat.le_refl _)).2.2.2.2.1⟩, fun hHeld => nA ?_⟩
      have hwr : IntKind.i64.wrap (v + 1 + n1 + n2) = v + 1 + n1 + n2 := IntWalk.i64_in _ (by omega)
      refine tK 31 6 hHeld ?_
      try rw [hwr]
      clear hwr
      refine wpAnyH_ready (rs := [7]) (by kernel_rfl) (by simp) ?_
      refine AllReadyH.cons rfl (fun K hK => ?_) AllReadyH.nil
      have n0 := (blk_cell HS.out.cell 0).trans rfl
      have z0 := blk_frozen HS.out.cell 0
      simp at n0
      go_simp
      clear n0 z0
      replace HS := Aside0.mk (HS.out.put hg hne (v + 1 + n1 + n2))
      refine hK.out _ _ ⟨(HP.out.below HS.out.below (Nat.le_refl _)).2.2.2.1, (HP.out.below HS.out.below (Nat.le_refl _)).2.2.2.2.1⟩ (fun hHeld => ?_)
      clear hK K hHeld
      try simp only [Act.put, List.setIfInBounds_toArray, List.set_cons_zero, List.set_cons_succ]
      generalize w21.setCell ⟨g, 0, none⟩ (.int .i64 (v + 1 + n1 + n2)) = wy at *
      refine wpAnyH_done (by kernel_rfl) ?_ _
      obtain ⟨k0, k1, k2, k3, k4, k5, k6, k7⟩ := HP.out.below HS.out.below (Nat.le_refl _)
      go_wp2_with fail
      clear k0 k1 k2 k3 k4 k5 k6 k7
      go_loopw [37] (fun i wr => ∃ (j : Nat) (r : Int), i = .int .i64 j ∧ j ≤ x.f5.length ∧ 0 ≤ r ∧ r ≤ 30000 ∧ r + cnodesL (x.f5.drop j) = v + cnodes x ∧ CSt w0 w g gd r wr) (fun i _ => x.f5.length - (intOf i).toNat)
      case atStart => exact ⟨0, v + 1 + n1 + n2, rfl, Nat.zero_le _, by omega, by omega, by rw [List.drop_zero]; exact HR.out, HS.out⟩
      case round =>
        clear HS
        obtain ⟨j, r, rfl, hj, hr0, hr1, hinv, hS⟩ := hrel
        have HS := Aside0.mk hS
        have HI := Aside0.mk hinv
        clear hS hinv
        by_cases hlt : j < x.f5.length
        · obtain ⟨ad, rfl, hK⟩ := AtC_kid HC.out (j : Int) (by omega) (by omega) rfl
          have HK := Aside0.mk hK
          have HDr := Aside0.mk (cnodesL_drop x.f5 j hlt)
          have HN : Aside0 (cnodes (rd_T54 x.f5 (j : Int)) < cnodes x) := .mk (by have e1 := cnodesL_drop x.f5 j hlt; have e2 := cnodesL_drop_le x.f5 j; have e3 := cnodes_eq x; omega)
          clear hK
          generalize rd_T54 x.f5 (j : Int) = y at *
          go_wp2_with fail
          refine wp_region_held_drew (S := fun w' => w'.cell? ⟨gd, 0, none⟩ = some (FV g gd) ∧ w'.cell? ⟨p.block, p.off + 7, none⟩ = some (.slice (some ad) x.f5.length c7)) (by kernel_rfl) ⟨(blk_cell HS.out.down 0).trans rfl, (HP.out.below HS.out.below (Nat.le_refl _)).2.2.2.2.2.2.2⟩ (fun hHeld => ?_)
          have hB := (Below.refl wr.heap.size wr).drew
          replace HS := Aside0.mk (HS.out.next hB)
          clear hB
          generalize wr.drew = w30 at *
          refine wpAnyH_ready (rs := [0]) (by kernel_rfl) (by simp) ?_
          refine AllReadyH.cons rfl (fun K hK => ?_) AllReadyH.nil
          have n0 := (blk_cell HS.out.cell 0).trans rfl
          have z0 := blk_frozen HS.out.cell 0
          simp at n0
          go_simp
          clear n0 z0
          refine hK.out _ _ hHeld (fun hHeld => ?_)
          clear hK K
          try simp only [Act.put, List.setIfInBounds_toArray, List.set_cons_zero, List.set_cons_succ]
          by_cases h9 : r ≤ 8192
          · have hgt : decide (8192 < r) = false := decide_eq_false (by omega)
            refine tK 41 1 hHeld ?_
            try rw [hgt]
            refine tK 42 2 hHeld ?_
            refine tK 43 3 hHeld ?_
            refine tK 44 4 hHeld ?_
            refine tK 45 5 hHeld ?_
            refine tK 46 6 hHeld ?_
            refine tK 47 7 hHeld ?_
            refine tK 48 8 hHeld ?_
            refine tK 49 9 hHeld ?_
            refine cK 50 10 (IH.out y _ r _ HN.out hr0 h9 HS.out.own HK.out) ?_
            rintro e w31 ⟨hB, hK, hpost⟩
            have HB2 := Aside0.mk hB
            have HK2 := Aside0.mk (HS.out.keep.trans hK (.inl rfl))
            have HDn := Aside0.mk (hK.blk HS.out.down hne (by simp))
            clear hB hK
            have HP2 := Aside0.mk (HP.out.below HB2.out (Nat.le_refl _))
            rcases hpost with ⟨hle, rfl, hS⟩ | ⟨hgt2, rfl⟩
            · replace HS := Aside0.mk (HS.out.trans hS)
              clear hS
              refine ⟨_, rfl, ⟨(blk_cell HDn.out 0).trans rfl, HP2.out.2.2.2.2.2.2.2⟩, fun hHeld => nA ?_⟩
              refine tK 51 11 hHeld ?_
              refine tK 52 12 hHeld ?_
              refine wpAnyH_done (by kernel_rfl) ?_ _
              go_wp2_with fail
              go_roundw
              case rel => exact ⟨j + 1, r + cnodes y, by go_num, by omega, by omega, by omega, by have := HI.out; have := HDr.out; omega, HS.out⟩
              case measure => simp [intOf]; omega
            · refine ⟨_, rfl, ⟨(blk_cell HDn.out 0).trans rfl, HP2.out.2.2.2.2.2.2.2⟩, fun hHeld => nA ?_⟩
              refine tK 51 11 hHeld ?_
              refine tK 52 12 hHeld ?_
              refine wpAnyH_done (by kernel_rfl) ?_ _
              go_wp2_with fail
              go_ret
              exact ⟨HB2.out, HK2.out, .inr ⟨by have := HI.out; have := HDr.out; omega, rfl⟩⟩
          · have hgt : decide (8192 < r) = true := decide_eq_true (by omega)
            refine tK 41 1 hHeld ?_
            try rw [hgt]
            refine tK 42 2 hHeld ?_
            refine pK 43 3 hHeld ?_
            refine pK 44 4 hHeld ?_
            refine pK 45 5 hHeld ?_
            refine pK 46 6 hHeld ?_
            refine pK 47 7 hHeld ?_
            refine pK 48 8 hHeld ?_
            refine pK 49 9 hHeld ?_
            refine pK 50 10 hHeld ?_
            refine pK 51 11 hHeld ?_
            refine tK 52 12 hHeld ?_
            refine wpAnyH_done (by kernel_rfl) ?_ _
            go_wp2_with fail
            go_ret
            exact ⟨HS.out.below, HS.out.keep, .inr ⟨by have := HI.out; omega, rfl⟩⟩
        · obtain rfl : j = x.f5.length := by omega
          have he : r = v + cnodes x := by have := HI.out; rw [List.drop_eq_nil_of_le (Nat.le_refl _), cnodesL] at this; omega
          subst he
          have n0 := (blk_cell HS.out.cell 0).trans rfl
          have z0 := blk_frozen HS.out.cell 0
          simp at n0
          by_cases h9 : v + (cnodes x : Int) ≤ 8192
          · have hle : decide (v + (cnodes x : Int) ≤ 8192) = true := decide_eq_true h9
            go_wp2_with fail
            go_ret
            exact ⟨HS.out.below, HS.out.keep, .inl ⟨by omega, rfl, HS.out⟩⟩
          · have hle : decide (v + (cnodes x : Int) ≤ 8192) = false := decide_eq_false h9
            go_wp2_with fail
            go_ret
            exact ⟨HS.out.below, HS.out.keep, .inr ⟨by omega, rfl⟩⟩
    · refine callK (by rfl) (by kernel_rfl) (Nodes_calls (HU.out.below HS.out.below)) ?_
      rintro e w22 ⟨rfl, hB⟩
      replace HS := Aside0.mk (HS.out.next hB)
      clear hB
      rw [hn3]
      refine ⟨_, rfl, ?_⟩
      refine hK.out _ _ ⟨(HP.out.below HS.out.below (Nat.le_refl _)).2.2.2.1, (HP.out.below HS.out.below (Nat.le_refl _)).2.2.2.2.1⟩ (fun hHeld => ?_)
      clear hK K
      try simp only [Act.put, List.setIfInBounds_toArray, List.set_cons_zero, List.set_cons_succ]
      refine wpAnyH_ready (rs := [0]) (by kernel_rfl) (by simp) ?_
      refine AllReadyH.cons rfl (fun K hK => ?_) AllReadyH.nil
      have n0 := (blk_cell HS.out.cell 0).trans rfl
      have z0 := blk_frozen HS.out.cell 0
      simp at n0
      go_simp
      clear n0 z0
      refine hK.out _ _ hHeld (fun hHeld => ?_)
      clear hK K
      try simp only [Act.put, List.setIfInBounds_toArray, List.set_cons_zero, List.set_cons_succ]
      have hwr : IntKind.i64.wrap (v + 1 + n1 + n2) = v + 1 + n1 + n2 := IntWalk.i64_in _ (by omega)
      refine tK 31 6 hHeld ?_
      try rw [hwr]
      clear hwr
      refine wpAnyH_ready (rs := [7]) (by kernel_rfl) (by simp) ?_
      refine AllReadyH.cons rfl (fun K hK => ?_) AllReadyH.nil
      have n0 := (blk_cell HS.out.cell 0).trans rfl
      have z0 := blk_frozen HS.out.cell 0
      simp at n0
      go_simp
      clear n0 z0
      replace HS := Aside0.mk (HS.out.put hg hne (v + 1 + n1 + n2))
      refine hK.out _ _ ⟨(HP.out.below HS.out.below (Nat.le_refl _)).2.2.2.1, (HP.out.below HS.out.below (Nat.le_refl _)).2.2.2.2.1⟩ (fun hHeld => ?_)
      clear hK K hHeld
      try simp only [Act.put, List.setIfInBounds_toArray, List.set_cons_zero, List.set_cons_succ]
      generalize w22.setCell ⟨g, 0, none⟩ (.int .i64 (v + 1 + n1 + n2)) = wy at *
      refine wpAnyH_done (by kernel_rfl) ?_ _
      obtain ⟨k0, k1, k2, k3, k4, k5, k6, k7⟩ := HP.out.below HS.out.below (Nat.le_refl _)
      go_wp2_with fail
      clear k0 k1 k2 k3 k4 k5 k6 k7
      go_loopw [37] (fun i wr => ∃ (j : Nat) (r : Int), i = .int .i64 j ∧ j ≤ x.f5.length ∧ 0 ≤ r ∧ r ≤ 30000 ∧ r + cnodesL (x.f5.drop j) = v + cnodes x ∧ CSt w0 w g gd r wr) (fun i _ => x.f5.length - (intOf i).toNat)
      case atStart => exact ⟨0, v + 1 + n1 + n2, rfl, Nat.zero_le _, by omega, by omega, by rw [List.drop_zero]; exact HR.out, HS.out⟩
      case round =>
        clear HS
        obtain ⟨j, r, rfl, hj, hr0, hr1, hinv, hS⟩ := hrel
        have HS := Aside0.mk hS
        have HI := Aside0.mk hinv
        clear hS hinv
        by_cases hlt : j < x.f5.length
        · obtain ⟨ad, rfl, hK⟩ := AtC_kid HC.out (j : Int) (by omega) (by omega) rfl
          have HK := Aside0.mk hK
          have HDr := Aside0.mk (cnodesL_drop x.f5 j hlt)
          have HN : Aside0 (cnodes (rd_T54 x.f5 (j : Int)) < cnodes x) := .mk (by have e1 := cnodesL_drop x.f5 j hlt; have e2 := cnodesL_drop_le x.f5 j; have e3 := cnodes_eq x; omega)
          clear hK
          generalize rd_T54 x.f5 (j : Int) = y at *
          go_wp2_with fail
          refine wp_region_held_drew (S := fun w' => w'.cell? ⟨gd, 0, none⟩ = some (FV g gd) ∧ w'.cell? ⟨p.block, p.off + 7, none⟩ = some (.slice (some ad) x.f5.length c7)) (by kernel_rfl) ⟨(blk_cell HS.out.down 0).trans rfl, (HP.out.below HS.out.below (Nat.le_refl _)).2.2.2.2.2.2.2⟩ (fun hHeld => ?_)
          have hB := (Below.refl wr.heap.size wr).drew
          replace HS := Aside0.mk (HS.out.next hB)
          clear hB
          generalize wr.drew = w30 at *
          refine wpAnyH_ready (rs := [0]) (by kernel_rfl) (by simp) ?_
          refine AllReadyH.cons rfl (fun K hK => ?_) AllReadyH.nil
          have n0 := (blk_cell HS.out.cell 0).trans rfl
          have z0 := blk_frozen HS.out.cell 0
          simp at n0
          go_simp
          clear n0 z0
          refine hK.out _ _ hHeld (fun hHeld => ?_)
          clear hK K
          try simp only [Act.put, List.setIfInBounds_toArray, List.set_cons_zero, List.set_cons_succ]
          by_cases h9 : r ≤ 8192
          · have hgt : decide (8192 < r) = false := decide_eq_false (by omega)
            refine tK 41 1 hHeld ?_
            try rw [hgt]
            refine tK 42 2 hHeld ?_
            refine tK 43 3 hHeld ?_
            refine tK 44 4 hHeld ?_
            refine tK 45 5 hHeld ?_
            refine tK 46 6 hHeld ?_
            refine tK 47 7 hHeld ?_
            refine tK 48 8 hHeld ?_
            refine tK 49 9 hHeld ?_
            refine cK 50 10 (IH.out y _ r _ HN.out hr0 h9 HS.out.own HK.out) ?_
            rintro e w31 ⟨hB, hK, hpost⟩
            have HB2 := Aside0.mk hB
            have HK2 := Aside0.mk (HS.out.keep.trans hK (.inl rfl))
            have HDn := Aside0.mk (hK.blk HS.out.down hne (by simp))
            clear hB hK
            have HP2 := Aside0.mk (HP.out.below HB2.out (Nat.le_refl _))
            rcases hpost with ⟨hle, rfl, hS⟩ | ⟨hgt2, rfl⟩
            · replace HS := Aside0.mk (HS.out.trans hS)
              clear hS
              refine ⟨_, rfl, ⟨(blk_cell HDn.out 0).trans rfl, HP2.out.2.2.2.2.2.2.2⟩, fun hHeld => nA ?_⟩
              refine tK 51 11 hHeld ?_
              refine tK 52 12 hHeld ?_
              refine wpAnyH_done (by kernel_rfl) ?_ _
              go_wp2_with fail
              go_roundw
              case rel => exact ⟨j + 1, r + cnodes y, by go_num, by omega, by omega, by omega, by have := HI.out; have := HDr.out; omega, HS.out⟩
              case measure => simp [intOf]; omega
            · refine ⟨_, rfl, ⟨(blk_cell HDn.out 0).trans rfl, HP2.out.2.2.2.2.2.2.2⟩, fun hHeld => nA ?_⟩
              refine tK 51 11 hHeld ?_
              refine tK 52 12 hHeld ?_
              refine wpAnyH_done (by kernel_rfl) ?_ _
              go_wp2_with fail
              go_ret
              exact ⟨HB2.out, HK2.out, .inr ⟨by have := HI.out; have := HDr.out; omega, rfl⟩⟩
          · have hgt : decide (8192 < r) = true := decide_eq_true (by omega)
            refine tK 41 1 hHeld ?_
            try rw [hgt]
            refine tK 42 2 hHeld ?_
            refine pK 43 3 hHeld ?_
            refine pK 44 4 hHeld ?_
            refine pK 45 5 hHeld ?_
            refine pK 46 6 hHeld ?_
            refine pK 47 7 hHeld ?_
            refine pK 48 8 hHeld ?_
            refine pK 49 9 hHeld ?_
            refine pK 50 10 hHeld ?_
            refine pK 51 11 hHeld ?_
            refine tK 52 12 hHeld ?_
            refine wpAnyH_done (by kernel_rfl) ?_ _
            go_wp2_with fail
            go_ret
            exact ⟨HS.out.below, HS.out.keep, .inr ⟨by have := HI.out; omega, rfl⟩⟩
        · obtain rfl : j = x.f5.length := by omega
          have he : r = v + cnodes x := by have := HI.out; rw [List.drop_eq_nil_of_le (Nat.le_refl _), cnodesL] at this; omega
          subst he
          have n0 := (blk_cell HS.out.cell 0).trans rfl
          have z0 := blk_frozen HS.out.cell 0
          simp at n0
          by_cases h9 : v + (cnodes x : Int) ≤ 8192
          · have hle : decide (v + (cnodes x : Int) ≤ 8192) = true := decide_eq_true h9
            go_wp2_with fail
            go_ret
            exact ⟨HS.out.below, HS.out.keep, .inl ⟨by omega, rfl, HS.out⟩⟩
          · have hle : decide (v + (cnodes x : Int) ≤ 8192) = false := decide_eq_false h9
            go_wp2_with fail
            go_ret
            exact ⟨HS.out.below, HS.out.keep, .inr ⟨by omega, rfl⟩⟩
end Go.Proofs.YtjmpejbciniceaaDoor.X
