/- Texts of this claim, joined: HCo13, HCo14. -/
import Derived.Test.YtjmpejbciniceaaDoorKCoerceCheck9
namespace Go.Proofs.YtjmpejbciniceaaDoor.X
open Go.RowKit Go.Proofs.YtjmpejbciniceaaDoorW.PrintWords Go.Proofs.YtjmpejbciniceaaDoorW.PrintLast Go.Proofs.YtjmpejbciniceaaDoorW.PrintMore
set_option linter.unusedVariables false
set_option linter.unusedSimpArgs false
set_option maxRecDepth 100000 in
set_option maxHeartbeats 3200000 in
theorem rends_k0 {x : S54} {v : Value} {w : World} (hx : IsC w v x) (hk : Aside0 (x.f0 = 0)) (hct : Aside0 (checkI x.f1 = 0)) (hl : Aside0 (x.f5.length ≠ 0)) : Calls Tryd.prog 50 #[v] w (PartsPost none w) := by
  have HX := Aside0.mk hx
  obtain ⟨A2, c2, A4, c4, A7, c7, rfl, hl2, hC2, hl4, hC4, -, -⟩ := hx
  have HT := Aside0.mk (IsT.mk (k := x.f1.f0) hl2 hC2)
  have HU := Aside0.mk (IsT.mk (k := x.f2.f0) hl4 hC4)
  rw [S43.eta] at HT HU
  clear hl2 hC2 hl4 hC4
  obtain ⟨k0, k1, k2, hB⟩ := three w (.cells #[.int .i8 x.f0, .int .i8 x.f1.f0, .slice A2 x.f1.f1.length c2, .int .i8 x.f2.f0, .slice A4 x.f2.f1.length c4, .int .i64 x.f3, .bool x.f4, .slice A7 x.f5.length c7] 54) (.cells #[.int .i8 0, .slice none 0 0] 43) (.cells #[.int .i8 0, .slice none 0 0] 43)
  have K0 := Aside0.mk k0
  have K1 := Aside0.mk k1
  have K2 := Aside0.mk k2
  replace HX := Aside0.mk (HX.out.below hB)
  replace HT := Aside0.mk (HT.out.below hB)
  replace HU := Aside0.mk (HU.out.below hB)
  have HW := Aside0.mk hB
  clear hB k0 k1 k2
  have hL : leafB x.f0 = true := by rw [hk.out]; rfl
  have hTo : decide (x.f0 = 1) = false := by rw [hk.out]; rfl
  have hLa : (decide (x.f0 = 1) || decide (x.f0 = 3)) = false := by rw [hk.out]; rfl
  have gk : (x.f0 == 0) = true := by rw [hk.out]; rfl
  have ct : (checkI x.f1 != 0) = false := bne_eq_false_iff_eq.mpr hct.out
  have hlk : ((x.f5.length : Int) != 0) = true := bne_iff_ne.mpr (by have := hl.out; omega)
  go_enter Tryd.func50, Tryd.ntmps50
  go_wp2_with fail
  generalize ((w.alloc (.cells #[.int .i8 x.f0, .int .i8 x.f1.f0, .slice A2 x.f1.f1.length c2, .int .i8 x.f2.f0, .slice A4 x.f2.f1.length c4, .int .i64 x.f3, .bool x.f4, .slice A7 x.f5.length c7] 54)).alloc (.cells #[.int .i8 0, .slice none 0 0] 43)).alloc (.cells #[.int .i8 0, .slice none 0 0] 43) = w0 at *
  have HY := Aside0.mk (Below.refl w0.heap.size w0)
  refine (typed_calls x.f0 _).mono ?_
  rintro e w1 ⟨rfl, hB⟩
  rw [hL]
  replace HY := Aside0.mk (below_then HY.out HY.out.size hB)
  clear hB
  obtain ⟨b0, b1, b2, b3, b4, b5, b6, b7⟩ := cells8 (blk_below K0.out HY.out)
  go_wp2_with fail
  clear b0 b1 b2 b3 b4 b5 b6 b7
  refine (refCheck_calls (HT.out.below HY.out)).mono ?_
  rintro e w2 ⟨rfl, hB⟩
  replace HY := Aside0.mk (below_then HY.out HY.out.size hB)
  clear hB
  obtain ⟨b0, b1, b2, b3, b4, b5, b6, b7⟩ := cells8 (blk_below K0.out HY.out)
  go_wp2_with fail
  clear b0 b1 b2 b3 b4 b5 b6 b7
  refine (toed_calls x.f0 _).mono ?_
  rintro e w3 ⟨rfl, hB⟩
  rw [hTo]
  replace HY := Aside0.mk (below_then HY.out HY.out.size hB)
  clear hB
  obtain ⟨b0, b1, b2, b3, b4, b5, b6, b7⟩ := cells8 (blk_below K0.out HY.out)
  go_wp2_with fail
  clear b0 b1 b2 b3 b4 b5 b6 b7
  refine (labelled_calls x.f0 _).mono ?_
  rintro e w4 ⟨rfl, hB⟩
  rw [hLa]
  replace HY := Aside0.mk (below_then HY.out HY.out.size hB)
  clear hB
  obtain ⟨b0, b1, b2, b3, b4, b5, b6, b7⟩ := cells8 (blk_below K0.out HY.out)
  have hn5 := blk_lt (blk_below K2.out HY.out)
  have K5 := Aside0.mk (heap_alloc_new w4 (.cells #[.int .i8 0, .slice none 0 0] 43))
  replace HY := Aside0.mk (HY.out.alloc HY.out.size (.cells #[.int .i8 0, .slice none 0 0] 43))
  obtain ⟨a0, a1, a2, a3, a4, a5, a6, a7⟩ := cells8 (blk_below K0.out HY.out)
  go_wp2_with fail
  clear b0 b1 b2 b3 b4 b5 b6 b7 a0 a1 a2 a3 a4 a5 a6 a7
  generalize w4.alloc (.cells #[.int .i8 0, .slice none 0 0] 43) = w5 at *
  generalize w4.heap.size = n5 at *
  refine (typed_calls x.f0 _).mono ?_
  rintro e w6 ⟨rfl, hB⟩
  rw [hL]
  replace HY := Aside0.mk (below_then HY.out HY.out.size hB)
  replace K5 := Aside0.mk (blk_below K5.out hB)
  clear hB
  obtain ⟨b0, b1, b2, b3, b4, b5, b6, b7⟩ := cells8 (blk_below K0.out HY.out)
  go_wp2_with fail
  clear b0 b1 b2 b3 b4 b5 b6 b7
  replace K0 := Aside0.mk (blk_below K0.out HY.out)
  replace K1 := Aside0.mk (blk_below K1.out HY.out)
  replace K2 := Aside0.mk (blk_below K2.out HY.out)
  replace HW := Aside0.mk (below_then HW.out HW.out.size HY.out)
  replace HT := Aside0.mk (HT.out.below HY.out)
  replace HU := Aside0.mk (HU.out.below HY.out)
  refine wp_region_held_drew (S := fun w' => w'.cell? ⟨n5, 0, none⟩ = some (.int .i8 0) ∧ w'.cell? ⟨n5, 1, none⟩ = some (.slice none 0 0)) (by kernel_rfl) ⟨bcl K5.out, bcl K5.out⟩ (fun hHeld => ?_)
  have HZ := Aside0.mk ((Below.refl w6.heap.size w6).drew)
  replace HW := Aside0.mk (below_then HW.out HW.out.size HZ.out)
  generalize w6.drew = w7 at *
  refine tK 65 0 hHeld ?_
  refine tK 66 1 hHeld ?_
  replace K1 := Aside0.mk (blk_below K1.out HZ.out)
  replace K2 := Aside0.mk (blk_below K2.out HZ.out)
  clear HZ
  refine sK 2 K1.out ⟨far2 hHeld.1 (by omega), far2 hHeld.2 (by omega)⟩ fun w20 hHeld hp => ?_
  replace K2 := Aside0.mk (kFar hp K2.out (by omega))
  replace K1 := Aside0.mk (kOwn hp K1.out)
  replace HW := Aside0.mk (bFar hp HW.out (by omega))
  clear hp
  refine sK 3 K2.out ⟨far2 hHeld.1 (by omega), far2 hHeld.2 (by omega)⟩ fun w21 hHeld hp => ?_
  replace K1 := Aside0.mk (kFar hp K1.out (by omega))
  replace K2 := Aside0.mk (kOwn hp K2.out)
  replace HW := Aside0.mk (bFar hp HW.out (by omega))
  clear hp
  refine tK 4 4 hHeld ?_
  refine wpAnyH_done (by kernel_rfl) ?_ _
  go_wp2_with fail
  exact retK K1.out K2.out ⟨_, _, _, _, rfl, IsT.zero _, IsT.zero _, fun h => absurd h (by decide), rfl, rfl, HW.out⟩
set_option maxRecDepth 100000 in
set_option maxHeartbeats 3200000 in
theorem rends_0 {x : S54} {v : Value} {w : World} (hx : IsC w v x) (hk : Aside0 (x.f0 = 0)) (hct : Aside0 (checkI x.f1 = 0)) (hlen : Aside0 (x.f5.length = 0)) : Calls Tryd.prog 50 #[v] w (PartsPost (some (x.f1, x.f1)) w) := by
  have HX := Aside0.mk hx
  obtain ⟨A2, c2, A4, c4, A7, c7, rfl, hl2, hC2, hl4, hC4, -, -⟩ := hx
  have HT := Aside0.mk (IsT.mk (k := x.f1.f0) hl2 hC2)
  have HU := Aside0.mk (IsT.mk (k := x.f2.f0) hl4 hC4)
  rw [S43.eta] at HT HU
  clear hl2 hC2 hl4 hC4
  rw [hlen.out] at HX ⊢
  obtain ⟨k0, k1, k2, hB⟩ := three w (.cells #[.int .i8 x.f0, .int .i8 x.f1.f0, .slice A2 x.f1.f1.length c2, .int .i8 x.f2.f0, .slice A4 x.f2.f1.length c4, .int .i64 x.f3, .bool x.f4, .slice A7 0 c7] 54) (.cells #[.int .i8 0, .slice none 0 0] 43) (.cells #[.int .i8 0, .slice none 0 0] 43)
  have K0 := Aside0.mk k0
  have K1 := Aside0.mk k1
  have K2 := Aside0.mk k2
  replace HX := Aside0.mk (HX.out.below hB)
  replace HT := Aside0.mk (HT.out.below hB)
  replace HU := Aside0.mk (HU.out.below hB)
  have HW := Aside0.mk hB
  clear hB k0 k1 k2
  have hL : leafB x.f0 = true := by rw [hk.out]; rfl
  have hTo : decide (x.f0 = 1) = false := by rw [hk.out]; rfl
  have hLa : (decide (x.f0 = 1) || decide (x.f0 = 3)) = false := by rw [hk.out]; rfl
  have gk : (x.f0 == 0) = true := by rw [hk.out]; rfl
  have ct : (checkI x.f1 != 0) = false := bne_eq_false_iff_eq.mpr hct.out
  have hrt := (check_nodes hct.out).2.2
  go_enter Tryd.func50, Tryd.ntmps50
  go_wp2_with fail
  generalize ((w.alloc (.cells #[.int .i8 x.f0, .int .i8 x.f1.f0, .slice A2 x.f1.f1.length c2, .int .i8 x.f2.f0, .slice A4 x.f2.f1.length c4, .int .i64 x.f3, .bool x.f4, .slice A7 0 c7] 54)).alloc (.cells #[.int .i8 0, .slice none 0 0] 43)).alloc (.cells #[.int .i8 0, .slice none 0 0] 43) = w0 at *
  have HY := Aside0.mk (Below.refl w0.heap.size w0)
  refine (typed_calls x.f0 _).mono ?_
  rintro e w1 ⟨rfl, hB⟩
  rw [hL]
  replace HY := Aside0.mk (below_then HY.out HY.out.size hB)
  clear hB
  obtain ⟨b0, b1, b2, b3, b4, b5, b6, b7⟩ := cells8 (blk_below K0.out HY.out)
  go_wp2_with fail
  clear b0 b1 b2 b3 b4 b5 b6 b7
  refine (refCheck_calls (HT.out.below HY.out)).mono ?_
  rintro e w2 ⟨rfl, hB⟩
  replace HY := Aside0.mk (below_then HY.out HY.out.size hB)
  clear hB
  obtain ⟨b0, b1, b2, b3, b4, b5, b6, b7⟩ := cells8 (blk_below K0.out HY.out)
  go_wp2_with fail
  clear b0 b1 b2 b3 b4 b5 b6 b7
  refine (toed_calls x.f0 _).mono ?_
  rintro e w3 ⟨rfl, hB⟩
  rw [hTo]
  replace HY := Aside0.mk (below_then HY.out HY.out.size hB)
  clear hB
  obtain ⟨b0, b1, b2, b3, b4, b5, b6, b7⟩ := cells8 (blk_below K0.out HY.out)
  go_wp2_with fail
  clear b0 b1 b2 b3 b4 b5 b6 b7
  refine (labelled_calls x.f0 _).mono ?_
  rintro e w4 ⟨rfl, hB⟩
  rw [hLa]
  replace HY := Aside0.mk (below_then HY.out HY.out.size hB)
  clear hB
  obtain ⟨b0, b1, b2, b3, b4, b5, b6, b7⟩ := cells8 (blk_below K0.out HY.out)
  have hn5 := blk_lt (blk_below K2.out HY.out)
  have K5 := Aside0.mk (heap_alloc_new w4 (.cells #[.int .i8 0, .slice none 0 0] 43))
  replace HY := Aside0.mk (HY.out.alloc HY.out.size (.cells #[.int .i8 0, .slice none 0 0] 43))
  obtain ⟨a0, a1, a2, a3, a4, a5, a6, a7⟩ := cells8 (blk_below K0.out HY.out)
  go_wp2_with fail
  clear b0 b1 b2 b3 b4 b5 b6 b7 a0 a1 a2 a3 a4 a5 a6 a7
  generalize w4.alloc (.cells #[.int .i8 0, .slice none 0 0] 43) = w5 at *
  generalize w4.heap.size = n5 at *
  refine (typed_calls x.f0 _).mono ?_
  rintro e w6 ⟨rfl, hB⟩
  rw [hL]
  replace HY := Aside0.mk (below_then HY.out HY.out.size hB)
  replace K5 := Aside0.mk (blk_below K5.out hB)
  clear hB
  obtain ⟨b0, b1, b2, b3, b4, b5, b6, b7⟩ := cells8 (blk_below K0.out HY.out)
  go_wp2_with fail
  clear b0 b1 b2 b3 b4 b5 b6 b7
  refine (typed_calls x.f0 _).mono ?_
  rintro e w7 ⟨rfl, hB⟩
  rw [hL]
  replace HY := Aside0.mk (below_then HY.out HY.out.size hB)
  replace K5 := Aside0.mk (blk_below K5.out hB)
  clear hB
  obtain ⟨b0, b1, b2, b3, b4, b5, b6, b7⟩ := cells8 (blk_below K0.out HY.out)
  go_wp2_with fail
  clear b0 b1 b2 b3 b4 b5 b6 b7
  replace K0 := Aside0.mk (blk_below K0.out HY.out)
  replace K1 := Aside0.mk (blk_below K1.out HY.out)
  replace K2 := Aside0.mk (blk_below K2.out HY.out)
  replace HW := Aside0.mk (below_then HW.out HW.out.size HY.out)
  replace HT := Aside0.mk (HT.out.below HY.out)
  replace HU := Aside0.mk (HU.out.below HY.out)
  refine wp_region_held_drew (S := fun w' => w'.cell? ⟨w.heap.size, 1, none⟩ = some (.int .i8 x.f1.f0) ∧ w'.cell? ⟨w.heap.size, 2, none⟩ = some (.slice A2 x.f1.f1.length c2)) (by kernel_rfl) ⟨bcl K0.out, bcl K0.out⟩ (fun hHeld => ?_)
  have HZ := Aside0.mk ((Below.refl w7.heap.size w7).drew)
  replace HW := Aside0.mk (below_then HW.out HW.out.size HZ.out)
  generalize w7.drew = w8 at *
  refine tK 71 0 hHeld ?_
  refine tK 72 1 hHeld ?_
  refine tK 73 2 hHeld ?_
  refine tK 74 3 hHeld ?_
  replace K1 := Aside0.mk (blk_below K1.out HZ.out)
  replace K2 := Aside0.mk (blk_below K2.out HZ.out)
  replace HT := Aside0.mk (HT.out.below HZ.out)
  clear HZ
  refine sK 4 K1.out ⟨far2 hHeld.1 (by omega), far2 hHeld.2 (by omega)⟩ fun w20 hHeld hp => ?_
  replace HT := Aside0.mk (tFar hp K1.out hrt HT.out)
  replace K2 := Aside0.mk (kFar hp K2.out (by omega))
  replace K1 := Aside0.mk (kOwn hp K1.out)
  replace HW := Aside0.mk (bFar hp HW.out (by omega))
  clear hp
  refine sK 5 K2.out ⟨far2 hHeld.1 (by omega), far2 hHeld.2 (by omega)⟩ fun w21 hHeld hp => ?_
  replace HT := Aside0.mk (tFar hp K2.out hrt HT.out)
  replace K1 := Aside0.mk (kFar hp K1.out (by omega))
  replace K2 := Aside0.mk (kOwn hp K2.out)
  replace HW := Aside0.mk (bFar hp HW.out (by omega))
  clear hp
  refine tK 4 6 hHeld ?_
  refine wpAnyH_done (by kernel_rfl) ?_ _
  go_wp2_with fail
  exact retK K1.out K2.out ⟨_, _, _, _, rfl, HT.out, HT.out, fun _ => rfl, hrt, hrt, HW.out⟩
set_option maxRecDepth 100000 in
set_option maxHeartbeats 3200000 in
theorem rends_k1 {x : S54} {v : Value} {w : World} (hx : IsC w v x) (hk : Aside0 (x.f0 = 1)) (hct : Aside0 (checkI x.f1 = 0)) (hcu : Aside0 (checkI x.f2 = 0)) (hl1 : Aside0 (¬ x.f3 < 1)) (hl2o : Aside0 (¬ 2147483648 < x.f3)) (hl : Aside0 (x.f5.length ≠ 0)) : Calls Tryd.prog 50 #[v] w (PartsPost none w) := by
  have HX := Aside0.mk hx
  obtain ⟨A2, c2, A4, c4, A7, c7, rfl, hl2, hC2, hl4, hC4, -, -⟩ := hx
  have HT := Aside0.mk (IsT.mk (k := x.f1.f0) hl2 hC2)
  have HU := Aside0.mk (IsT.mk (k := x.f2.f0) hl4 hC4)
  rw [S43.eta] at HT HU
  clear hl2 hC2 hl4 hC4
  obtain ⟨k0, k1, k2, hB⟩ := three w (.cells #[.int .i8 x.f0, .int .i8 x.f1.f0, .slice A2 x.f1.f1.length c2, .int .i8 x.f2.f0, .slice A4 x.f2.f1.length c4, .int .i64 x.f3, .bool x.f4, .slice A7 x.f5.length c7] 54) (.cells #[.int .i8 0, .slice none 0 0] 43) (.cells #[.int .i8 0, .slice none 0 0] 43)
  have K0 := Aside0.mk k0
  have K1 := Aside0.mk k1
  have K2 := Aside0.mk k2
  replace HX := Aside0.mk (HX.out.below hB)
  replace HT := Aside0.mk (HT.out.below hB)
  replace HU := Aside0.mk (HU.out.below hB)
  have HW := Aside0.mk hB
  clear hB k0 k1 k2
  have hL : leafB x.f0 = true := by rw [hk.out]; rfl
  have hTo : decide (x.f0 = 1) = true := by rw [hk.out]; rfl
  have hLa : (decide (x.f0 = 1) || decide (x.f0 = 3)) = true := by rw [hk.out]; rfl
  have gk0 : (x.f0 == 0) = false := by rw [hk.out]; rfl
  have gk : (x.f0 == 1) = true := by rw [hk.out]; rfl
  have ct : (checkI x.f1 != 0) = false := bne_eq_false_iff_eq.mpr hct.out
  have cu : (checkI x.f2 != 0) = false := bne_eq_false_iff_eq.mpr hcu.out
  have hla1 : decide (x.f3 < 1) = false := decide_eq_false hl1.out
  have hla2 : decide ((2147483648 : Int) < x.f3) = false := decide_eq_false hl2o.out
  have hlk : ((x.f5.length : Int) != 0) = true := bne_iff_ne.mpr (by have := hl.out; omega)
  go_enter Tryd.func50, Tryd.ntmps50
  go_wp2_with fail
  generalize ((w.alloc (.cells #[.int .i8 x.f0, .int .i8 x.f1.f0, .slice A2 x.f1.f1.length c2, .int .i8 x.f2.f0, .slice A4 x.f2.f1.length c4, .int .i64 x.f3, .bool x.f4, .slice A7 x.f5.length c7] 54)).alloc (.cells #[.int .i8 0, .slice none 0 0] 43)).alloc (.cells #[.int .i8 0, .slice none 0 0] 43) = w0 at *
  have HY := Aside0.mk (Below.refl w0.heap.size w0)
  refine (typed_calls x.f0 _).mono ?_
  rintro e w1 ⟨rfl, hB⟩
  rw [hL]
  replace HY := Aside0.mk (below_then HY.out HY.out.size hB)
  clear hB
  obtain ⟨b0, b1, b2, b3, b4, b5, b6, b7⟩ := cells8 (blk_below K0.out HY.out)
  go_wp2_with fail
  clear b0 b1 b2 b3 b4 b5 b6 b7
  refine (refCheck_calls (HT.out.below HY.out)).mono ?_
  rintro e w2 ⟨rfl, hB⟩
  replace HY := Aside0.mk (below_then HY.out HY.out.size hB)
  clear hB
  obtain ⟨b0, b1, b2, b3, b4, b5, b6, b7⟩ := cells8 (blk_below K0.out HY.out)
  go_wp2_with fail
  clear b0 b1 b2 b3 b4 b5 b6 b7
  refine (toed_calls x.f0 _).mono ?_
  rintro e w3 ⟨rfl, hB⟩
  rw [hTo]
  replace HY := Aside0.mk (below_then HY.out HY.out.size hB)
  clear hB
  obtain ⟨b0, b1, b2, b3, b4, b5, b6, b7⟩ := cells8 (blk_below K0.out HY.out)
  go_wp2_with fail
  clear b0 b1 b2 b3 b4 b5 b6 b7
  refine (refCheck_calls (HU.out.below HY.out)).mono ?_
  rintro e w4 ⟨rfl, hB⟩
  replace HY := Aside0.mk (below_then HY.out HY.out.size hB)
  clear hB
  obtain ⟨b0, b1, b2, b3, b4, b5, b6, b7⟩ := cells8 (blk_below K0.out HY.out)
  go_wp2_with fail
  clear b0 b1 b2 b3 b4 b5 b6 b7
  refine (labelled_calls x.f0 _).mono ?_
  rintro e w5 ⟨rfl, hB⟩
  rw [hLa]
  replace HY := Aside0.mk (below_then HY.out HY.out.size hB)
  clear hB
  obtain ⟨b0, b1, b2, b3, b4, b5, b6, b7⟩ := cells8 (blk_below K0.out HY.out)
  have hn5 := blk_lt (blk_below K2.out HY.out)
  have K5 := Aside0.mk (heap_alloc_new w5 (.cells #[.int .i8 0, .slice none 0 0] 43))
  replace HY := Aside0.mk (HY.out.alloc HY.out.size (.cells #[.int .i8 0, .slice none 0 0] 43))
  obtain ⟨a0, a1, a2, a3, a4, a5, a6, a7⟩ := cells8 (blk_below K0.out HY.out)
  go_wp2_with fail
  clear b0 b1 b2 b3 b4 b5 b6 b7 a0 a1 a2 a3 a4 a5 a6 a7
  generalize w5.alloc (.cells #[.int .i8 0, .slice none 0 0] 43) = w6 at *
  generalize w5.heap.size = n5 at *
  refine (typed_calls x.f0 _).mono ?_
  rintro e w7 ⟨rfl, hB⟩
  rw [hL]
  replace HY := Aside0.mk (below_then HY.out HY.out.size hB)
  replace K5 := Aside0.mk (blk_below K5.out hB)
  clear hB
  obtain ⟨b0, b1, b2, b3, b4, b5, b6, b7⟩ := cells8 (blk_below K0.out HY.out)
  go_wp2_with fail
  clear b0 b1 b2 b3 b4 b5 b6 b7
  replace K0 := Aside0.mk (blk_below K0.out HY.out)
  replace K1 := Aside0.mk (blk_below K1.out HY.out)
  replace K2 := Aside0.mk (blk_below K2.out HY.out)
  replace HW := Aside0.mk (below_then HW.out HW.out.size HY.out)
  replace HT := Aside0.mk (HT.out.below HY.out)
  replace HU := Aside0.mk (HU.out.below HY.out)
  refine wp_region_held_drew (S := fun w' => w'.cell? ⟨n5, 0, none⟩ = some (.int .i8 0) ∧ w'.cell? ⟨n5, 1, none⟩ = some (.slice none 0 0)) (by kernel_rfl) ⟨bcl K5.out, bcl K5.out⟩ (fun hHeld => ?_)
  have HZ := Aside0.mk ((Below.refl w7.heap.size w7).drew)
  replace HW := Aside0.mk (below_then HW.out HW.out.size HZ.out)
  generalize w7.drew = w8 at *
  refine tK 65 0 hHeld ?_
  refine tK 66 1 hHeld ?_
  replace K1 := Aside0.mk (blk_below K1.out HZ.out)
  replace K2 := Aside0.mk (blk_below K2.out HZ.out)
  clear HZ
  refine sK 2 K1.out ⟨far2 hHeld.1 (by omega), far2 hHeld.2 (by omega)⟩ fun w20 hHeld hp => ?_
  replace K2 := Aside0.mk (kFar hp K2.out (by omega))
  replace K1 := Aside0.mk (kOwn hp K1.out)
  replace HW := Aside0.mk (bFar hp HW.out (by omega))
  clear hp
  refine sK 3 K2.out ⟨far2 hHeld.1 (by omega), far2 hHeld.2 (by omega)⟩ fun w21 hHeld hp => ?_
  replace K1 := Aside0.mk (kFar hp K1.out (by omega))
  replace K2 := Aside0.mk (kOwn hp K2.out)
  replace HW := Aside0.mk (bFar hp HW.out (by omega))
  clear hp
  refine tK 4 4 hHeld ?_
  refine wpAnyH_done (by kernel_rfl) ?_ _
  go_wp2_with fail
  exact retK K1.out K2.out ⟨_, _, _, _, rfl, IsT.zero _, IsT.zero _, fun h => absurd h (by decide), rfl, rfl, HW.out⟩
set_option maxRecDepth 100000 in
set_option maxHeartbeats 3200000 in
theorem rends_1a {x : S54} {v : Value} {w : World} (hx : IsC w v x) (hk : Aside0 (x.f0 = 1)) (hct : Aside0 (checkI x.f1 = 0)) (hcu : Aside0 (checkI x.f2 = 0)) (hl1 : Aside0 (¬ x.f3 < 1)) (hl2o : Aside0 (¬ 2147483648 < x.f3)) (hun0 : Aside0 ((x.f1.f0 != 0) = true)) (hlen : Aside0 (x.f5.length = 0)) : Calls Tryd.prog 50 #[v] w (PartsPost (some (x.f1, x.f2)) w) := by
  have HX := Aside0.mk hx
  obtain ⟨A2, c2, A4, c4, A7, c7, rfl, hl2, hC2, hl4, hC4, -, -⟩ := hx
  have HT := Aside0.mk (IsT.mk (k := x.f1.f0) hl2 hC2)
  have HU := Aside0.mk (IsT.mk (k := x.f2.f0) hl4 hC4)
  rw [S43.eta] at HT HU
  clear hl2 hC2 hl4 hC4
  rw [hlen.out] at HX ⊢
  obtain ⟨k0, k1, k2, hB⟩ := three w (.cells #[.int .i8 x.f0, .int .i8 x.f1.f0, .slice A2 x.f1.f1.length c2, .int .i8 x.f2.f0, .slice A4 x.f2.f1.length c4, .int .i64 x.f3, .bool x.f4, .slice A7 0 c7] 54) (.cells #[.int .i8 0, .slice none 0 0] 43) (.cells #[.int .i8 0, .slice none 0 0] 43)
  have K0 := Aside0.mk k0
  have K1 := Aside0.mk k1
  have K2 := Aside0.mk k2
  replace HX := Aside0.mk (HX.out.below hB)
  replace HT := Aside0.mk (HT.out.below hB)
  replace HU := Aside0.mk (HU.out.below hB)
  have HW := Aside0.mk hB
  clear hB k0 k1 k2
  have hL : leafB x.f0 = true := by rw [hk.out]; rfl
  have hTo : decide (x.f0 = 1) = true := by rw [hk.out]; rfl
  have hLa : (decide (x.f0 = 1) || decide (x.f0 = 3)) = true := by rw [hk.out]; rfl
  have gk0 : (x.f0 == 0) = false := by rw [hk.out]; rfl
  have gk : (x.f0 == 1) = true := by rw [hk.out]; rfl
  have ct : (checkI x.f1 != 0) = false := bne_eq_false_iff_eq.mpr hct.out
  have cu : (checkI x.f2 != 0) = false := bne_eq_false_iff_eq.mpr hcu.out
  have hla1 : decide (x.f3 < 1) = false := decide_eq_false hl1.out
  have hla2 : decide ((2147483648 : Int) < x.f3) = false := decide_eq_false hl2o.out
  have hrt := (check_nodes hct.out).2.2
  have hru := (check_nodes hcu.out).2.2
  have hun := hun0.out
  go_enter Tryd.func50, Tryd.ntmps50
  go_wp2_with fail
  generalize ((w.alloc (.cells #[.int .i8 x.f0, .int .i8 x.f1.f0, .slice A2 x.f1.f1.length c2, .int .i8 x.f2.f0, .slice A4 x.f2.f1.length c4, .int .i64 x.f3, .bool x.f4, .slice A7 0 c7] 54)).alloc (.cells #[.int .i8 0, .slice none 0 0] 43)).alloc (.cells #[.int .i8 0, .slice none 0 0] 43) = w0 at *
  have HY := Aside0.mk (Below.refl w0.heap.size w0)
  refine (typed_calls x.f0 _).mono ?_
  rintro e w1 ⟨rfl, hB⟩
  rw [hL]
  replace HY := Aside0.mk (below_then HY.out HY.out.size hB)
  clear hB
  obtain ⟨b0, b1, b2, b3, b4, b5, b6, b7⟩ := cells8 (blk_below K0.out HY.out)
  go_wp2_with fail
  clear b0 b1 b2 b3 b4 b5 b6 b7
  refine (refCheck_calls (HT.out.below HY.out)).mono ?_
  rintro e w2 ⟨rfl, hB⟩
  replace HY := Aside0.mk (below_then HY.out HY.out.size hB)
  clear hB
  obtain ⟨b0, b1, b2, b3, b4, b5, b6, b7⟩ := cells8 (blk_below K0.out HY.out)
  go_wp2_with fail
  clear b0 b1 b2 b3 b4 b5 b6 b7
  refine (toed_calls x.f0 _).mono ?_
  rintro e w3 ⟨rfl, hB⟩
  rw [hTo]
  replace HY := Aside0.mk (below_then HY.out HY.out.size hB)
  clear hB
  obtain ⟨b0, b1, b2, b3, b4, b5, b6, b7⟩ := cells8 (blk_below K0.out HY.out)
  go_wp2_with fail
  clear b0 b1 b2 b3 b4 b5 b6 b7
  refine (refCheck_calls (HU.out.below HY.out)).mono ?_
  rintro e w4 ⟨rfl, hB⟩
  replace HY := Aside0.mk (below_then HY.out HY.out.size hB)
  clear hB
  obtain ⟨b0, b1, b2, b3, b4, b5, b6, b7⟩ := cells8 (blk_below K0.out HY.out)
  go_wp2_with fail
  clear b0 b1 b2 b3 b4 b5 b6 b7
  refine (labelled_calls x.f0 _).mono ?_
  rintro e w5 ⟨rfl, hB⟩
  rw [hLa]
  replace HY := Aside0.mk (below_then HY.out HY.out.size hB)
  clear hB
  obtain ⟨b0, b1, b2, b3, b4, b5, b6, b7⟩ := cells8 (blk_below K0.out HY.out)
  have hn5 := blk_lt (blk_below K2.out HY.out)
  have K5 := Aside0.mk (heap_alloc_new w5 (.cells #[.int .i8 0, .slice none 0 0] 43))
  replace HY := Aside0.mk (HY.out.alloc HY.out.size (.cells #[.int .i8 0, .slice none 0 0] 43))
  obtain ⟨a0, a1, a2, a3, a4, a5, a6, a7⟩ := cells8 (blk_below K0.out HY.out)
  go_wp2_with fail
  clear b0 b1 b2 b3 b4 b5 b6 b7 a0 a1 a2 a3 a4 a5 a6 a7
  generalize w5.alloc (.cells #[.int .i8 0, .slice none 0 0] 43) = w6 at *
  generalize w5.heap.size = n5 at *
  refine (typed_calls x.f0 _).mono ?_
  rintro e w7 ⟨rfl, hB⟩
  rw [hL]
  replace HY := Aside0.mk (below_then HY.out HY.out.size hB)
  replace K5 := Aside0.mk (blk_below K5.out hB)
  clear hB
  obtain ⟨b0, b1, b2, b3, b4, b5, b6, b7⟩ := cells8 (blk_below K0.out HY.out)
  go_wp2_with fail
  clear b0 b1 b2 b3 b4 b5 b6 b7
  refine (typed_calls x.f0 _).mono ?_
  rintro e w8 ⟨rfl, hB⟩
  rw [hL]
  replace HY := Aside0.mk (below_then HY.out HY.out.size hB)
  replace K5 := Aside0.mk (blk_below K5.out hB)
  clear hB
  obtain ⟨b0, b1, b2, b3, b4, b5, b6, b7⟩ := cells8 (blk_below K0.out HY.out)
  go_wp2_with fail
  clear b0 b1 b2 b3 b4 b5 b6 b7
  replace K0 := Aside0.mk (blk_below K0.out HY.out)
  replace K1 := Aside0.mk (blk_below K1.out HY.out)
  replace K2 := Aside0.mk (blk_below K2.out HY.out)
  replace HW := Aside0.mk (below_then HW.out HW.out.size HY.out)
  replace HT := Aside0.mk (HT.out.below HY.out)
  replace HU := Aside0.mk (HU.out.below HY.out)
  refine wp_region_held_drew (S := fun w' => w'.cell? ⟨w.heap.size, 1, none⟩ = some (.int .i8 x.f1.f0) ∧ w'.cell? ⟨w.heap.size, 2, none⟩ = some (.slice A2 x.f1.f1.length c2) ∧ w'.cell? ⟨w.heap.size, 3, none⟩ = some (.int .i8 x.f2.f0) ∧ w'.cell? ⟨w.heap.size, 4, none⟩ = some (.slice A4 x.f2.f1.length c4)) (by kernel_rfl) ⟨bcl K0.out, bcl K0.out, bcl K0.out, bcl K0.out⟩ (fun hHeld => ?_)
  have HZ := Aside0.mk ((Below.refl w8.heap.size w8).drew)
  replace HW := Aside0.mk (below_then HW.out HW.out.size HZ.out)
  generalize w8.drew = w9 at *
  refine tK 77 0 hHeld ?_
  refine tK 78 1 hHeld ?_
  refine tK 79 2 hHeld ?_
  refine tK 80 3 hHeld ?_
  refine tK 81 4 hHeld ?_
  refine tK 82 5 hHeld ?_
  refine tK 83 6 hHeld ?_
  refine tK 84 7 hHeld ?_
  replace K1 := Aside0.mk (blk_below K1.out HZ.out)
  replace K2 := Aside0.mk (blk_below K2.out HZ.out)
  replace HT := Aside0.mk (HT.out.below HZ.out)
  replace HU := Aside0.mk (HU.out.below HZ.out)
  clear HZ
  refine sK 8 K1.out ⟨far2 hHeld.1 (by omega), far2 hHeld.2.1 (by omega), far2 hHeld.2.2.1 (by omega), far2 hHeld.2.2.2 (by omega)⟩ fun w20 hHeld hp => ?_
  replace HT := Aside0.mk (tFar hp K1.out hrt HT.out)
  replace HU := Aside0.mk (tFar hp K1.out hru HU.out)
  replace K2 := Aside0.mk (kFar hp K2.out (by omega))
  replace K1 := Aside0.mk (kOwn hp K1.out)
  replace HW := Aside0.mk (bFar hp HW.out (by omega))
  clear hp
  refine sK 9 K2.out ⟨far2 hHeld.1 (by omega), far2 hHeld.2.1 (by omega), far2 hHeld.2.2.1 (by omega), far2 hHeld.2.2.2 (by omega)⟩ fun w21 hHeld hp => ?_
  replace HT := Aside0.mk (tFar hp K2.out hrt HT.out)
  replace HU := Aside0.mk (tFar hp K2.out hru HU.out)
  replace K1 := Aside0.mk (kFar hp K1.out (by omega))
  replace K2 := Aside0.mk (kOwn hp K2.out)
  replace HW := Aside0.mk (bFar hp HW.out (by omega))
  clear hp
  refine tK 4 10 hHeld ?_
  refine wpAnyH_done (by kernel_rfl) ?_ _
  go_wp2_with fail
  exact retK K1.out K2.out ⟨_, _, _, _, by first | rfl | (simp [hun]), HT.out, HU.out, fun _ => rfl, hrt, hru, HW.out⟩
set_option maxRecDepth 100000 in
set_option maxHeartbeats 3200000 in
theorem rends_1b {x : S54} {v : Value} {w : World} (hx : IsC w v x) (hk : Aside0 (x.f0 = 1)) (hct : Aside0 (checkI x.f1 = 0)) (hcu : Aside0 (checkI x.f2 = 0)) (hl1 : Aside0 (¬ x.f3 < 1)) (hl2o : Aside0 (¬ 2147483648 < x.f3)) (hun0 : Aside0 ((x.f1.f0 != 0) = false)) (hlen : Aside0 (x.f5.length = 0)) : Calls Tryd.prog 50 #[v] w (PartsPost none w) := by
  have HX := Aside0.mk hx
  obtain ⟨A2, c2, A4, c4, A7, c7, rfl, hl2, hC2, hl4, hC4, -, -⟩ := hx
  have HT := Aside0.mk (IsT.mk (k := x.f1.f0) hl2 hC2)
  have HU := Aside0.mk (IsT.mk (k := x.f2.f0) hl4 hC4)
  rw [S43.eta] at HT HU
  clear hl2 hC2 hl4 hC4
  rw [hlen.out] at HX ⊢
  obtain ⟨k0, k1, k2, hB⟩ := three w (.cells #[.int .i8 x.f0, .int .i8 x.f1.f0, .slice A2 x.f1.f1.length c2, .int .i8 x.f2.f0, .slice A4 x.f2.f1.length c4, .int .i64 x.f3, .bool x.f4, .slice A7 0 c7] 54) (.cells #[.int .i8 0, .slice none 0 0] 43) (.cells #[.int .i8 0, .slice none 0 0] 43)
  have K0 := Aside0.mk k0
  have K1 := Aside0.mk k1
  have K2 := Aside0.mk k2
  replace HX := Aside0.mk (HX.out.below hB)
  replace HT := Aside0.mk (HT.out.below hB)
  replace HU := Aside0.mk (HU.out.below hB)
  have HW := Aside0.mk hB
  clear hB k0 k1 k2
  have hL : leafB x.f0 = true := by rw [hk.out]; rfl
  have hTo : decide (x.f0 = 1) = true := by rw [hk.out]; rfl
  have hLa : (decide (x.f0 = 1) || decide (x.f0 = 3)) = true := by rw [hk.out]; rfl
  have gk0 : (x.f0 == 0) = false := by rw [hk.out]; rfl
  have gk : (x.f0 == 1) = true := by rw [hk.out]; rfl
  have ct : (checkI x.f1 != 0) = false := bne_eq_false_iff_eq.mpr hct.out
  have cu : (checkI x.f2 != 0) = false := bne_eq_false_iff_eq.mpr hcu.out
  have hla1 : decide (x.f3 < 1) = false := decide_eq_false hl1.out
  have hla2 : decide ((2147483648 : Int) < x.f3) = false := decide_eq_false hl2o.out
  have hrt := (check_nodes hct.out).2.2
  have hru := (check_nodes hcu.out).2.2
  have hun := hun0.out
  go_enter Tryd.func50, Tryd.ntmps50
  go_wp2_with fail
  generalize ((w.alloc (.cells #[.int .i8 x.f0, .int .i8 x.f1.f0, .slice A2 x.f1.f1.length c2, .int .i8 x.f2.f0, .slice A4 x.f2.f1.length c4, .int .i64 x.f3, .bool x.f4, .slice A7 0 c7] 54)).alloc (.cells #[.int .i8 0, .slice none 0 0] 43)).alloc (.cells #[.int .i8 0, .slice none 0 0] 43) = w0 at *
  have HY := Aside0.mk (Below.refl w0.heap.size w0)
  refine (typed_calls x.f0 _).mono ?_
  rintro e w1 ⟨rfl, hB⟩
  rw [hL]
  replace HY := Aside0.mk (below_then HY.out HY.out.size hB)
  clear hB
  obtain ⟨b0, b1, b2, b3, b4, b5, b6, b7⟩ := cells8 (blk_below K0.out HY.out)
  go_wp2_with fail
  clear b0 b1 b2 b3 b4 b5 b6 b7
  refine (refCheck_calls (HT.out.below HY.out)).mono ?_
  rintro e w2 ⟨rfl, hB⟩
  replace HY := Aside0.mk (below_then HY.out HY.out.size hB)
  clear hB
  obtain ⟨b0, b1, b2, b3, b4, b5, b6, b7⟩ := cells8 (blk_below K0.out HY.out)
  go_wp2_with fail
  clear b0 b1 b2 b3 b4 b5 b6 b7
  refine (toed_calls x.f0 _).mono ?_
  rintro e w3 ⟨rfl, hB⟩
  rw [hTo]
  replace HY := Aside0.mk (below_then HY.out HY.out.size hB)
  clear hB
  obtain ⟨b0, b1, b2, b3, b4, b5, b6, b7⟩ := cells8 (blk_below K0.out HY.out)
  go_wp2_with fail
  clear b0 b1 b2 b3 b4 b5 b6 b7
  refine (refCheck_calls (HU.out.below HY.out)).mono ?_
  rintro e w4 ⟨rfl, hB⟩
  replace HY := Aside0.mk (below_then HY.out HY.out.size hB)
  clear hB
  obtain ⟨b0, b1, b2, b3, b4, b5, b6, b7⟩ := cells8 (blk_below K0.out HY.out)
  go_wp2_with fail
  clear b0 b1 b2 b3 b4 b5 b6 b7
  refine (labelled_calls x.f0 _).mono ?_
  rintro e w5 ⟨rfl, hB⟩
  rw [hLa]
  replace HY := Aside0.mk (below_then HY.out HY.out.size hB)
  clear hB
  obtain ⟨b0, b1, b2, b3, b4, b5, b6, b7⟩ := cells8 (blk_below K0.out HY.out)
  have hn5 := blk_lt (blk_below K2.out HY.out)
  have K5 := Aside0.mk (heap_alloc_new w5 (.cells #[.int .i8 0, .slice none 0 0] 43))
  replace HY := Aside0.mk (HY.out.alloc HY.out.size (.cells #[.int .i8 0, .slice none 0 0] 43))
  obtain ⟨a0, a1, a2, a3, a4, a5, a6, a7⟩ := cells8 (blk_below K0.out HY.out)
  go_wp2_with fail
  clear b0 b1 b2 b3 b4 b5 b6 b7 a0 a1 a2 a3 a4 a5 a6 a7
  generalize w5.alloc (.cells #[.int .i8 0, .slice none 0 0] 43) = w6 at *
  generalize w5.heap.size = n5 at *
  refine (typed_calls x.f0 _).mono ?_
  rintro e w7 ⟨rfl, hB⟩
  rw [hL]
  replace HY := Aside0.mk (below_then HY.out HY.out.size hB)
  replace K5 := Aside0.mk (blk_below K5.out hB)
  clear hB
  obtain ⟨b0, b1, b2, b3, b4, b5, b6, b7⟩ := cells8 (blk_below K0.out HY.out)
  go_wp2_with fail
  clear b0 b1 b2 b3 b4 b5 b6 b7
  refine (typed_calls x.f0 _).mono ?_
  rintro e w8 ⟨rfl, hB⟩
  rw [hL]
  replace HY := Aside0.mk (below_then HY.out HY.out.size hB)
  replace K5 := Aside0.mk (blk_below K5.out hB)
  clear hB
  obtain ⟨b0, b1, b2, b3, b4, b5, b6, b7⟩ := cells8 (blk_below K0.out HY.out)
  go_wp2_with fail
  clear b0 b1 b2 b3 b4 b5 b6 b7
  replace K0 := Aside0.mk (blk_below K0.out HY.out)
  replace K1 := Aside0.mk (blk_below K1.out HY.out)
  replace K2 := Aside0.mk (blk_below K2.out HY.out)
  replace HW := Aside0.mk (below_then HW.out HW.out.size HY.out)
  replace HT := Aside0.mk (HT.out.below HY.out)
  replace HU := Aside0.mk (HU.out.below HY.out)
  refine wp_region_held_drew (S := fun w' => w'.cell? ⟨w.heap.size, 1, none⟩ = some (.int .i8 x.f1.f0) ∧ w'.cell? ⟨w.heap.size, 2, none⟩ = some (.slice A2 x.f1.f1.length c2) ∧ w'.cell? ⟨w.heap.size, 3, none⟩ = some (.int .i8 x.f2.f0) ∧ w'.cell? ⟨w.heap.size, 4, none⟩ = some (.slice A4 x.f2.f1.length c4)) (by kernel_rfl) ⟨bcl K0.out, bcl K0.out, bcl K0.out, bcl K0.out⟩ (fun hHeld => ?_)
  have HZ := Aside0.mk ((Below.refl w8.heap.size w8).drew)
  replace HW := Aside0.mk (below_then HW.out HW.out.size HZ.out)
  generalize w8.drew = w9 at *
  refine tK 77 0 hHeld ?_
  refine tK 78 1 hHeld ?_
  refine tK 79 2 hHeld ?_
  refine tK 80 3 hHeld ?_
  refine tK 81 4 hHeld ?_
  refine tK 82 5 hHeld ?_
  refine tK 83 6 hHeld ?_
  refine tK 84 7 hHeld ?_
  replace K1 := Aside0.mk (blk_below K1.out HZ.out)
  replace K2 := Aside0.mk (blk_below K2.out HZ.out)
  replace HT := Aside0.mk (HT.out.below HZ.out)
  replace HU := Aside0.mk (HU.out.below HZ.out)
  clear HZ
  refine sK 8 K1.out ⟨far2 hHeld.1 (by omega), far2 hHeld.2.1 (by omega), far2 hHeld.2.2.1 (by omega), far2 hHeld.2.2.2 (by omega)⟩ fun w20 hHeld hp => ?_
  replace HT := Aside0.mk (tFar hp K1.out hrt HT.out)
  replace HU := Aside0.mk (tFar hp K1.out hru HU.out)
  replace K2 := Aside0.mk (kFar hp K2.out (by omega))
  replace K1 := Aside0.mk (kOwn hp K1.out)
  replace HW := Aside0.mk (bFar hp HW.out (by omega))
  clear hp
  refine sK 9 K2.out ⟨far2 hHeld.1 (by omega), far2 hHeld.2.1 (by omega), far2 hHeld.2.2.1 (by omega), far2 hHeld.2.2.2 (by omega)⟩ fun w21 hHeld hp => ?_
  replace HT := Aside0.mk (tFar hp K2.out hrt HT.out)
  replace HU := Aside0.mk (tFar hp K2.out hru HU.out)
  replace K1 := Aside0.mk (kFar hp K1.out (by omega))
  replace K2 := Aside0.mk (kOwn hp K2.out)
  replace HW := Aside0.mk (bFar hp HW.out (by omega))
  clear hp
  refine tK 4 10 hHeld ?_
  refine wpAnyH_done (by kernel_rfl) ?_ _
  go_wp2_with fail
  exact retK K1.out K2.out ⟨_, _, _, _, by first | rfl | (simp [hun]), HT.out, HU.out, fun h => absurd h (by decide), hrt, hru, HW.out⟩
set_option maxRecDepth 100000 in
set_option maxHeartbeats 3200000 in
theorem rends_k2 {x : S54} {v : Value} {w : World} (hx : IsC w v x) (hk : Aside0 (x.f0 = 2)) (hct : Aside0 (checkI x.f1 = 0)) (hl : Aside0 (x.f5.length ≠ 0)) : Calls Tryd.prog 50 #[v] w (PartsPost none w) := by
  have HX := Aside0.mk hx
  obtain ⟨A2, c2, A4, c4, A7, c7, rfl, hl2, hC2, hl4, hC4, -, -⟩ := hx
  have HT := Aside0.mk (IsT.mk (k := x.f1.f0) hl2 hC2)
  have HU := Aside0.mk (IsT.mk (k := x.f2.f0) hl4 hC4)
  rw [S43.eta] at HT HU
  clear hl2 hC2 hl4 hC4
  obtain ⟨k0, k1, k2, hB⟩ := three w (.cells #[.int .i8 x.f0, .int .i8 x.f1.f0, .slice A2 x.f1.f1.length c2, .int .i8 x.f2.f0, .slice A4 x.f2.f1.length c4, .int .i64 x.f3, .bool x.f4, .slice A7 x.f5.length c7] 54) (.cells #[.int .i8 0, .slice none 0 0] 43) (.cells #[.int .i8 0, .slice none 0 0] 43)
  have K0 := Aside0.mk k0
  have K1 := Aside0.mk k1
  have K2 := Aside0.mk k2
  replace HX := Aside0.mk (HX.out.below hB)
  replace HT := Aside0.mk (HT.out.below hB)
  replace HU := Aside0.mk (HU.out.below hB)
  have HW := Aside0.mk hB
  clear hB k0 k1 k2
  have hL : leafB x.f0 = true := by rw [hk.out]; rfl
  have hTo : decide (x.f0 = 1) = false := by rw [hk.out]; rfl
  have hLa : (decide (x.f0 = 1) || decide (x.f0 = 3)) = false := by rw [hk.out]; rfl
  have gk0 : (x.f0 == 0) = false := by rw [hk.out]; rfl
  have gk1 : (x.f0 == 1) = false := by rw [hk.out]; rfl
  have gk : (x.f0 == 2) = true := by rw [hk.out]; rfl
  have ct : (checkI x.f1 != 0) = false := bne_eq_false_iff_eq.mpr hct.out
  have hlk : ((x.f5.length : Int) != 0) = true := bne_iff_ne.mpr (by have := hl.out; omega)
  go_enter Tryd.func50, Tryd.ntmps50
  go_wp2_with fail
  generalize ((w.alloc (.cells #[.int .i8 x.f0, .int .i8 x.f1.f0, .slice A2 x.f1.f1.length c2, .int .i8 x.f2.f0, .slice A4 x.f2.f1.length c4, .int .i64 x.f3, .bool x.f4, .slice A7 x.f5.length c7] 54)).alloc (.cells #[.int .i8 0, .slice none 0 0] 43)).alloc (.cells #[.int .i8 0, .slice none 0 0] 43) = w0 at *
  have HY := Aside0.mk (Below.refl w0.heap.size w0)
  refine (typed_calls x.f0 _).mono ?_
  rintro e w1 ⟨rfl, hB⟩
  rw [hL]
  replace HY := Aside0.mk (below_then HY.out HY.out.size hB)
  clear hB
  obtain ⟨b0, b1, b2, b3, b4, b5, b6, b7⟩ := cells8 (blk_below K0.out HY.out)
  go_wp2_with fail
  clear b0 b1 b2 b3 b4 b5 b6 b7
  refine (refCheck_calls (HT.out.below HY.out)).mono ?_
  rintro e w2 ⟨rfl, hB⟩
  replace HY := Aside0.mk (below_then HY.out HY.out.size hB)
  clear hB
  obtain ⟨b0, b1, b2, b3, b4, b5, b6, b7⟩ := cells8 (blk_below K0.out HY.out)
  go_wp2_with fail
  clear b0 b1 b2 b3 b4 b5 b6 b7
  refine (toed_calls x.f0 _).mono ?_
  rintro e w3 ⟨rfl, hB⟩
  rw [hTo]
  replace HY := Aside0.mk (below_then HY.out HY.out.size hB)
  clear hB
  obtain ⟨b0, b1, b2, b3, b4, b5, b6, b7⟩ := cells8 (blk_below K0.out HY.out)
  go_wp2_with fail
  clear b0 b1 b2 b3 b4 b5 b6 b7
  refine (labelled_calls x.f0 _).mono ?_
  rintro e w4 ⟨rfl, hB⟩
  rw [hLa]
  replace HY := Aside0.mk (below_then HY.out HY.out.size hB)
  clear hB
  obtain ⟨b0, b1, b2, b3, b4, b5, b6, b7⟩ := cells8 (blk_below K0.out HY.out)
  have hn5 := blk_lt (blk_below K2.out HY.out)
  have K5 := Aside0.mk (heap_alloc_new w4 (.cells #[.int .i8 0, .slice none 0 0] 43))
  replace HY := Aside0.mk (HY.out.alloc HY.out.size (.cells #[.int .i8 0, .slice none 0 0] 43))
  obtain ⟨a0, a1, a2, a3, a4, a5, a6, a7⟩ := cells8 (blk_below K0.out HY.out)
  go_wp2_with fail
  clear b0 b1 b2 b3 b4 b5 b6 b7 a0 a1 a2 a3 a4 a5 a6 a7
  generalize w4.alloc (.cells #[.int .i8 0, .slice none 0 0] 43) = w5 at *
  generalize w4.heap.size = n5 at *
  refine (typed_calls x.f0 _).mono ?_
  rintro e w6 ⟨rfl, hB⟩
  rw [hL]
  replace HY := Aside0.mk (below_then HY.out HY.out.size hB)
  replace K5 := Aside0.mk (blk_below K5.out hB)
  clear hB
  obtain ⟨b0, b1, b2, b3, b4, b5, b6, b7⟩ := cells8 (blk_below K0.out HY.out)
  go_wp2_with fail
  clear b0 b1 b2 b3 b4 b5 b6 b7
  replace K0 := Aside0.mk (blk_below K0.out HY.out)
  replace K1 := Aside0.mk (blk_below K1.out HY.out)
  replace K2 := Aside0.mk (blk_below K2.out HY.out)
  replace HW := Aside0.mk (below_then HW.out HW.out.size HY.out)
  replace HT := Aside0.mk (HT.out.below HY.out)
  replace HU := Aside0.mk (HU.out.below HY.out)
  refine wp_region_held_drew (S := fun w' => w'.cell? ⟨n5, 0, none⟩ = some (.int .i8 0) ∧ w'.cell? ⟨n5, 1, none⟩ = some (.slice none 0 0)) (by kernel_rfl) ⟨bcl K5.out, bcl K5.out⟩ (fun hHeld => ?_)
  have HZ := Aside0.mk ((Below.refl w6.heap.size w6).drew)
  replace HW := Aside0.mk (below_then HW.out HW.out.size HZ.out)
  generalize w6.drew = w7 at *
  refine tK 65 0 hHeld ?_
  refine tK 66 1 hHeld ?_
  replace K1 := Aside0.mk (blk_below K1.out HZ.out)
  replace K2 := Aside0.mk (blk_below K2.out HZ.out)
  clear HZ
  refine sK 2 K1.out ⟨far2 hHeld.1 (by omega), far2 hHeld.2 (by omega)⟩ fun w20 hHeld hp => ?_
  replace K2 := Aside0.mk (kFar hp K2.out (by omega))
  replace K1 := Aside0.mk (kOwn hp K1.out)
  replace HW := Aside0.mk (bFar hp HW.out (by omega))
  clear hp
  refine sK 3 K2.out ⟨far2 hHeld.1 (by omega), far2 hHeld.2 (by omega)⟩ fun w21 hHeld hp => ?_
  replace K1 := Aside0.mk (kFar hp K1.out (by omega))
  replace K2 := Aside0.mk (kOwn hp K2.out)
  replace HW := Aside0.mk (bFar hp HW.out (by omega))
  clear hp
  refine tK 4 4 hHeld ?_
  refine wpAnyH_done (by kernel_rfl) ?_ _
  go_wp2_with fail
  exact retK K1.out K2.out ⟨_, _, _, _, rfl, IsT.zero _, IsT.zero _, fun h => absurd h (by decide), rfl, rfl, HW.out⟩
set_option maxRecDepth 100000 in
set_option maxHeartbeats 3200000 in
theorem rends_2a {x : S54} {v : Value} {w : World} (hx : IsC w v x) (hk : Aside0 (x.f0 = 2)) (hct : Aside0 (checkI x.f1 = 0)) (hgr0 : Aside0 (groundB x.f1 = true)) (hlen : Aside0 (x.f5.length = 0)) : Calls Tryd.prog 50 #[v] w (PartsPost (some (x.f1, z43)) w) := by
  have HX := Aside0.mk hx
  obtain ⟨A2, c2, A4, c4, A7, c7, rfl, hl2, hC2, hl4, hC4, -, -⟩ := hx
  have HT := Aside0.mk (IsT.mk (k := x.f1.f0) hl2 hC2)
  have HU := Aside0.mk (IsT.mk (k := x.f2.f0) hl4 hC4)
  rw [S43.eta] at HT HU
  clear hl2 hC2 hl4 hC4
  rw [hlen.out] at HX ⊢
  obtain ⟨k0, k1, k2, hB⟩ := three w (.cells #[.int .i8 x.f0, .int .i8 x.f1.f0, .slice A2 x.f1.f1.length c2, .int .i8 x.f2.f0, .slice A4 x.f2.f1.length c4, .int .i64 x.f3, .bool x.f4, .slice A7 0 c7] 54) (.cells #[.int .i8 0, .slice none 0 0] 43) (.cells #[.int .i8 0, .slice none 0 0] 43)
  have K0 := Aside0.mk k0
  have K1 := Aside0.mk k1
  have K2 := Aside0.mk k2
  replace HX := Aside0.mk (HX.out.below hB)
  replace HT := Aside0.mk (HT.out.below hB)
  replace HU := Aside0.mk (HU.out.below hB)
  have HW := Aside0.mk hB
  clear hB k0 k1 k2
  have hL : leafB x.f0 = true := by rw [hk.out]; rfl
  have hTo : decide (x.f0 = 1) = false := by rw [hk.out]; rfl
  have hLa : (decide (x.f0 = 1) || decide (x.f0 = 3)) = false := by rw [hk.out]; rfl
  have gk0 : (x.f0 == 0) = false := by rw [hk.out]; rfl
  have gk1 : (x.f0 == 1) = false := by rw [hk.out]; rfl
  have gk : (x.f0 == 2) = true := by rw [hk.out]; rfl
  have ct : (checkI x.f1 != 0) = false := bne_eq_false_iff_eq.mpr hct.out
  have hrt := (check_nodes hct.out).2.2
  have hgr := hgr0.out
  go_enter Tryd.func50, Tryd.ntmps50
  go_wp2_with fail
  generalize ((w.alloc (.cells #[.int .i8 x.f0, .int .i8 x.f1.f0, .slice A2 x.f1.f1.length c2, .int .i8 x.f2.f0, .slice A4 x.f2.f1.length c4, .int .i64 x.f3, .bool x.f4, .slice A7 0 c7] 54)).alloc (.cells #[.int .i8 0, .slice none 0 0] 43)).alloc (.cells #[.int .i8 0, .slice none 0 0] 43) = w0 at *
  have HY := Aside0.mk (Below.refl w0.heap.size w0)
  refine (typed_calls x.f0 _).mono ?_
  rintro e w1 ⟨rfl, hB⟩
  rw [hL]
  replace HY := Aside0.mk (below_then HY.out HY.out.size hB)
  clear hB
  obtain ⟨b0, b1, b2, b3, b4, b5, b6, b7⟩ := cells8 (blk_below K0.out HY.out)
  go_wp2_with fail
  clear b0 b1 b2 b3 b4 b5 b6 b7
  refine (refCheck_calls (HT.out.below HY.out)).mono ?_
  rintro e w2 ⟨rfl, hB⟩
  replace HY := Aside0.mk (below_then HY.out HY.out.size hB)
  clear hB
  obtain ⟨b0, b1, b2, b3, b4, b5, b6, b7⟩ := cells8 (blk_below K0.out HY.out)
  go_wp2_with fail
  clear b0 b1 b2 b3 b4 b5 b6 b7
  refine (toed_calls x.f0 _).mono ?_
  rintro e w3 ⟨rfl, hB⟩
  rw [hTo]
  replace HY := Aside0.mk (below_then HY.out HY.out.size hB)
  clear hB
  obtain ⟨b0, b1, b2, b3, b4, b5, b6, b7⟩ := cells8 (blk_below K0.out HY.out)
  go_wp2_with fail
  clear b0 b1 b2 b3 b4 b5 b6 b7
  refine (labelled_calls x.f0 _).mono ?_
  rintro e w4 ⟨rfl, hB⟩
  rw [hLa]
  replace HY := Aside0.mk (below_then HY.out HY.out.size hB)
  clear hB
  obtain ⟨b0, b1, b2, b3, b4, b5, b6, b7⟩ := cells8 (blk_below K0.out HY.out)
  have hn5 := blk_lt (blk_below K2.out HY.out)
  have K5 := Aside0.mk (heap_alloc_new w4 (.cells #[.int .i8 0, .slice none 0 0] 43))
  replace HY := Aside0.mk (HY.out.alloc HY.out.size (.cells #[.int .i8 0, .slice none 0 0] 43))
  obtain ⟨a0, a1, a2, a3, a4, a5, a6, a7⟩ := cells8 (blk_below K0.out HY.out)
  go_wp2_with fail
  clear b0 b1 b2 b3 b4 b5 b6 b7 a0 a1 a2 a3 a4 a5 a6 a7
  generalize w4.alloc (.cells #[.int .i8 0, .slice none 0 0] 43) = w5 at *
  generalize w4.heap.size = n5 at *
  refine (typed_calls x.f0 _).mono ?_
  rintro e w6 ⟨rfl, hB⟩
  rw [hL]
  replace HY := Aside0.mk (below_then HY.out HY.out.size hB)
  replace K5 := Aside0.mk (blk_below K5.out hB)
  clear hB
  obtain ⟨b0, b1, b2, b3, b4, b5, b6, b7⟩ := cells8 (blk_below K0.out HY.out)
  go_wp2_with fail
  clear b0 b1 b2 b3 b4 b5 b6 b7
  refine (typed_calls x.f0 _).mono ?_
  rintro e w7 ⟨rfl, hB⟩
  rw [hL]
  replace HY := Aside0.mk (below_then HY.out HY.out.size hB)
  replace K5 := Aside0.mk (blk_below K5.out hB)
  clear hB
  obtain ⟨b0, b1, b2, b3, b4, b5, b6, b7⟩ := cells8 (blk_below K0.out HY.out)
  go_wp2_with fail
  clear b0 b1 b2 b3 b4 b5 b6 b7
  replace K0 := Aside0.mk (blk_below K0.out HY.out)
  replace K1 := Aside0.mk (blk_below K1.out HY.out)
  replace K2 := Aside0.mk (blk_below K2.out HY.out)
  replace HW := Aside0.mk (below_then HW.out HW.out.size HY.out)
  replace HT := Aside0.mk (HT.out.below HY.out)
  replace HU := Aside0.mk (HU.out.below HY.out)
  refine wp_region_held_drew (S := fun w' => w'.cell? ⟨w.heap.size, 1, none⟩ = some (.int .i8 x.f1.f0) ∧ w'.cell? ⟨w.heap.size, 2, none⟩ = some (.slice A2 x.f1.f1.length c2) ∧ w'.cell? ⟨n5, 0, none⟩ = some (.int .i8 0) ∧ w'.cell? ⟨n5, 1, none⟩ = some (.slice none 0 0)) (by kernel_rfl) ⟨bcl K0.out, bcl K0.out, bcl K5.out, bcl K5.out⟩ (fun hHeld => ?_)
  have HZ := Aside0.mk ((Below.refl w7.heap.size w7).drew)
  replace HW := Aside0.mk (below_then HW.out HW.out.size HZ.out)
  generalize w7.drew = w8 at *
  refine tK 87 0 hHeld ?_
  refine tK 88 1 hHeld ?_
  refine tK 89 2 hHeld ?_
  refine tK 90 3 hHeld ?_
  refine tK 91 4 hHeld ?_
  refine cK 92 5 (ref15Ground_calls (HT.out.below HZ.out)) ?_
  rintro e w19 ⟨rfl, hB⟩
  rw [hgr]
  replace HZ := Aside0.mk (below_then HZ.out HZ.out.size hB)
  replace HW := Aside0.mk (below_then HW.out HW.out.size hB)
  refine ⟨_, rfl, ⟨pwc hB hHeld.1, pwc hB hHeld.2.1, pwc hB hHeld.2.2.1, pwc hB hHeld.2.2.2⟩, fun hHeld => nA ?_⟩
  clear hB
  replace K1 := Aside0.mk (blk_below K1.out HZ.out)
  replace K2 := Aside0.mk (blk_below K2.out HZ.out)
  replace HT := Aside0.mk (HT.out.below HZ.out)
  clear HZ
  refine sK 6 K1.out ⟨far2 hHeld.1 (by omega), far2 hHeld.2.1 (by omega), far2 hHeld.2.2.1 (by omega), far2 hHeld.2.2.2 (by omega)⟩ fun w20 hHeld hp => ?_
  replace HT := Aside0.mk (tFar hp K1.out hrt HT.out)
  replace K2 := Aside0.mk (kFar hp K2.out (by omega))
  replace K1 := Aside0.mk (kOwn hp K1.out)
  replace HW := Aside0.mk (bFar hp HW.out (by omega))
  clear hp
  refine sK 7 K2.out ⟨far2 hHeld.1 (by omega), far2 hHeld.2.1 (by omega), far2 hHeld.2.2.1 (by omega), far2 hHeld.2.2.2 (by omega)⟩ fun w21 hHeld hp => ?_
  replace HT := Aside0.mk (tFar hp K2.out hrt HT.out)
  replace K1 := Aside0.mk (kFar hp K1.out (by omega))
  replace K2 := Aside0.mk (kOwn hp K2.out)
  replace HW := Aside0.mk (bFar hp HW.out (by omega))
  clear hp
  refine tK 4 8 hHeld ?_
  refine wpAnyH_done (by kernel_rfl) ?_ _
  go_wp2_with fail
  exact retK K1.out K2.out ⟨_, _, _, _, rfl, HT.out, IsT.zero _, fun _ => rfl, hrt, rfl, HW.out⟩
set_option maxRecDepth 100000 in
set_option maxHeartbeats 3200000 in
theorem rends_2b {x : S54} {v : Value} {w : World} (hx : IsC w v x) (hk : Aside0 (x.f0 = 2)) (hct : Aside0 (checkI x.f1 = 0)) (hgr0 : Aside0 (groundB x.f1 = false)) (hlen : Aside0 (x.f5.length = 0)) : Calls Tryd.prog 50 #[v] w (PartsPost none w) := by
  have HX := Aside0.mk hx
  obtain ⟨A2, c2, A4, c4, A7, c7, rfl, hl2, hC2, hl4, hC4, -, -⟩ := hx
  have HT := Aside0.mk (IsT.mk (k := x.f1.f0) hl2 hC2)
  have HU := Aside0.mk (IsT.mk (k := x.f2.f0) hl4 hC4)
  rw [S43.eta] at HT HU
  clear hl2 hC2 hl4 hC4
  rw [hlen.out] at HX ⊢
  obtain ⟨k0, k1, k2, hB⟩ := three w (.cells #[.int .i8 x.f0, .int .i8 x.f1.f0, .slice A2 x.f1.f1.length c2, .int .i8 x.f2.f0, .slice A4 x.f2.f1.length c4, .int .i64 x.f3, .bool x.f4, .slice A7 0 c7] 54) (.cells #[.int .i8 0, .slice none 0 0] 43) (.cells #[.int .i8 0, .slice none 0 0] 43)
  have K0 := Aside0.mk k0
  have K1 := Aside0.mk k1
  have K2 := Aside0.mk k2
  replace HX := Aside0.mk (HX.out.below hB)
  replace HT := Aside0.mk (HT.out.below hB)
  replace HU := Aside0.mk (HU.out.below hB)
  have HW := Aside0.mk hB
  clear hB k0 k1 k2
  have hL : leafB x.f0 = true := by rw [hk.out]; rfl
  have hTo : decide (x.f0 = 1) = false := by rw [hk.out]; rfl
  have hLa : (decide (x.f0 = 1) || decide (x.f0 = 3)) = false := by rw [hk.out]; rfl
  have gk0 : (x.f0 == 0) = false := by rw [hk.out]; rfl
  have gk1 : (x.f0 == 1) = false := by rw [hk.out]; rfl
  have gk : (x.f0 == 2) = true := by rw [hk.out]; rfl
  have ct : (checkI x.f1 != 0) = false := bne_eq_false_iff_eq.mpr hct.out
  have hrt := (check_nodes hct.out).2.2
  have hgr := hgr0.out
  go_enter Tryd.func50, Tryd.ntmps50
  go_wp2_with fail
  generalize ((w.alloc (.cells #[.int .i8 x.f0, .int .i8 x.f1.f0, .slice A2 x.f1.f1.length c2, .int .i8 x.f2.f0, .slice A4 x.f2.f1.length c4, .int .i64 x.f3, .bool x.f4, .slice A7 0 c7] 54)).alloc (.cells #[.int .i8 0, .slice none 0 0] 43)).alloc (.cells #[.int .i8 0, .slice none 0 0] 43) = w0 at *
  have HY := Aside0.mk (Below.refl w0.heap.size w0)
  refine (typed_calls x.f0 _).mono ?_
  rintro e w1 ⟨rfl, hB⟩
  rw [hL]
  replace HY := Aside0.mk (below_then HY.out HY.out.size hB)
  clear hB
  obtain ⟨b0, b1, b2, b3, b4, b5, b6, b7⟩ := cells8 (blk_below K0.out HY.out)
  go_wp2_with fail
  clear b0 b1 b2 b3 b4 b5 b6 b7
  refine (refCheck_calls (HT.out.below HY.out)).mono ?_
  rintro e w2 ⟨rfl, hB⟩
  replace HY := Aside0.mk (below_then HY.out HY.out.size hB)
  clear hB
  obtain ⟨b0, b1, b2, b3, b4, b5, b6, b7⟩ := cells8 (blk_below K0.out HY.out)
  go_wp2_with fail
  clear b0 b1 b2 b3 b4 b5 b6 b7
  refine (toed_calls x.f0 _).mono ?_
  rintro e w3 ⟨rfl, hB⟩
  rw [hTo]
  replace HY := Aside0.mk (below_then HY.out HY.out.size hB)
  clear hB
  obtain ⟨b0, b1, b2, b3, b4, b5, b6, b7⟩ := cells8 (blk_below K0.out HY.out)
  go_wp2_with fail
  clear b0 b1 b2 b3 b4 b5 b6 b7
  refine (labelled_calls x.f0 _).mono ?_
  rintro e w4 ⟨rfl, hB⟩
  rw [hLa]
  replace HY := Aside0.mk (below_then HY.out HY.out.size hB)
  clear hB
  obtain ⟨b0, b1, b2, b3, b4, b5, b6, b7⟩ := cells8 (blk_below K0.out HY.out)
  have hn5 := blk_lt (blk_below K2.out HY.out)
  have K5 := Aside0.mk (heap_alloc_new w4 (.cells #[.int .i8 0, .slice none 0 0] 43))
  replace HY := Aside0.mk (HY.out.alloc HY.out.size (.cells #[.int .i8 0, .slice none 0 0] 43))
  obtain ⟨a0, a1, a2, a3, a4, a5, a6, a7⟩ := cells8 (blk_below K0.out HY.out)
  go_wp2_with fail
  clear b0 b1 b2 b3 b4 b5 b6 b7 a0 a1 a2 a3 a4 a5 a6 a7
  generalize w4.alloc (.cells #[.int .i8 0, .slice none 0 0] 43) = w5 at *
  generalize w4.heap.size = n5 at *
  refine (typed_calls x.f0 _).mono ?_
  rintro e w6 ⟨rfl, hB⟩
  rw [hL]
  replace HY := Aside0.mk (below_then HY.out HY.out.size hB)
  replace K5 := Aside0.mk (blk_below K5.out hB)
  clear hB
  obtain ⟨b0, b1, b2, b3, b4, b5, b6, b7⟩ := cells8 (blk_below K0.out HY.out)
  go_wp2_with fail
  clear b0 b1 b2 b3 b4 b5 b6 b7
  refine (typed_calls x.f0 _).mono ?_
  rintro e w7 ⟨rfl, hB⟩
  rw [hL]
  replace HY := Aside0.mk (below_then HY.out HY.out.size hB)
  replace K5 := Aside0.mk (blk_below K5.out hB)
  clear hB
  obtain ⟨b0, b1, b2, b3, b4, b5, b6, b7⟩ := cells8 (blk_below K0.out HY.out)
  go_wp2_with fail
  clear b0 b1 b2 b3 b4 b5 b6 b7
  replace K0 := Aside0.mk (blk_below K0.out HY.out)
  replace K1 := Aside0.mk (blk_below K1.out HY.out)
  replace K2 := Aside0.mk (blk_below K2.out HY.out)
  replace HW := Aside0.mk (below_then HW.out HW.out.size HY.out)
  replace HT := Aside0.mk (HT.out.below HY.out)
  replace HU := Aside0.mk (HU.out.below HY.out)
  refine wp_region_held_drew (S := fun w' => w'.cell? ⟨w.heap.size, 1, none⟩ = some (.int .i8 x.f1.f0) ∧ w'.cell? ⟨w.heap.size, 2, none⟩ = some (.slice A2 x.f1.f1.length c2) ∧ w'.cell? ⟨n5, 0, none⟩ = some (.int .i8 0) ∧ w'.cell? ⟨n5, 1, none⟩ = some (.slice none 0 0)) (by kernel_rfl) ⟨bcl K0.out, bcl K0.out, bcl K5.out, bcl K5.out⟩ (fun hHeld => ?_)
  have HZ := Aside0.mk ((Below.refl w7.heap.size w7).drew)
  replace HW := Aside0.mk (below_then HW.out HW.out.size HZ.out)
  generalize w7.drew = w8 at *
  refine tK 87 0 hHeld ?_
  refine tK 88 1 hHeld ?_
  refine tK 89 2 hHeld ?_
  refine tK 90 3 hHeld ?_
  refine tK 91 4 hHeld ?_
  refine cK 92 5 (ref15Ground_calls (HT.out.below HZ.out)) ?_
  rintro e w19 ⟨rfl, hB⟩
  rw [hgr]
  replace HZ := Aside0.mk (below_then HZ.out HZ.out.size hB)
  replace HW := Aside0.mk (below_then HW.out HW.out.size hB)
  refine ⟨_, rfl, ⟨pwc hB hHeld.1, pwc hB hHeld.2.1, pwc hB hHeld.2.2.1, pwc hB hHeld.2.2.2⟩, fun hHeld => nA ?_⟩
  clear hB
  replace K1 := Aside0.mk (blk_below K1.out HZ.out)
  replace K2 := Aside0.mk (blk_below K2.out HZ.out)
  replace HT := Aside0.mk (HT.out.below HZ.out)
  clear HZ
  refine sK 6 K1.out ⟨far2 hHeld.1 (by omega), far2 hHeld.2.1 (by omega), far2 hHeld.2.2.1 (by omega), far2 hHeld.2.2.2 (by omega)⟩ fun w20 hHeld hp => ?_
  replace HT := Aside0.mk (tFar hp K1.out hrt HT.out)
  replace K2 := Aside0.mk (kFar hp K2.out (by omega))
  replace K1 := Aside0.mk (kOwn hp K1.out)
  replace HW := Aside0.mk (bFar hp HW.out (by omega))
  clear hp
  refine sK 7 K2.out ⟨far2 hHeld.1 (by omega), far2 hHeld.2.1 (by omega), far2 hHeld.2.2.1 (by omega), far2 hHeld.2.2.2 (by omega)⟩ fun w21 hHeld hp => ?_
  replace HT := Aside0.mk (tFar hp K2.out hrt HT.out)
  replace K1 := Aside0.mk (kFar hp K1.out (by omega))
  replace K2 := Aside0.mk (kOwn hp K2.out)
  replace HW := Aside0.mk (bFar hp HW.out (by omega))
  clear hp
  refine tK 4 8 hHeld ?_
  refine wpAnyH_done (by kernel_rfl) ?_ _
  go_wp2_with fail
  exact retK K1.out K2.out ⟨_, _, _, _, rfl, HT.out, IsT.zero _, fun h => absurd h (by decide), hrt, rfl, HW.out⟩
set_option maxRecDepth 100000 in
set_option maxHeartbeats 3200000 in
theorem rends_k3 {x : S54} {v : Value} {w : World} (hx : IsC w v x) (hk : Aside0 (x.f0 = 3)) (hct : Aside0 (checkI x.f1 = 0)) (hl1 : Aside0 (¬ x.f3 < 1)) (hl2o : Aside0 (¬ 2147483648 < x.f3)) (hl : Aside0 (x.f5.length ≠ 0)) : Calls Tryd.prog 50 #[v] w (PartsPost none w) := by
  have HX := Aside0.mk hx
  obtain ⟨A2, c2, A4, c4, A7, c7, rfl, hl2, hC2, hl4, hC4, -, -⟩ := hx
  have HT := Aside0.mk (IsT.mk (k := x.f1.f0) hl2 hC2)
  have HU := Aside0.mk (IsT.mk (k := x.f2.f0) hl4 hC4)
  rw [S43.eta] at HT HU
  clear hl2 hC2 hl4 hC4
  obtain ⟨k0, k1, k2, hB⟩ := three w (.cells #[.int .i8 x.f0, .int .i8 x.f1.f0, .slice A2 x.f1.f1.length c2, .int .i8 x.f2.f0, .slice A4 x.f2.f1.length c4, .int .i64 x.f3, .bool x.f4, .slice A7 x.f5.length c7] 54) (.cells #[.int .i8 0, .slice none 0 0] 43) (.cells #[.int .i8 0, .slice none 0 0] 43)
  have K0 := Aside0.mk k0
  have K1 := Aside0.mk k1
  have K2 := Aside0.mk k2
  replace HX := Aside0.mk (HX.out.below hB)
  replace HT := Aside0.mk (HT.out.below hB)
  replace HU := Aside0.mk (HU.out.below hB)
  have HW := Aside0.mk hB
  clear hB k0 k1 k2
  have hL : leafB x.f0 = true := by rw [hk.out]; rfl
  have hTo : decide (x.f0 = 1) = false := by rw [hk.out]; rfl
  have hLa : (decide (x.f0 = 1) || decide (x.f0 = 3)) = true := by rw [hk.out]; rfl
  have gk0 : (x.f0 == 0) = false := by rw [hk.out]; rfl
  have gk1 : (x.f0 == 1) = false := by rw [hk.out]; rfl
  have gk2 : (x.f0 == 2) = false := by rw [hk.out]; rfl
  have gk : (x.f0 == 3) = true := by rw [hk.out]; rfl
  have ct : (checkI x.f1 != 0) = false := bne_eq_false_iff_eq.mpr hct.out
  have hla1 : decide (x.f3 < 1) = false := decide_eq_false hl1.out
  have hla2 : decide ((2147483648 : Int) < x.f3) = false := decide_eq_false hl2o.out
  have hlk : ((x.f5.length : Int) != 0) = true := bne_iff_ne.mpr (by have := hl.out; omega)
  go_enter Tryd.func50, Tryd.ntmps50
  go_wp2_with fail
  generalize ((w.alloc (.cells #[.int .i8 x.f0, .int .i8 x.f1.f0, .slice A2 x.f1.f1.length c2, .int .i8 x.f2.f0, .slice A4 x.f2.f1.length c4, .int .i64 x.f3, .bool x.f4, .slice A7 x.f5.length c7] 54)).alloc (.cells #[.int .i8 0, .slice none 0 0] 43)).alloc (.cells #[.int .i8 0, .slice none 0 0] 43) = w0 at *
  have HY := Aside0.mk (Below.refl w0.heap.size w0)
  refine (typed_calls x.f0 _).mono ?_
  rintro e w1 ⟨rfl, hB⟩
  rw [hL]
  replace HY := Aside0.mk (below_then HY.out HY.out.size hB)
  clear hB
  obtain ⟨b0, b1, b2, b3, b4, b5, b6, b7⟩ := cells8 (blk_below K0.out HY.out)
  go_wp2_with fail
  clear b0 b1 b2 b3 b4 b5 b6 b7
  refine (refCheck_calls (HT.out.below HY.out)).mono ?_
  rintro e w2 ⟨rfl, hB⟩
  replace HY := Aside0.mk (below_then HY.out HY.out.size hB)
  clear hB
  obtain ⟨b0, b1, b2, b3, b4, b5, b6, b7⟩ := cells8 (blk_below K0.out HY.out)
  go_wp2_with fail
  clear b0 b1 b2 b3 b4 b5 b6 b7
  refine (toed_calls x.f0 _).mono ?_
  rintro e w3 ⟨rfl, hB⟩
  rw [hTo]
  replace HY := Aside0.mk (below_then HY.out HY.out.size hB)
  clear hB
  obtain ⟨b0, b1, b2, b3, b4, b5, b6, b7⟩ := cells8 (blk_below K0.out HY.out)
  go_wp2_with fail
  clear b0 b1 b2 b3 b4 b5 b6 b7
  refine (labelled_calls x.f0 _).mono ?_
  rintro e w4 ⟨rfl, hB⟩
  rw [hLa]
  replace HY := Aside0.mk (below_then HY.out HY.out.size hB)
  clear hB
  obtain ⟨b0, b1, b2, b3, b4, b5, b6, b7⟩ := cells8 (blk_below K0.out HY.out)
  have hn5 := blk_lt (blk_below K2.out HY.out)
  have K5 := Aside0.mk (heap_alloc_new w4 (.cells #[.int .i8 0, .slice none 0 0] 43))
  replace HY := Aside0.mk (HY.out.alloc HY.out.size (.cells #[.int .i8 0, .slice none 0 0] 43))
  obtain ⟨a0, a1, a2, a3, a4, a5, a6, a7⟩ := cells8 (blk_below K0.out HY.out)
  go_wp2_with fail
  clear b0 b1 b2 b3 b4 b5 b6 b7 a0 a1 a2 a3 a4 a5 a6 a7
  generalize w4.alloc (.cells #[.int .i8 0, .slice none 0 0] 43) = w5 at *
  generalize w4.heap.size = n5 at *
  refine (typed_calls x.f0 _).mono ?_
  rintro e w6 ⟨rfl, hB⟩
  rw [hL]
  replace HY := Aside0.mk (below_then HY.out HY.out.size hB)
  replace K5 := Aside0.mk (blk_below K5.out hB)
  clear hB
  obtain ⟨b0, b1, b2, b3, b4, b5, b6, b7⟩ := cells8 (blk_below K0.out HY.out)
  go_wp2_with fail
  clear b0 b1 b2 b3 b4 b5 b6 b7
  replace K0 := Aside0.mk (blk_below K0.out HY.out)
  replace K1 := Aside0.mk (blk_below K1.out HY.out)
  replace K2 := Aside0.mk (blk_below K2.out HY.out)
  replace HW := Aside0.mk (below_then HW.out HW.out.size HY.out)
  replace HT := Aside0.mk (HT.out.below HY.out)
  replace HU := Aside0.mk (HU.out.below HY.out)
  refine wp_region_held_drew (S := fun w' => w'.cell? ⟨n5, 0, none⟩ = some (.int .i8 0) ∧ w'.cell? ⟨n5, 1, none⟩ = some (.slice none 0 0)) (by kernel_rfl) ⟨bcl K5.out, bcl K5.out⟩ (fun hHeld => ?_)
  have HZ := Aside0.mk ((Below.refl w6.heap.size w6).drew)
  replace HW := Aside0.mk (below_then HW.out HW.out.size HZ.out)
  generalize w6.drew = w7 at *
  refine tK 65 0 hHeld ?_
  refine tK 66 1 hHeld ?_
  replace K1 := Aside0.mk (blk_below K1.out HZ.out)
  replace K2 := Aside0.mk (blk_below K2.out HZ.out)
  clear HZ
  refine sK 2 K1.out ⟨far2 hHeld.1 (by omega), far2 hHeld.2 (by omega)⟩ fun w20 hHeld hp => ?_
  replace K2 := Aside0.mk (kFar hp K2.out (by omega))
  replace K1 := Aside0.mk (kOwn hp K1.out)
  replace HW := Aside0.mk (bFar hp HW.out (by omega))
  clear hp
  refine sK 3 K2.out ⟨far2 hHeld.1 (by omega), far2 hHeld.2 (by omega)⟩ fun w21 hHeld hp => ?_
  replace K1 := Aside0.mk (kFar hp K1.out (by omega))
  replace K2 := Aside0.mk (kOwn hp K2.out)
  replace HW := Aside0.mk (bFar hp HW.out (by omega))
  clear hp
  refine tK 4 4 hHeld ?_
  refine wpAnyH_done (by kernel_rfl) ?_ _
  go_wp2_with fail
  exact retK K1.out K2.out ⟨_, _, _, _, rfl, IsT.zero _, IsT.zero _, fun h => absurd h (by decide), rfl, rfl, HW.out⟩
set_option maxRecDepth 100000 in
set_option maxHeartbeats 3200000 in
theorem rends_3a {x : S54} {v : Value} {w : World} (hx : IsC w v x) (hk : Aside0 (x.f0 = 3)) (hct : Aside0 (checkI x.f1 = 0)) (hl1 : Aside0 (¬ x.f3 < 1)) (hl2o : Aside0 (¬ 2147483648 < x.f3)) (hgr0 : Aside0 (groundB x.f1 = true)) (hlen : Aside0 (x.f5.length = 0)) : Calls Tryd.prog 50 #[v] w (PartsPost (some (z43, x.f1)) w) := by
  have HX := Aside0.mk hx
  obtain ⟨A2, c2, A4, c4, A7, c7, rfl, hl2, hC2, hl4, hC4, -, -⟩ := hx
  have HT := Aside0.mk (IsT.mk (k := x.f1.f0) hl2 hC2)
  have HU := Aside0.mk (IsT.mk (k := x.f2.f0) hl4 hC4)
  rw [S43.eta] at HT HU
  clear hl2 hC2 hl4 hC4
  rw [hlen.out] at HX ⊢
  obtain ⟨k0, k1, k2, hB⟩ := three w (.cells #[.int .i8 x.f0, .int .i8 x.f1.f0, .slice A2 x.f1.f1.length c2, .int .i8 x.f2.f0, .slice A4 x.f2.f1.length c4, .int .i64 x.f3, .bool x.f4, .slice A7 0 c7] 54) (.cells #[.int .i8 0, .slice none 0 0] 43) (.cells #[.int .i8 0, .slice none 0 0] 43)
  have K0 := Aside0.mk k0
  have K1 := Aside0.mk k1
  have K2 := Aside0.mk k2
  replace HX := Aside0.mk (HX.out.below hB)
  replace HT := Aside0.mk (HT.out.below hB)
  replace HU := Aside0.mk (HU.out.below hB)
  have HW := Aside0.mk hB
  clear hB k0 k1 k2
  have hL : leafB x.f0 = true := by rw [hk.out]; rfl
  have hTo : decide (x.f0 = 1) = false := by rw [hk.out]; rfl
  have hLa : (decide (x.f0 = 1) || decide (x.f0 = 3)) = true := by rw [hk.out]; rfl
  have gk0 : (x.f0 == 0) = false := by rw [hk.out]; rfl
  have gk1 : (x.f0 == 1) = false := by rw [hk.out]; rfl
  have gk2 : (x.f0 == 2) = false := by rw [hk.out]; rfl
  have gk : (x.f0 == 3) = true := by rw [hk.out]; rfl
  have ct : (checkI x.f1 != 0) = false := bne_eq_false_iff_eq.mpr hct.out
  have hla1 : decide (x.f3 < 1) = false := decide_eq_false hl1.out
  have hla2 : decide ((2147483648 : Int) < x.f3) = false := decide_eq_false hl2o.out
  have hrt := (check_nodes hct.out).2.2
  have hgr := hgr0.out
  go_enter Tryd.func50, Tryd.ntmps50
  go_wp2_with fail
  generalize ((w.alloc (.cells #[.int .i8 x.f0, .int .i8 x.f1.f0, .slice A2 x.f1.f1.length c2, .int .i8 x.f2.f0, .slice A4 x.f2.f1.length c4, .int .i64 x.f3, .bool x.f4, .slice A7 0 c7] 54)).alloc (.cells #[.int .i8 0, .slice none 0 0] 43)).alloc (.cells #[.int .i8 0, .slice none 0 0] 43) = w0 at *
  have HY := Aside0.mk (Below.refl w0.heap.size w0)
  refine (typed_calls x.f0 _).mono ?_
  rintro e w1 ⟨rfl, hB⟩
  rw [hL]
  replace HY := Aside0.mk (below_then HY.out HY.out.size hB)
  clear hB
  obtain ⟨b0, b1, b2, b3, b4, b5, b6, b7⟩ := cells8 (blk_below K0.out HY.out)
  go_wp2_with fail
  clear b0 b1 b2 b3 b4 b5 b6 b7
  refine (refCheck_calls (HT.out.below HY.out)).mono ?_
  rintro e w2 ⟨rfl, hB⟩
  replace HY := Aside0.mk (below_then HY.out HY.out.size hB)
  clear hB
  obtain ⟨b0, b1, b2, b3, b4, b5, b6, b7⟩ := cells8 (blk_below K0.out HY.out)
  go_wp2_with fail
  clear b0 b1 b2 b3 b4 b5 b6 b7
  refine (toed_calls x.f0 _).mono ?_
  rintro e w3 ⟨rfl, hB⟩
  rw [hTo]
  replace HY := Aside0.mk (below_then HY.out HY.out.size hB)
  clear hB
  obtain ⟨b0, b1, b2, b3, b4, b5, b6, b7⟩ := cells8 (blk_below K0.out HY.out)
  go_wp2_with fail
  clear b0 b1 b2 b3 b4 b5 b6 b7
  refine (labelled_calls x.f0 _).mono ?_
  rintro e w4 ⟨rfl, hB⟩
  rw [hLa]
  replace HY := Aside0.mk (below_then HY.out HY.out.size hB)
  clear hB
  obtain ⟨b0, b1, b2, b3, b4, b5, b6, b7⟩ := cells8 (blk_below K0.out HY.out)
  have hn5 := blk_lt (blk_below K2.out HY.out)
  have K5 := Aside0.mk (heap_alloc_new w4 (.cells #[.int .i8 0, .slice none 0 0] 43))
  replace HY := Aside0.mk (HY.out.alloc HY.out.size (.cells #[.int .i8 0, .slice none 0 0] 43))
  obtain ⟨a0, a1, a2, a3, a4, a5, a6, a7⟩ := cells8 (blk_below K0.out HY.out)
  go_wp2_with fail
  clear b0 b1 b2 b3 b4 b5 b6 b7 a0 a1 a2 a3 a4 a5 a6 a7
  generalize w4.alloc (.cells #[.int .i8 0, .slice none 0 0] 43) = w5 at *
  generalize w4.heap.size = n5 at *
  refine (typed_calls x.f0 _).mono ?_
  rintro e w6 ⟨rfl, hB⟩
  rw [hL]
  replace HY := Aside0.mk (below_then HY.out HY.out.size hB)
  replace K5 := Aside0.mk (blk_below K5.out hB)
  clear hB
  obtain ⟨b0, b1, b2, b3, b4, b5, b6, b7⟩ := cells8 (blk_below K0.out HY.out)
  go_wp2_with fail
  clear b0 b1 b2 b3 b4 b5 b6 b7
  refine (typed_calls x.f0 _).mono ?_
  rintro e w7 ⟨rfl, hB⟩
  rw [hL]
  replace HY := Aside0.mk (below_then HY.out HY.out.size hB)
  replace K5 := Aside0.mk (blk_below K5.out hB)
  clear hB
  obtain ⟨b0, b1, b2, b3, b4, b5, b6, b7⟩ := cells8 (blk_below K0.out HY.out)
  go_wp2_with fail
  clear b0 b1 b2 b3 b4 b5 b6 b7
  replace K0 := Aside0.mk (blk_below K0.out HY.out)
  replace K1 := Aside0.mk (blk_below K1.out HY.out)
  replace K2 := Aside0.mk (blk_below K2.out HY.out)
  replace HW := Aside0.mk (below_then HW.out HW.out.size HY.out)
  replace HT := Aside0.mk (HT.out.below HY.out)
  replace HU := Aside0.mk (HU.out.below HY.out)
  refine wp_region_held_drew (S := fun w' => w'.cell? ⟨w.heap.size, 1, none⟩ = some (.int .i8 x.f1.f0) ∧ w'.cell? ⟨w.heap.size, 2, none⟩ = some (.slice A2 x.f1.f1.length c2) ∧ w'.cell? ⟨n5, 0, none⟩ = some (.int .i8 0) ∧ w'.cell? ⟨n5, 1, none⟩ = some (.slice none 0 0)) (by kernel_rfl) ⟨bcl K0.out, bcl K0.out, bcl K5.out, bcl K5.out⟩ (fun hHeld => ?_)
  have HZ := Aside0.mk ((Below.refl w7.heap.size w7).drew)
  replace HW := Aside0.mk (below_then HW.out HW.out.size HZ.out)
  generalize w7.drew = w8 at *
  refine tK 95 0 hHeld ?_
  refine tK 96 1 hHeld ?_
  refine tK 97 2 hHeld ?_
  refine tK 98 3 hHeld ?_
  refine tK 99 4 hHeld ?_
  refine cK 100 5 (ref15Ground_calls (HT.out.below HZ.out)) ?_
  rintro e w19 ⟨rfl, hB⟩
  rw [hgr]
  replace HZ := Aside0.mk (below_then HZ.out HZ.out.size hB)
  replace HW := Aside0.mk (below_then HW.out HW.out.size hB)
  refine ⟨_, rfl, ⟨pwc hB hHeld.1, pwc hB hHeld.2.1, pwc hB hHeld.2.2.1, pwc hB hHeld.2.2.2⟩, fun hHeld => nA ?_⟩
  clear hB
  replace K1 := Aside0.mk (blk_below K1.out HZ.out)
  replace K2 := Aside0.mk (blk_below K2.out HZ.out)
  replace HT := Aside0.mk (HT.out.below HZ.out)
  clear HZ
  refine sK 6 K1.out ⟨far2 hHeld.1 (by omega), far2 hHeld.2.1 (by omega), far2 hHeld.2.2.1 (by omega), far2 hHeld.2.2.2 (by omega)⟩ fun w20 hHeld hp => ?_
  replace HT := Aside0.mk (tFar hp K1.out hrt HT.out)
  replace K2 := Aside0.mk (kFar hp K2.out (by omega))
  replace K1 := Aside0.mk (kOwn hp K1.out)
  replace HW := Aside0.mk (bFar hp HW.out (by omega))
  clear hp
  refine sK 7 K2.out ⟨far2 hHeld.1 (by omega), far2 hHeld.2.1 (by omega), far2 hHeld.2.2.1 (by omega), far2 hHeld.2.2.2 (by omega)⟩ fun w21 hHeld hp => ?_
  replace HT := Aside0.mk (tFar hp K2.out hrt HT.out)
  replace K1 := Aside0.mk (kFar hp K1.out (by omega))
  replace K2 := Aside0.mk (kOwn hp K2.out)
  replace HW := Aside0.mk (bFar hp HW.out (by omega))
  clear hp
  refine tK 4 8 hHeld ?_
  refine wpAnyH_done (by kernel_rfl) ?_ _
  go_wp2_with fail
  exact retK K1.out K2.out ⟨_, _, _, _, rfl, IsT.zero _, HT.out, fun _ => rfl, rfl, hrt, HW.out⟩
set_option maxRecDepth 100000 in
set_option maxHeartbeats 3200000 in
theorem rends_3b {x : S54} {v : Value} {w : World} (hx : IsC w v x) (hk : Aside0 (x.f0 = 3)) (hct : Aside0 (checkI x.f1 = 0)) (hl1 : Aside0 (¬ x.f3 < 1)) (hl2o : Aside0 (¬ 2147483648 < x.f3)) (hgr0 : Aside0 (groundB x.f1 = false)) (hlen : Aside0 (x.f5.length = 0)) : Calls Tryd.prog 50 #[v] w (PartsPost none w) := by
  have HX := Aside0.mk hx
  obtain ⟨A2, c2, A4, c4, A7, c7, rfl, hl2, hC2, hl4, hC4, -, -⟩ := hx
  have HT := Aside0.mk (IsT.mk (k := x.f1.f0) hl2 hC2)
  have HU := Aside0.mk (IsT.mk (k := x.f2.f0) hl4 hC4)
  rw [S43.eta] at HT HU
  clear hl2 hC2 hl4 hC4
  rw [hlen.out] at HX ⊢
  obtain ⟨k0, k1, k2, hB⟩ := three w (.cells #[.int .i8 x.f0, .int .i8 x.f1.f0, .slice A2 x.f1.f1.length c2, .int .i8 x.f2.f0, .slice A4 x.f2.f1.length c4, .int .i64 x.f3, .bool x.f4, .slice A7 0 c7] 54) (.cells #[.int .i8 0, .slice none 0 0] 43) (.cells #[.int .i8 0, .slice none 0 0] 43)
  have K0 := Aside0.mk k0
  have K1 := Aside0.mk k1
  have K2 := Aside0.mk k2
  replace HX := Aside0.mk (HX.out.below hB)
  replace HT := Aside0.mk (HT.out.below hB)
  replace HU := Aside0.mk (HU.out.below hB)
  have HW := Aside0.mk hB
  clear hB k0 k1 k2
  have hL : leafB x.f0 = true := by rw [hk.out]; rfl
  have hTo : decide (x.f0 = 1) = false := by rw [hk.out]; rfl
  have hLa : (decide (x.f0 = 1) || decide (x.f0 = 3)) = true := by rw [hk.out]; rfl
  have gk0 : (x.f0 == 0) = false := by rw [hk.out]; rfl
  have gk1 : (x.f0 == 1) = false := by rw [hk.out]; rfl
  have gk2 : (x.f0 == 2) = false := by rw [hk.out]; rfl
  have gk : (x.f0 == 3) = true := by rw [hk.out]; rfl
  have ct : (checkI x.f1 != 0) = false := bne_eq_false_iff_eq.mpr hct.out
  have hla1 : decide (x.f3 < 1) = false := decide_eq_false hl1.out
  have hla2 : decide ((2147483648 : Int) < x.f3) = false := decide_eq_false hl2o.out
  have hrt := (check_nodes hct.out).2.2
  have hgr := hgr0.out
  go_enter Tryd.func50, Tryd.ntmps50
  go_wp2_with fail
  generalize ((w.alloc (.cells #[.int .i8 x.f0, .int .i8 x.f1.f0, .slice A2 x.f1.f1.length c2, .int .i8 x.f2.f0, .slice A4 x.f2.f1.length c4, .int .i64 x.f3, .bool x.f4, .slice A7 0 c7] 54)).alloc (.cells #[.int .i8 0, .slice none 0 0] 43)).alloc (.cells #[.int .i8 0, .slice none 0 0] 43) = w0 at *
  have HY := Aside0.mk (Below.refl w0.heap.size w0)
  refine (typed_calls x.f0 _).mono ?_
  rintro e w1 ⟨rfl, hB⟩
  rw [hL]
  replace HY := Aside0.mk (below_then HY.out HY.out.size hB)
  clear hB
  obtain ⟨b0, b1, b2, b3, b4, b5, b6, b7⟩ := cells8 (blk_below K0.out HY.out)
  go_wp2_with fail
  clear b0 b1 b2 b3 b4 b5 b6 b7
  refine (refCheck_calls (HT.out.below HY.out)).mono ?_
  rintro e w2 ⟨rfl, hB⟩
  replace HY := Aside0.mk (below_then HY.out HY.out.size hB)
  clear hB
  obtain ⟨b0, b1, b2, b3, b4, b5, b6, b7⟩ := cells8 (blk_below K0.out HY.out)
  go_wp2_with fail
  clear b0 b1 b2 b3 b4 b5 b6 b7
  refine (toed_calls x.f0 _).mono ?_
  rintro e w3 ⟨rfl, hB⟩
  rw [hTo]
  replace HY := Aside0.mk (below_then HY.out HY.out.size hB)
  clear hB
  obtain ⟨b0, b1, b2, b3, b4, b5, b6, b7⟩ := cells8 (blk_below K0.out HY.out)
  go_wp2_with fail
  clear b0 b1 b2 b3 b4 b5 b6 b7
  refine (labelled_calls x.f0 _).mono ?_
  rintro e w4 ⟨rfl, hB⟩
  rw [hLa]
  replace HY := Aside0.mk (below_then HY.out HY.out.size hB)
  clear hB
  obtain ⟨b0, b1, b2, b3, b4, b5, b6, b7⟩ := cells8 (blk_below K0.out HY.out)
  have hn5 := blk_lt (blk_below K2.out HY.out)
  have K5 := Aside0.mk (heap_alloc_new w4 (.cells #[.int .i8 0, .slice none 0 0] 43))
  replace HY := Aside0.mk (HY.out.alloc HY.out.size (.cells #[.int .i8 0, .slice none 0 0] 43))
  obtain ⟨a0, a1, a2, a3, a4, a5, a6, a7⟩ := cells8 (blk_below K0.out HY.out)
  go_wp2_with fail
  clear b0 b1 b2 b3 b4 b5 b6 b7 a0 a1 a2 a3 a4 a5 a6 a7
  generalize w4.alloc (.cells #[.int .i8 0, .slice none 0 0] 43) = w5 at *
  generalize w4.heap.size = n5 at *
  refine (typed_calls x.f0 _).mono ?_
  rintro e w6 ⟨rfl, hB⟩
  rw [hL]
  replace HY := Aside0.mk (below_then HY.out HY.out.size hB)
  replace K5 := Aside0.mk (blk_below K5.out hB)
  clear hB
  obtain ⟨b0, b1, b2, b3, b4, b5, b6, b7⟩ := cells8 (blk_below K0.out HY.out)
  go_wp2_with fail
  clear b0 b1 b2 b3 b4 b5 b6 b7
  refine (typed_calls x.f0 _).mono ?_
  rintro e w7 ⟨rfl, hB⟩
  rw [hL]
  replace HY := Aside0.mk (below_then HY.out HY.out.size hB)
  replace K5 := Aside0.mk (blk_below K5.out hB)
  clear hB
  obtain ⟨b0, b1, b2, b3, b4, b5, b6, b7⟩ := cells8 (blk_below K0.out HY.out)
  go_wp2_with fail
  clear b0 b1 b2 b3 b4 b5 b6 b7
  replace K0 := Aside0.mk (blk_below K0.out HY.out)
  replace K1 := Aside0.mk (blk_below K1.out HY.out)
  replace K2 := Aside0.mk (blk_below K2.out HY.out)
  replace HW := Aside0.mk (below_then HW.out HW.out.size HY.out)
  replace HT := Aside0.mk (HT.out.below HY.out)
  replace HU := Aside0.mk (HU.out.below HY.out)
  refine wp_region_held_drew (S := fun w' => w'.cell? ⟨w.heap.size, 1, none⟩ = some (.int .i8 x.f1.f0) ∧ w'.cell? ⟨w.heap.size, 2, none⟩ = some (.slice A2 x.f1.f1.length c2) ∧ w'.cell? ⟨n5, 0, none⟩ = some (.int .i8 0) ∧ w'.cell? ⟨n5, 1, none⟩ = some (.slice none 0 0)) (by kernel_rfl) ⟨bcl K0.out, bcl K0.out, bcl K5.out, bcl K5.out⟩ (fun hHeld => ?_)
  have HZ := Aside0.mk ((Below.refl w7.heap.size w7).drew)
  replace HW := Aside0.mk (below_then HW.out HW.out.size HZ.out)
  generalize w7.drew = w8 at *
  refine tK 95 0 hHeld ?_
  refine tK 96 1 hHeld ?_
  refine tK 97 2 hHeld ?_
  refine tK 98 3 hHeld ?_
  refine tK 99 4 hHeld ?_
  refine cK 100 5 (ref15Ground_calls (HT.out.below HZ.out)) ?_
  rintro e w19 ⟨rfl, hB⟩
  rw [hgr]
  replace HZ := Aside0.mk (below_then HZ.out HZ.out.size hB)
  replace HW := Aside0.mk (below_then HW.out HW.out.size hB)
  refine ⟨_, rfl, ⟨pwc hB hHeld.1, pwc hB hHeld.2.1, pwc hB hHeld.2.2.1, pwc hB hHeld.2.2.2⟩, fun hHeld => nA ?_⟩
  clear hB
  replace K1 := Aside0.mk (blk_below K1.out HZ.out)
  replace K2 := Aside0.mk (blk_below K2.out HZ.out)
  replace HT := Aside0.mk (HT.out.below HZ.out)
  clear HZ
  refine sK 6 K1.out ⟨far2 hHeld.1 (by omega), far2 hHeld.2.1 (by omega), far2 hHeld.2.2.1 (by omega), far2 hHeld.2.2.2 (by omega)⟩ fun w20 hHeld hp => ?_
  replace HT := Aside0.mk (tFar hp K1.out hrt HT.out)
  replace K2 := Aside0.mk (kFar hp K2.out (by omega))
  replace K1 := Aside0.mk (kOwn hp K1.out)
  replace HW := Aside0.mk (bFar hp HW.out (by omega))
  clear hp
  refine sK 7 K2.out ⟨far2 hHeld.1 (by omega), far2 hHeld.2.1 (by omega), far2 hHeld.2.2.1 (by omega), far2 hHeld.2.2.2 (by omega)⟩ fun w21 hHeld hp => ?_
  replace HT := Aside0.mk (tFar hp K2.out hrt HT.out)
  replace K1 := Aside0.mk (kFar hp K1.out (by omega))
  replace K2 := Aside0.mk (kOwn hp K2.out)
  replace HW := Aside0.mk (bFar hp HW.out (by omega))
  clear hp
  refine tK 4 8 hHeld ?_
  refine wpAnyH_done (by kernel_rfl) ?_ _
  go_wp2_with fail
  exact retK K1.out K2.out ⟨_, _, _, _, rfl, IsT.zero _, HT.out, fun h => absurd h (by decide), rfl, hrt, HW.out⟩
set_option maxRecDepth 100000 in
set_option maxHeartbeats 3200000 in
theorem rends_n {x : S54} {v : Value} {w : World} (hx : IsC w v x) (hLo : Aside0 (leafB x.f0 = false)) (hl : Aside0 (x.f5.length ≠ 2)) : Calls Tryd.prog 50 #[v] w (PartsPost none w) := by
  have HX := Aside0.mk hx
  obtain ⟨A2, c2, A4, c4, A7, c7, rfl, hl2, hC2, hl4, hC4, -, -⟩ := hx
  have HT := Aside0.mk (IsT.mk (k := x.f1.f0) hl2 hC2)
  have HU := Aside0.mk (IsT.mk (k := x.f2.f0) hl4 hC4)
  rw [S43.eta] at HT HU
  clear hl2 hC2 hl4 hC4
  obtain ⟨k0, k1, k2, hB⟩ := three w (.cells #[.int .i8 x.f0, .int .i8 x.f1.f0, .slice A2 x.f1.f1.length c2, .int .i8 x.f2.f0, .slice A4 x.f2.f1.length c4, .int .i64 x.f3, .bool x.f4, .slice A7 x.f5.length c7] 54) (.cells #[.int .i8 0, .slice none 0 0] 43) (.cells #[.int .i8 0, .slice none 0 0] 43)
  have K0 := Aside0.mk k0
  have K1 := Aside0.mk k1
  have K2 := Aside0.mk k2
  replace HX := Aside0.mk (HX.out.below hB)
  replace HT := Aside0.mk (HT.out.below hB)
  replace HU := Aside0.mk (HU.out.below hB)
  have HW := Aside0.mk hB
  clear hB k0 k1 k2
  have hL := hLo.out
  have hTo : decide (x.f0 = 1) = false := decide_eq_false fun h => by rw [h] at hL; simp [leafB] at hL
  have hLa : (decide (x.f0 = 1) || decide (x.f0 = 3)) = false := by rw [hTo, Bool.false_or]; exact decide_eq_false fun h => by rw [h] at hL; simp [leafB] at hL
  have gk0 : (x.f0 == 0) = false := beq_eq_false_iff_ne.mpr fun h => by rw [h] at hL; simp [leafB] at hL
  have gk1 : (x.f0 == 1) = false := beq_eq_false_iff_ne.mpr fun h => by rw [h] at hL; simp [leafB] at hL
  have gk2 : (x.f0 == 2) = false := beq_eq_false_iff_ne.mpr fun h => by rw [h] at hL; simp [leafB] at hL
  have gk3 : (x.f0 == 3) = false := beq_eq_false_iff_ne.mpr fun h => by rw [h] at hL; simp [leafB] at hL
  have hlk : ((x.f5.length : Int) != 2) = true := bne_iff_ne.mpr (by have := hl.out; omega)
  go_enter Tryd.func50, Tryd.ntmps50
  go_wp2_with fail
  generalize ((w.alloc (.cells #[.int .i8 x.f0, .int .i8 x.f1.f0, .slice A2 x.f1.f1.length c2, .int .i8 x.f2.f0, .slice A4 x.f2.f1.length c4, .int .i64 x.f3, .bool x.f4, .slice A7 x.f5.length c7] 54)).alloc (.cells #[.int .i8 0, .slice none 0 0] 43)).alloc (.cells #[.int .i8 0, .slice none 0 0] 43) = w0 at *
  have HY := Aside0.mk (Below.refl w0.heap.size w0)
  refine (typed_calls x.f0 _).mono ?_
  rintro e w1 ⟨rfl, hB⟩
  rw [hL]
  replace HY := Aside0.mk (below_then HY.out HY.out.size hB)
  clear hB
  obtain ⟨b0, b1, b2, b3, b4, b5, b6, b7⟩ := cells8 (blk_below K0.out HY.out)
  go_wp2_with fail
  clear b0 b1 b2 b3 b4 b5 b6 b7
  refine (toed_calls x.f0 _).mono ?_
  rintro e w2 ⟨rfl, hB⟩
  rw [hTo]
  replace HY := Aside0.mk (below_then HY.out HY.out.size hB)
  clear hB
  obtain ⟨b0, b1, b2, b3, b4, b5, b6, b7⟩ := cells8 (blk_below K0.out HY.out)
  go_wp2_with fail
  clear b0 b1 b2 b3 b4 b5 b6 b7
  refine (labelled_calls x.f0 _).mono ?_
  rintro e w3 ⟨rfl, hB⟩
  rw [hLa]
  replace HY := Aside0.mk (below_then HY.out HY.out.size hB)
  clear hB
  obtain ⟨b0, b1, b2, b3, b4, b5, b6, b7⟩ := cells8 (blk_below K0.out HY.out)
  have hn5 := blk_lt (blk_below K2.out HY.out)
  have K5 := Aside0.mk (heap_alloc_new w3 (.cells #[.int .i8 0, .slice none 0 0] 43))
  replace HY := Aside0.mk (HY.out.alloc HY.out.size (.cells #[.int .i8 0, .slice none 0 0] 43))
  obtain ⟨a0, a1, a2, a3, a4, a5, a6, a7⟩ := cells8 (blk_below K0.out HY.out)
  go_wp2_with fail
  clear b0 b1 b2 b3 b4 b5 b6 b7 a0 a1 a2 a3 a4 a5 a6 a7
  generalize w3.alloc (.cells #[.int .i8 0, .slice none 0 0] 43) = w4 at *
  generalize w3.heap.size = n5 at *
  refine (typed_calls x.f0 _).mono ?_
  rintro e w5 ⟨rfl, hB⟩
  rw [hL]
  replace HY := Aside0.mk (below_then HY.out HY.out.size hB)
  replace K5 := Aside0.mk (blk_below K5.out hB)
  clear hB
  obtain ⟨b0, b1, b2, b3, b4, b5, b6, b7⟩ := cells8 (blk_below K0.out HY.out)
  go_wp2_with fail
  clear b0 b1 b2 b3 b4 b5 b6 b7
  refine (typed_calls x.f0 _).mono ?_
  rintro e w6 ⟨rfl, hB⟩
  rw [hL]
  replace HY := Aside0.mk (below_then HY.out HY.out.size hB)
  replace K5 := Aside0.mk (blk_below K5.out hB)
  clear hB
  obtain ⟨b0, b1, b2, b3, b4, b5, b6, b7⟩ := cells8 (blk_below K0.out HY.out)
  go_wp2_with fail
  clear b0 b1 b2 b3 b4 b5 b6 b7
  replace K0 := Aside0.mk (blk_below K0.out HY.out)
  replace K1 := Aside0.mk (blk_below K1.out HY.out)
  replace K2 := Aside0.mk (blk_below K2.out HY.out)
  replace HW := Aside0.mk (below_then HW.out HW.out.size HY.out)
  replace HT := Aside0.mk (HT.out.below HY.out)
  replace HU := Aside0.mk (HU.out.below HY.out)
  refine wp_region_held_drew (S := fun w' => w'.cell? ⟨n5, 0, none⟩ = some (.int .i8 0) ∧ w'.cell? ⟨n5, 1, none⟩ = some (.slice none 0 0)) (by kernel_rfl) ⟨bcl K5.out, bcl K5.out⟩ (fun hHeld => ?_)
  have HZ := Aside0.mk ((Below.refl w6.heap.size w6).drew)
  replace HW := Aside0.mk (below_then HW.out HW.out.size HZ.out)
  generalize w6.drew = w7 at *
  refine tK 65 0 hHeld ?_
  refine tK 66 1 hHeld ?_
  replace K1 := Aside0.mk (blk_below K1.out HZ.out)
  replace K2 := Aside0.mk (blk_below K2.out HZ.out)
  clear HZ
  refine sK 2 K1.out ⟨far2 hHeld.1 (by omega), far2 hHeld.2 (by omega)⟩ fun w20 hHeld hp => ?_
  replace K2 := Aside0.mk (kFar hp K2.out (by omega))
  replace K1 := Aside0.mk (kOwn hp K1.out)
  replace HW := Aside0.mk (bFar hp HW.out (by omega))
  clear hp
  refine sK 3 K2.out ⟨far2 hHeld.1 (by omega), far2 hHeld.2 (by omega)⟩ fun w21 hHeld hp => ?_
  replace K1 := Aside0.mk (kFar hp K1.out (by omega))
  replace K2 := Aside0.mk (kOwn hp K2.out)
  replace HW := Aside0.mk (bFar hp HW.out (by omega))
  clear hp
  refine tK 4 4 hHeld ?_
  refine wpAnyH_done (by kernel_rfl) ?_ _
  go_wp2_with fail
  exact retK K1.out K2.out ⟨_, _, _, _, rfl, IsT.zero _, IsT.zero _, fun h => absurd h (by decide), rfl, rfl, HW.out⟩
end Go.Proofs.YtjmpejbciniceaaDoor.X
namespace Go.Proofs.YtjmpejbciniceaaDoor.X
open Go.RowKit Go.Proofs.YtjmpejbciniceaaDoorW.PrintWords Go.Proofs.YtjmpejbciniceaaDoorW.PrintLast Go.Proofs.YtjmpejbciniceaaDoorW.PrintMore
set_option linter.unusedVariables false
set_option linter.unusedSimpArgs false
set_option maxRecDepth 100000 in
set_option maxHeartbeats 3200000 in
theorem rends_p {x : S54} {v : Value} {w : World} (hx : IsC w v x) {r : Option (S43 × S43)} (HPR : Aside0 (∀ (v : Value) (w : World), IsC w v x → Calls Tryd.prog 101 #[v] w (PartsPost r w))) (hLo : Aside0 (leafB x.f0 = false)) (hlen : Aside0 (x.f5.length = 2)) : Calls Tryd.prog 50 #[v] w (PartsPost r w) := by
  have HX := Aside0.mk hx
  obtain ⟨A2, c2, A4, c4, A7, c7, rfl, hl2, hC2, hl4, hC4, -, -⟩ := hx
  have HT := Aside0.mk (IsT.mk (k := x.f1.f0) hl2 hC2)
  have HU := Aside0.mk (IsT.mk (k := x.f2.f0) hl4 hC4)
  rw [S43.eta] at HT HU
  clear hl2 hC2 hl4 hC4
  rw [hlen.out] at HX ⊢
  obtain ⟨k0, k1, k2, hB⟩ := three w (.cells #[.int .i8 x.f0, .int .i8 x.f1.f0, .slice A2 x.f1.f1.length c2, .int .i8 x.f2.f0, .slice A4 x.f2.f1.length c4, .int .i64 x.f3, .bool x.f4, .slice A7 2 c7] 54) (.cells #[.int .i8 0, .slice none 0 0] 43) (.cells #[.int .i8 0, .slice none 0 0] 43)
  have K0 := Aside0.mk k0
  have K1 := Aside0.mk k1
  have K2 := Aside0.mk k2
  replace HX := Aside0.mk (HX.out.below hB)
  replace HT := Aside0.mk (HT.out.below hB)
  replace HU := Aside0.mk (HU.out.below hB)
  have HW := Aside0.mk hB
  clear hB k0 k1 k2
  have hL := hLo.out
  have hTo : decide (x.f0 = 1) = false := decide_eq_false fun h => by rw [h] at hL; simp [leafB] at hL
  have hLa : (decide (x.f0 = 1) || decide (x.f0 = 3)) = false := by rw [hTo, Bool.false_or]; exact decide_eq_false fun h => by rw [h] at hL; simp [leafB] at hL
  have gk0 : (x.f0 == 0) = false := beq_eq_false_iff_ne.mpr fun h => by rw [h] at hL; simp [leafB] at hL
  have gk1 : (x.f0 == 1) = false := beq_eq_false_iff_ne.mpr fun h => by rw [h] at hL; simp [leafB] at hL
  have gk2 : (x.f0 == 2) = false := beq_eq_false_iff_ne.mpr fun h => by rw [h] at hL; simp [leafB] at hL
  have gk3 : (x.f0 == 3) = false := beq_eq_false_iff_ne.mpr fun h => by rw [h] at hL; simp [leafB] at hL
  go_enter Tryd.func50, Tryd.ntmps50
  go_wp2_with fail
  generalize ((w.alloc (.cells #[.int .i8 x.f0, .int .i8 x.f1.f0, .slice A2 x.f1.f1.length c2, .int .i8 x.f2.f0, .slice A4 x.f2.f1.length c4, .int .i64 x.f3, .bool x.f4, .slice A7 2 c7] 54)).alloc (.cells #[.int .i8 0, .slice none 0 0] 43)).alloc (.cells #[.int .i8 0, .slice none 0 0] 43) = w0 at *
  have HY := Aside0.mk (Below.refl w0.heap.size w0)
  refine (typed_calls x.f0 _).mono ?_
  rintro e w1 ⟨rfl, hB⟩
  rw [hL]
  replace HY := Aside0.mk (below_then HY.out HY.out.size hB)
  clear hB
  obtain ⟨b0, b1, b2, b3, b4, b5, b6, b7⟩ := cells8 (blk_below K0.out HY.out)
  go_wp2_with fail
  clear b0 b1 b2 b3 b4 b5 b6 b7
  refine (toed_calls x.f0 _).mono ?_
  rintro e w2 ⟨rfl, hB⟩
  rw [hTo]
  replace HY := Aside0.mk (below_then HY.out HY.out.size hB)
  clear hB
  obtain ⟨b0, b1, b2, b3, b4, b5, b6, b7⟩ := cells8 (blk_below K0.out HY.out)
  go_wp2_with fail
  clear b0 b1 b2 b3 b4 b5 b6 b7
  refine (labelled_calls x.f0 _).mono ?_
  rintro e w3 ⟨rfl, hB⟩
  rw [hLa]
  replace HY := Aside0.mk (below_then HY.out HY.out.size hB)
  clear hB
  obtain ⟨b0, b1, b2, b3, b4, b5, b6, b7⟩ := cells8 (blk_below K0.out HY.out)
  have hn5 := blk_lt (blk_below K2.out HY.out)
  have K5 := Aside0.mk (heap_alloc_new w3 (.cells #[.int .i8 0, .slice none 0 0] 43))
  replace HY := Aside0.mk (HY.out.alloc HY.out.size (.cells #[.int .i8 0, .slice none 0 0] 43))
  obtain ⟨a0, a1, a2, a3, a4, a5, a6, a7⟩ := cells8 (blk_below K0.out HY.out)
  go_wp2_with fail
  clear b0 b1 b2 b3 b4 b5 b6 b7 a0 a1 a2 a3 a4 a5 a6 a7
  generalize w3.alloc (.cells #[.int .i8 0, .slice none 0 0] 43) = w4 at *
  generalize w3.heap.size = n5 at *
  refine (typed_calls x.f0 _).mono ?_
  rintro e w5 ⟨rfl, hB⟩
  rw [hL]
  replace HY := Aside0.mk (below_then HY.out HY.out.size hB)
  replace K5 := Aside0.mk (blk_below K5.out hB)
  clear hB
  obtain ⟨b0, b1, b2, b3, b4, b5, b6, b7⟩ := cells8 (blk_below K0.out HY.out)
  go_wp2_with fail
  clear b0 b1 b2 b3 b4 b5 b6 b7
  refine (typed_calls x.f0 _).mono ?_
  rintro e w6 ⟨rfl, hB⟩
  rw [hL]
  replace HY := Aside0.mk (below_then HY.out HY.out.size hB)
  replace K5 := Aside0.mk (blk_below K5.out hB)
  clear hB
  obtain ⟨b0, b1, b2, b3, b4, b5, b6, b7⟩ := cells8 (blk_below K0.out HY.out)
  go_wp2_with fail
  clear b0 b1 b2 b3 b4 b5 b6 b7
  refine (HPR.out _ _ (HX.out.below HY.out)).mono ?_
  rintro e wn ⟨va, vb, ta, tb, rfl, hta, htb, him, hra, hrb, hB⟩
  replace HY := Aside0.mk (below_then HY.out HY.out.size hB)
  clear hB
  have HTA := Aside0.mk hta
  have HTB := Aside0.mk htb
  obtain ⟨Pa, pa, rfl, -⟩ := hta
  obtain ⟨Pb, pb, rfl, -⟩ := htb
  have K1' := blk_below K1.out HY.out
  have K2' := blk_below K2.out HY.out
  obtain ⟨c0, c1, z0, z1⟩ := cells2 K1'
  obtain ⟨d0, d1, y0, y1⟩ := cells2 K2'
  replace K1 := Aside0.mk K1'
  replace K2 := Aside0.mk K2'
  clear K1' K2'
  go_wp2_with fail
  exact retP K1.out K2.out (by omega) ⟨_, _, ta, tb, rfl, tFar rfl (kFar rfl K2.out (by omega)) hra (tFar rfl K1.out hra HTA.out), tFar rfl (kFar rfl K2.out (by omega)) hrb (tFar rfl K1.out hrb HTB.out), him, hra, hrb, bFar rfl (bFar rfl (below_then HW.out HW.out.size HY.out) (by omega)) (by omega)⟩
theorem ends_of {x : S54} {r : Option (S43 × S43)} {f : FuncId} {v : Value} {w : World} (hr : endsC x = r) (h : Calls Tryd.prog f #[v] w (PartsPost r w)) : Calls Tryd.prog f #[v] w (EndsPost x w) := by
  subst hr
  exact h
theorem ends_leaf {x : S54} (hL : leafB x.f0 = true) : endsC x = if x.f5.length = 0 then leafC x.f0 x.f1 x.f2 x.f3 else none := by
  obtain ⟨k, t, u, la, ne, l⟩ := x
  rw [endsC, if_pos hL]
theorem ends_none {x : S54} (hL : leafB x.f0 = false) (hl : x.f5.length ≠ 2) : endsC x = none := by
  obtain ⟨k, t, u, la, ne, l⟩ := x
  rw [endsC, if_neg (by rw [hL]; decide)]
  match l, hl with
  | [], _ => rfl
  | [_], _ => simp [endsL]
  | [_, _], h => exact absurd rfl h
  | _ :: _ :: _ :: _, _ => simp [endsL]
theorem leaf_kinds {k : Int} (h : leafB k = true) : k = 0 ∨ k = 1 ∨ k = 2 ∨ k = 3 := by
  unfold leafB at h
  simp at h
  omega
theorem labB_false {n : Int} (h : n < 1 ∨ 2147483648 < n) : labB n = false := by
  unfold labB
  rcases h with h | h
  · rw [decide_eq_false (by omega)]; rfl
  · rw [decide_eq_false (p := n ≤ 2147483648) (by omega), Bool.and_false]
theorem labB_true {n : Int} (h1 : ¬ n < 1) (h2 : ¬ 2147483648 < n) : labB n = true := by
  unfold labB
  rw [decide_eq_true (by omega), decide_eq_true (by omega)]; rfl
theorem rends_at (n : Nat) : ∀ (x : S54) (v : Value) (w : World), cnodes x < n → IsC w v x → Calls Tryd.prog 50 #[v] w (EndsPost x w) := by
  induction n with
  | zero => intro x v w h; omega
  | succ n ih =>
  intro x v w hn hx
  cases hL : leafB x.f0 with
  | false =>
    by_cases hl : x.f5.length = 2
    · obtain ⟨p, q, e⟩ : ∃ p q, x.f5 = [p, q] := by
        match h : x.f5 with
        | [] => rw [h] at hl; simp at hl
        | [_] => rw [h] at hl; simp at hl
        | [p, q] => exact ⟨p, q, rfl⟩
        | _ :: _ :: _ :: _ => rw [h] at hl; simp at hl
      have hc : cnodes p < n ∧ cnodes q < n := by
        rw [cnodes_eq, e] at hn
        simp only [cnodesL] at hn
        omega
      exact ends_of (ends_parts hL e) (rends_p hx ⟨fun v w h => rparts_calls (fun v w h => ih p v w hc.1 h) (fun v w h => ih q v w hc.2 h) h e⟩ ⟨hL⟩ ⟨hl⟩)
    · exact ends_of (ends_none hL hl) (rends_n hx ⟨hL⟩ ⟨hl⟩)
  | true =>
    have he := ends_leaf hL
    by_cases hct : checkI x.f1 = 0
    · rcases leaf_kinds hL with hk | hk | hk | hk
      · by_cases hl : x.f5.length = 0
        · exact ends_of (by rw [he, if_pos hl, hk]; simp [leafC, hct]) (rends_0 hx ⟨hk⟩ ⟨hct⟩ ⟨hl⟩)
        · exact ends_of (by rw [he, if_neg hl]) (rends_k0 hx ⟨hk⟩ ⟨hct⟩ ⟨hl⟩)
      · by_cases hcu : checkI x.f2 = 0
        · by_cases l1 : x.f3 < 1
          · exact ends_of (by rw [he, hk]; simp [leafC, hct, labB_false (.inl l1)]) (rends_l1 hx ⟨hk⟩ ⟨hct⟩ ⟨hcu⟩ ⟨l1⟩)
          · by_cases l2 : 2147483648 < x.f3
            · exact ends_of (by rw [he, hk]; simp [leafC, hct, labB_false (.inr l2)]) (rends_m1 hx ⟨hk⟩ ⟨hct⟩ ⟨hcu⟩ ⟨l1⟩ ⟨l2⟩)
            · by_cases hl : x.f5.length = 0
              · cases hu : (x.f1.f0 != 0) with
                | true => exact ends_of (by rw [he, if_pos hl, hk]; have := bne_iff_ne.mp hu; simp [leafC, hct, hcu, labB_true l1 l2, this]) (rends_1a hx ⟨hk⟩ ⟨hct⟩ ⟨hcu⟩ ⟨l1⟩ ⟨l2⟩ ⟨hu⟩ ⟨hl⟩)
                | false => exact ends_of (by rw [he, if_pos hl, hk]; have := bne_eq_false_iff_eq.mp hu; simp [leafC, hct, hcu, labB_true l1 l2, this]) (rends_1b hx ⟨hk⟩ ⟨hct⟩ ⟨hcu⟩ ⟨l1⟩ ⟨l2⟩ ⟨hu⟩ ⟨hl⟩)
              · exact ends_of (by rw [he, if_neg hl]) (rends_k1 hx ⟨hk⟩ ⟨hct⟩ ⟨hcu⟩ ⟨l1⟩ ⟨l2⟩ ⟨hl⟩)
        · exact ends_of (by rw [he, hk]; simp [leafC, hct, hcu]) (rends_u hx ⟨hk⟩ ⟨hct⟩ ⟨hcu⟩)
      · by_cases hl : x.f5.length = 0
        · cases hg : groundB x.f1 with
          | true => exact ends_of (by rw [he, if_pos hl, hk]; simp [leafC, hct, hg]) (rends_2a hx ⟨hk⟩ ⟨hct⟩ ⟨hg⟩ ⟨hl⟩)
          | false => exact ends_of (by rw [he, if_pos hl, hk]; simp [leafC, hct, hg]) (rends_2b hx ⟨hk⟩ ⟨hct⟩ ⟨hg⟩ ⟨hl⟩)
        · exact ends_of (by rw [he, if_neg hl]) (rends_k2 hx ⟨hk⟩ ⟨hct⟩ ⟨hl⟩)
      · by_cases l1 : x.f3 < 1
        · exact ends_of (by rw [he, hk]; simp [leafC, hct, labB_false (.inl l1)]) (rends_l3 hx ⟨hk⟩ ⟨hct⟩ ⟨l1⟩)
        · by_cases l2 : 2147483648 < x.f3
          · exact ends_of (by rw [he, hk]; simp [leafC, hct, labB_false (.inr l2)]) (rends_m3 hx ⟨hk⟩ ⟨hct⟩ ⟨l1⟩ ⟨l2⟩)
          · by_cases hl : x.f5.length = 0
            · cases hg : groundB x.f1 with
              | true => exact ends_of (by rw [he, if_pos hl, hk]; simp [leafC, hct, hg, labB_true l1 l2]) (rends_3a hx ⟨hk⟩ ⟨hct⟩ ⟨l1⟩ ⟨l2⟩ ⟨hg⟩ ⟨hl⟩)
              | false => exact ends_of (by rw [he, if_pos hl, hk]; simp [leafC, hct, hg, labB_true l1 l2]) (rends_3b hx ⟨hk⟩ ⟨hct⟩ ⟨l1⟩ ⟨l2⟩ ⟨hg⟩ ⟨hl⟩)
            · exact ends_of (by rw [he, if_neg hl]) (rends_k3 hx ⟨hk⟩ ⟨hct⟩ ⟨l1⟩ ⟨l2⟩ ⟨hl⟩)
    · exact ends_of (by rw [he]; simp [leafC, hct]) (rends_t hx ⟨hL⟩ ⟨hct⟩)
theorem rends_calls {x : S54} {v : Value} {w : World} (hx : IsC w v x) : Calls Tryd.prog 50 #[v] w (EndsPost x w) := rends_at _ x v w (Nat.lt_succ_self _) hx
theorem rcheck15_calls {x : S54} {v : Value} {w : World} (hx : IsC w v x) : Calls Tryd.prog 17 #[v] w (CheckPost x w) := rcheck_calls ⟨fun _ _ _ h => rends_calls h⟩ hx
end Go.Proofs.YtjmpejbciniceaaDoor.X
