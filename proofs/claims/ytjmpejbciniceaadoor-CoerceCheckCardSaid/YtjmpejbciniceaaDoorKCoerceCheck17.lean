/- Texts of this claim, joined: HRtext, Shelf, HWds0, HWds1, HWds2. -/
import Derived.Deep.CutBlock
import Derived.Shelf.Strings.Builder1
import Derived.Shelf.Strings.Builder2
import Derived.Shelf.Strings.OnBuilder
import Derived.Shelf.Strings.BuilderF
import Derived.Shelf.Strings.BuilderK
import Derived.Shelf.Strings.Builder2Cap
import Derived.Shelf.Strconv.Itoa0
import Derived.Shelf.Strconv.Itoa1
import Derived.Shelf.LaysM
import Derived.Shelf.Strconv.Itoa2
import Derived.Shelf.Strconv.Itoa3
import Derived.Test.YtjmpejbciniceaaDoorProg
import Derived.WideMake
import Derived.MapKept
import Derived.Test.YtjmpejbciniceaaDoorKCoerceCheck11
import Derived.Test.YtjmpejbciniceaaDoorKCoerceCheck14
import Derived.Test.YtjmpejbciniceaaDoorKCoerceCheck15
namespace Go.Proofs.YtjmpejbciniceaaDoor.X
open Go.RowKit Go.Proofs.YtjmpejbciniceaaDoorW.PrintWords Go.Proofs.YtjmpejbciniceaaDoorW.PrintLast Go.Proofs.YtjmpejbciniceaaDoorW.PrintMore
set_option linter.unusedVariables false
set_option linter.unusedSimpArgs false
theorem brace_sz {t : S43} (h : checkI t = 0) : (bS (braceC t)).size ≤ 60000 := by
  obtain ⟨h8, -, hr⟩ := check_nodes h
  have := braceC_len t hr
  rw [bS_size]
  omega
theorem side_sz {la : Int} (ne : Bool) (h : labB la = true) : (bS (sideC la ne)).size ≤ 21 := by
  unfold labB at h
  simp at h
  rw [bS_size]
  exact sideC_len ne (by omega) (by omega)
set_option maxRecDepth 100000 in
set_option maxHeartbeats 3200000 in
theorem rtext_0 {x : S54} {v : Value} {w : World} (hx : IsC w v x) (hk : Aside0 (x.f0 = 0)) (hct : Aside0 (checkI x.f1 = 0)) : Calls Tryd.prog 57 #[v] w (StrPost (leafTextC x.f0 x.f1 x.f2 x.f3 x.f4) w) := by
  have HX := Aside0.mk hx
  obtain ⟨A2, c2, A4, c4, A7, c7, rfl, hl2, hC2, hl4, hC4, hl7, hC⟩ := hx
  have HT := Aside0.mk (IsT.mk (k := x.f1.f0) hl2 hC2)
  have HU := Aside0.mk (IsT.mk (k := x.f2.f0) hl4 hC4)
  rw [S43.eta] at HT HU
  clear hl2 hC2 hl4 hC4 hl7
  have hB : Below w.heap.size w (w.alloc (.cells #[.int .i8 x.f0, .int .i8 x.f1.f0, .slice A2 x.f1.f1.length c2, .int .i8 x.f2.f0, .slice A4 x.f2.f1.length c4, .int .i64 x.f3, .bool x.f4, .slice A7 x.f5.length c7] 54)) := (Below.refl _ _).alloc (Nat.le_refl _) _
  have K0 := Aside0.mk (heap_alloc_new w (.cells #[.int .i8 x.f0, .int .i8 x.f1.f0, .slice A2 x.f1.f1.length c2, .int .i8 x.f2.f0, .slice A4 x.f2.f1.length c4, .int .i64 x.f3, .bool x.f4, .slice A7 x.f5.length c7] 54))
  replace HX := Aside0.mk (HX.out.below hB)
  replace HT := Aside0.mk (HT.out.below hB)
  replace HU := Aside0.mk (HU.out.below hB)
  clear hC
  have HW := Aside0.mk hB
  clear hB
  have gk0 : (x.f0 == 0) = true := by rw [hk.out]; rfl
  go_enter Tryd.func57, Tryd.ntmps57
  go_wp2_with fail
  generalize w.alloc (.cells #[.int .i8 x.f0, .int .i8 x.f1.f0, .slice A2 x.f1.f1.length c2, .int .i8 x.f2.f0, .slice A4 x.f2.f1.length c4, .int .i64 x.f3, .bool x.f4, .slice A7 x.f5.length c7] 54) = w0 at *
  refine (rkind_calls HT.out hct.out).mono ?_
  rintro e w1 ⟨rfl, hB⟩
  replace HW := Aside0.mk (below_then HW.out HW.out.size hB)
  clear hB
  have q0 : ¬ (9223372036854775807 < 3 + (bS (braceC x.f1)).size) := by have := brace_sz hct.out; omega
  go_wp2_with fail
  go_ret
  refine ⟨?_, HW.out⟩
  rw [show (⟨#[105, 100, 32]⟩ : ByteArray) = bS [105, 100, 32] from rfl]
  simp only [bS_app]
  simp [leafTextC, hk.out]
set_option maxRecDepth 100000 in
set_option maxHeartbeats 3200000 in
theorem rtext_2 {x : S54} {v : Value} {w : World} (hx : IsC w v x) (hk : Aside0 (x.f0 = 2)) (hct : Aside0 (checkI x.f1 = 0)) : Calls Tryd.prog 57 #[v] w (StrPost (leafTextC x.f0 x.f1 x.f2 x.f3 x.f4) w) := by
  have HX := Aside0.mk hx
  obtain ⟨A2, c2, A4, c4, A7, c7, rfl, hl2, hC2, hl4, hC4, hl7, hC⟩ := hx
  have HT := Aside0.mk (IsT.mk (k := x.f1.f0) hl2 hC2)
  have HU := Aside0.mk (IsT.mk (k := x.f2.f0) hl4 hC4)
  rw [S43.eta] at HT HU
  clear hl2 hC2 hl4 hC4 hl7
  have hB : Below w.heap.size w (w.alloc (.cells #[.int .i8 x.f0, .int .i8 x.f1.f0, .slice A2 x.f1.f1.length c2, .int .i8 x.f2.f0, .slice A4 x.f2.f1.length c4, .int .i64 x.f3, .bool x.f4, .slice A7 x.f5.length c7] 54)) := (Below.refl _ _).alloc (Nat.le_refl _) _
  have K0 := Aside0.mk (heap_alloc_new w (.cells #[.int .i8 x.f0, .int .i8 x.f1.f0, .slice A2 x.f1.f1.length c2, .int .i8 x.f2.f0, .slice A4 x.f2.f1.length c4, .int .i64 x.f3, .bool x.f4, .slice A7 x.f5.length c7] 54))
  replace HX := Aside0.mk (HX.out.below hB)
  replace HT := Aside0.mk (HT.out.below hB)
  replace HU := Aside0.mk (HU.out.below hB)
  clear hC
  have HW := Aside0.mk hB
  clear hB
  have gk0 : (x.f0 == 0) = false := by rw [hk.out]; rfl
  have gk1 : (x.f0 == 1) = false := by rw [hk.out]; rfl
  have gk2 : (x.f0 == 2) = true := by rw [hk.out]; rfl
  go_enter Tryd.func57, Tryd.ntmps57
  go_wp2_with fail
  generalize w.alloc (.cells #[.int .i8 x.f0, .int .i8 x.f1.f0, .slice A2 x.f1.f1.length c2, .int .i8 x.f2.f0, .slice A4 x.f2.f1.length c4, .int .i64 x.f3, .bool x.f4, .slice A7 x.f5.length c7] 54) = w0 at *
  refine (rkind_calls HT.out hct.out).mono ?_
  rintro e w1 ⟨rfl, hB⟩
  replace HW := Aside0.mk (below_then HW.out HW.out.size hB)
  clear hB
  have q0 : ¬ (9223372036854775807 < (bS (braceC x.f1)).size + 2) := by have := brace_sz hct.out; omega
  go_wp2_with fail
  go_ret
  refine ⟨?_, HW.out⟩
  rw [show (⟨#[32, 33]⟩ : ByteArray) = bS [32, 33] from rfl]
  simp only [bS_app]
  simp [leafTextC, hk.out]
set_option maxRecDepth 100000 in
set_option maxHeartbeats 3200000 in
theorem rtext_3 {x : S54} {v : Value} {w : World} (hx : IsC w v x) (hk : Aside0 (x.f0 = 3)) (hct : Aside0 (checkI x.f1 = 0)) (hlb : Aside0 (labB x.f3 = true)) : Calls Tryd.prog 57 #[v] w (StrPost (leafTextC x.f0 x.f1 x.f2 x.f3 x.f4) w) := by
  have HX := Aside0.mk hx
  obtain ⟨A2, c2, A4, c4, A7, c7, rfl, hl2, hC2, hl4, hC4, hl7, hC⟩ := hx
  have HT := Aside0.mk (IsT.mk (k := x.f1.f0) hl2 hC2)
  have HU := Aside0.mk (IsT.mk (k := x.f2.f0) hl4 hC4)
  rw [S43.eta] at HT HU
  clear hl2 hC2 hl4 hC4 hl7
  have hB : Below w.heap.size w (w.alloc (.cells #[.int .i8 x.f0, .int .i8 x.f1.f0, .slice A2 x.f1.f1.length c2, .int .i8 x.f2.f0, .slice A4 x.f2.f1.length c4, .int .i64 x.f3, .bool x.f4, .slice A7 x.f5.length c7] 54)) := (Below.refl _ _).alloc (Nat.le_refl _) _
  have K0 := Aside0.mk (heap_alloc_new w (.cells #[.int .i8 x.f0, .int .i8 x.f1.f0, .slice A2 x.f1.f1.length c2, .int .i8 x.f2.f0, .slice A4 x.f2.f1.length c4, .int .i64 x.f3, .bool x.f4, .slice A7 x.f5.length c7] 54))
  replace HX := Aside0.mk (HX.out.below hB)
  replace HT := Aside0.mk (HT.out.below hB)
  replace HU := Aside0.mk (HU.out.below hB)
  clear hC
  have HW := Aside0.mk hB
  clear hB
  have gk0 : (x.f0 == 0) = false := by rw [hk.out]; rfl
  have gk1 : (x.f0 == 1) = false := by rw [hk.out]; rfl
  have gk2 : (x.f0 == 2) = false := by rw [hk.out]; rfl
  have gk3 : (x.f0 == 3) = true := by rw [hk.out]; rfl
  go_enter Tryd.func57, Tryd.ntmps57
  go_wp2_with fail
  generalize w.alloc (.cells #[.int .i8 x.f0, .int .i8 x.f1.f0, .slice A2 x.f1.f1.length c2, .int .i8 x.f2.f0, .slice A4 x.f2.f1.length c4, .int .i64 x.f3, .bool x.f4, .slice A7 x.f5.length c7] 54) = w0 at *
  refine wp_region_held_drew (S := fun w' => w'.cell? ⟨w.heap.size, 0, none⟩ = some (.int .i8 x.f0) ∧ w'.cell? ⟨w.heap.size, 1, none⟩ = some (.int .i8 x.f1.f0) ∧ w'.cell? ⟨w.heap.size, 2, none⟩ = some (.slice A2 x.f1.f1.length c2) ∧ w'.cell? ⟨w.heap.size, 3, none⟩ = some (.int .i8 x.f2.f0) ∧ w'.cell? ⟨w.heap.size, 4, none⟩ = some (.slice A4 x.f2.f1.length c4) ∧ w'.cell? ⟨w.heap.size, 5, none⟩ = some (.int .i64 x.f3) ∧ w'.cell? ⟨w.heap.size, 6, none⟩ = some (.bool x.f4) ∧ w'.cell? ⟨w.heap.size, 7, none⟩ = some (.slice A7 x.f5.length c7)) (by kernel_rfl) ⟨bcl K0.out, bcl K0.out, bcl K0.out, bcl K0.out, bcl K0.out, bcl K0.out, bcl K0.out, bcl K0.out⟩ (fun hHeld => ?_)
  have HZ := Aside0.mk ((Below.refl w0.heap.size w0).drew)
  replace HW := Aside0.mk (below_then HW.out HW.out.size HZ.out)
  generalize w0.drew = w1 at *
  refine tK 35 0 hHeld ?_
  refine tK 36 1 hHeld ?_
  refine tK 39 4 hHeld ?_
  refine cK 37 2 (rkind_calls (HT.out.below HZ.out) hct.out) ?_
  rintro e w2 ⟨rfl, hB⟩
  replace HZ := Aside0.mk (below_then HZ.out HZ.out.size hB)
  replace HW := Aside0.mk (below_then HW.out HW.out.size hB)
  refine ⟨_, rfl, ⟨pwc hB hHeld.1, pwc hB hHeld.2.1, pwc hB hHeld.2.2.1, pwc hB hHeld.2.2.2.1, pwc hB hHeld.2.2.2.2.1, pwc hB hHeld.2.2.2.2.2.1, pwc hB hHeld.2.2.2.2.2.2.1, pwc hB hHeld.2.2.2.2.2.2.2⟩, fun hHeld => nA ?_⟩
  clear hB
  have q0 : ¬ (9223372036854775807 < (bS (braceC x.f1)).size + 3) := by have := brace_sz hct.out; omega
  refine tK 38 3 hHeld ?_
  refine cK 40 5 (side_calls (HX.out.below HZ.out) (by have := hlb.out; unfold labB at this; simp at this; omega) (by have := hlb.out; unfold labB at this; simp at this; omega)) ?_
  rintro e w3 ⟨rfl, hB⟩
  replace HZ := Aside0.mk (below_then HZ.out HZ.out.size hB)
  replace HW := Aside0.mk (below_then HW.out HW.out.size hB)
  refine ⟨_, rfl, ⟨pwc hB hHeld.1, pwc hB hHeld.2.1, pwc hB hHeld.2.2.1, pwc hB hHeld.2.2.2.1, pwc hB hHeld.2.2.2.2.1, pwc hB hHeld.2.2.2.2.2.1, pwc hB hHeld.2.2.2.2.2.2.1, pwc hB hHeld.2.2.2.2.2.2.2⟩, fun hHeld => nA ?_⟩
  clear hB
  have q1 : ¬ (9223372036854775807 < (bS (braceC x.f1)).size + 3 + (bS (sideC x.f3 x.f4)).size) := by have := brace_sz hct.out; have := side_sz x.f4 hlb.out; omega
  refine tK 41 6 hHeld ?_
  refine tK 2 7 hHeld ?_
  refine wpAnyH_done (by kernel_rfl) ?_ _
  go_wp2_with fail
  go_ret
  refine ⟨?_, HW.out⟩
  rw [show (⟨#[32, 63, 32]⟩ : ByteArray) = bS [32, 63, 32] from rfl]
  simp only [bS_app]
  simp [leafTextC, hk.out]
set_option maxRecDepth 100000 in
set_option maxHeartbeats 3200000 in
theorem rtext_1 {x : S54} {v : Value} {w : World} (hx : IsC w v x) (hk : Aside0 (x.f0 = 1)) (hct : Aside0 (checkI x.f1 = 0)) (hcu : Aside0 (checkI x.f2 = 0)) (hlb : Aside0 (labB x.f3 = true)) : Calls Tryd.prog 57 #[v] w (StrPost (leafTextC x.f0 x.f1 x.f2 x.f3 x.f4) w) := by
  have HX := Aside0.mk hx
  obtain ⟨A2, c2, A4, c4, A7, c7, rfl, hl2, hC2, hl4, hC4, hl7, hC⟩ := hx
  have HT := Aside0.mk (IsT.mk (k := x.f1.f0) hl2 hC2)
  have HU := Aside0.mk (IsT.mk (k := x.f2.f0) hl4 hC4)
  rw [S43.eta] at HT HU
  clear hl2 hC2 hl4 hC4 hl7
  have hB : Below w.heap.size w (w.alloc (.cells #[.int .i8 x.f0, .int .i8 x.f1.f0, .slice A2 x.f1.f1.length c2, .int .i8 x.f2.f0, .slice A4 x.f2.f1.length c4, .int .i64 x.f3, .bool x.f4, .slice A7 x.f5.length c7] 54)) := (Below.refl _ _).alloc (Nat.le_refl _) _
  have K0 := Aside0.mk (heap_alloc_new w (.cells #[.int .i8 x.f0, .int .i8 x.f1.f0, .slice A2 x.f1.f1.length c2, .int .i8 x.f2.f0, .slice A4 x.f2.f1.length c4, .int .i64 x.f3, .bool x.f4, .slice A7 x.f5.length c7] 54))
  replace HX := Aside0.mk (HX.out.below hB)
  replace HT := Aside0.mk (HT.out.below hB)
  replace HU := Aside0.mk (HU.out.below hB)
  clear hC
  have HW := Aside0.mk hB
  clear hB
  have gk0 : (x.f0 == 0) = false := by rw [hk.out]; rfl
  have gk1 : (x.f0 == 1) = true := by rw [hk.out]; rfl
  go_enter Tryd.func57, Tryd.ntmps57
  go_wp2_with fail
  generalize w.alloc (.cells #[.int .i8 x.f0, .int .i8 x.f1.f0, .slice A2 x.f1.f1.length c2, .int .i8 x.f2.f0, .slice A4 x.f2.f1.length c4, .int .i64 x.f3, .bool x.f4, .slice A7 x.f5.length c7] 54) = w0 at *
  refine wp_region_held_drew (S := fun w' => w'.cell? ⟨w.heap.size, 0, none⟩ = some (.int .i8 x.f0) ∧ w'.cell? ⟨w.heap.size, 1, none⟩ = some (.int .i8 x.f1.f0) ∧ w'.cell? ⟨w.heap.size, 2, none⟩ = some (.slice A2 x.f1.f1.length c2) ∧ w'.cell? ⟨w.heap.size, 3, none⟩ = some (.int .i8 x.f2.f0) ∧ w'.cell? ⟨w.heap.size, 4, none⟩ = some (.slice A4 x.f2.f1.length c4) ∧ w'.cell? ⟨w.heap.size, 5, none⟩ = some (.int .i64 x.f3) ∧ w'.cell? ⟨w.heap.size, 6, none⟩ = some (.bool x.f4) ∧ w'.cell? ⟨w.heap.size, 7, none⟩ = some (.slice A7 x.f5.length c7)) (by kernel_rfl) ⟨bcl K0.out, bcl K0.out, bcl K0.out, bcl K0.out, bcl K0.out, bcl K0.out, bcl K0.out, bcl K0.out⟩ (fun hHeld => ?_)
  have HZ := Aside0.mk ((Below.refl w0.heap.size w0).drew)
  replace HW := Aside0.mk (below_then HW.out HW.out.size HZ.out)
  generalize w0.drew = w1 at *
  refine tK 14 0 hHeld ?_
  refine tK 15 1 hHeld ?_
  refine tK 19 5 hHeld ?_
  refine tK 20 6 hHeld ?_
  refine tK 24 10 hHeld ?_
  refine cK 16 2 (rkind_calls (HT.out.below HZ.out) hct.out) ?_
  rintro e w2 ⟨rfl, hB⟩
  replace HZ := Aside0.mk (below_then HZ.out HZ.out.size hB)
  replace HW := Aside0.mk (below_then HW.out HW.out.size hB)
  refine ⟨_, rfl, ⟨pwc hB hHeld.1, pwc hB hHeld.2.1, pwc hB hHeld.2.2.1, pwc hB hHeld.2.2.2.1, pwc hB hHeld.2.2.2.2.1, pwc hB hHeld.2.2.2.2.2.1, pwc hB hHeld.2.2.2.2.2.2.1, pwc hB hHeld.2.2.2.2.2.2.2⟩, fun hHeld => nA ?_⟩
  clear hB
  have q0 : ¬ (9223372036854775807 < 5 + (bS (braceC x.f1)).size) := by have := brace_sz hct.out; omega
  have q1 : ¬ (9223372036854775807 < 5 + (bS (braceC x.f1)).size + 1) := by have := brace_sz hct.out; omega
  refine tK 17 3 hHeld ?_
  refine tK 18 4 hHeld ?_
  refine cK 21 7 (rkind_calls (HU.out.below HZ.out) hcu.out) ?_
  rintro e w3 ⟨rfl, hB⟩
  replace HZ := Aside0.mk (below_then HZ.out HZ.out.size hB)
  replace HW := Aside0.mk (below_then HW.out HW.out.size hB)
  refine ⟨_, rfl, ⟨pwc hB hHeld.1, pwc hB hHeld.2.1, pwc hB hHeld.2.2.1, pwc hB hHeld.2.2.2.1, pwc hB hHeld.2.2.2.2.1, pwc hB hHeld.2.2.2.2.2.1, pwc hB hHeld.2.2.2.2.2.2.1, pwc hB hHeld.2.2.2.2.2.2.2⟩, fun hHeld => nA ?_⟩
  clear hB
  have q2 : ¬ (9223372036854775807 < 5 + (bS (braceC x.f1)).size + 1 + (bS (braceC x.f2)).size) := by have := brace_sz hct.out; have := brace_sz hcu.out; omega
  have q3 : ¬ (9223372036854775807 < 5 + (bS (braceC x.f1)).size + 1 + (bS (braceC x.f2)).size + 1) := by have := brace_sz hct.out; have := brace_sz hcu.out; omega
  refine tK 22 8 hHeld ?_
  refine tK 23 9 hHeld ?_
  refine cK 25 11 (side_calls (HX.out.below HZ.out) (by have := hlb.out; unfold labB at this; simp at this; omega) (by have := hlb.out; unfold labB at this; simp at this; omega)) ?_
  rintro e w4 ⟨rfl, hB⟩
  replace HZ := Aside0.mk (below_then HZ.out HZ.out.size hB)
  replace HW := Aside0.mk (below_then HW.out HW.out.size hB)
  refine ⟨_, rfl, ⟨pwc hB hHeld.1, pwc hB hHeld.2.1, pwc hB hHeld.2.2.1, pwc hB hHeld.2.2.2.1, pwc hB hHeld.2.2.2.2.1, pwc hB hHeld.2.2.2.2.2.1, pwc hB hHeld.2.2.2.2.2.2.1, pwc hB hHeld.2.2.2.2.2.2.2⟩, fun hHeld => nA ?_⟩
  clear hB
  have q4 : ¬ (9223372036854775807 < 5 + (bS (braceC x.f1)).size + 1 + (bS (braceC x.f2)).size + 1 + (bS (sideC x.f3 x.f4)).size) := by have := brace_sz hct.out; have := brace_sz hcu.out; have := side_sz x.f4 hlb.out; omega
  refine tK 26 12 hHeld ?_
  refine tK 2 13 hHeld ?_
  refine wpAnyH_done (by kernel_rfl) ?_ _
  go_wp2_with fail
  go_ret
  refine ⟨?_, HW.out⟩
  rw [show (⟨#[102, 97, 105, 108, 32]⟩ : ByteArray) = bS [102, 97, 105, 108, 32] from rfl, show (⟨#[32]⟩ : ByteArray) = bS [32] from rfl]
  simp only [bS_app]
  simp [leafTextC, hk.out]
set_option maxRecDepth 100000 in
set_option maxHeartbeats 3200000 in
theorem rtext_7 {x p q : S54} {v : Value} {w : World} (hx : IsC w v x) (hk : Aside0 (x.f0 = 7)) (hl : Aside0 (x.f5 = [p, q])) (hs : Aside0 ((bS (ctext p)).size ≤ 500000 ∧ (bS (ctext q)).size ≤ 500000)) (H1 : Aside0 (∀ (v : Value) (w : World), IsC w v p → Calls Tryd.prog 57 #[v] w (StrPost (ctext p) w))) (H2 : Aside0 (∀ (v : Value) (w : World), IsC w v q → Calls Tryd.prog 57 #[v] w (StrPost (ctext q) w))) : Calls Tryd.prog 57 #[v] w (StrPost (joinTextC x.f0 [ctext p, ctext q]) w) := by
  have HX := Aside0.mk hx
  obtain ⟨A2, c2, A4, c4, A7, c7, rfl, hl2, hC2, hl4, hC4, hl7, hC⟩ := hx
  have hlen : x.f5.length = 2 := by rw [hl.out]; rfl
  rw [hlen] at hC ⊢
  clear hlen
  clear hl2 hC2 hl4 hC4 hl7
  obtain ⟨ad, P2, Pn2, P4, Pn4, P7, Pn7, rfl, hk1, hP⟩ := kid_at hC 0 (by omega) (by omega) (x := p) (by rw [hl.out]; rfl)
  obtain ⟨ad', Q2, Qn2, Q4, Qn4, Q7, Qn7, e', hk2, hQ⟩ := kid_at hC 1 (by omega) (by omega) (x := q) (by rw [hl.out]; rfl)
  cases e'
  simp [Addr.add] at hk1 hk2
  have hB : Below w.heap.size w (w.alloc (.cells #[.int .i8 x.f0, .int .i8 x.f1.f0, .slice A2 x.f1.f1.length c2, .int .i8 x.f2.f0, .slice A4 x.f2.f1.length c4, .int .i64 x.f3, .bool x.f4, .slice (some ad) 2 c7] 54)) := (Below.refl _ _).alloc (Nat.le_refl _) _
  have K0 := Aside0.mk (heap_alloc_new w (.cells #[.int .i8 x.f0, .int .i8 x.f1.f0, .slice A2 x.f1.f1.length c2, .int .i8 x.f2.f0, .slice A4 x.f2.f1.length c4, .int .i64 x.f3, .bool x.f4, .slice (some ad) 2 c7] 54))
  have HP := Aside0.mk (hP.below hB)
  have HQ := Aside0.mk (hQ.below hB)
  have HK1 : Aside0 ((w.alloc (.cells #[.int .i8 x.f0, .int .i8 x.f1.f0, .slice A2 x.f1.f1.length c2, .int .i8 x.f2.f0, .slice A4 x.f2.f1.length c4, .int .i64 x.f3, .bool x.f4, .slice (some ad) 2 c7] 54)).cell? ad = some (.int .i8 p.f0) ∧ (w.alloc (.cells #[.int .i8 x.f0, .int .i8 x.f1.f0, .slice A2 x.f1.f1.length c2, .int .i8 x.f2.f0, .slice A4 x.f2.f1.length c4, .int .i64 x.f3, .bool x.f4, .slice (some ad) 2 c7] 54)).cell? ⟨ad.block, ad.off + 1, none⟩ = some (.int .i8 p.f1.f0) ∧ (w.alloc (.cells #[.int .i8 x.f0, .int .i8 x.f1.f0, .slice A2 x.f1.f1.length c2, .int .i8 x.f2.f0, .slice A4 x.f2.f1.length c4, .int .i64 x.f3, .bool x.f4, .slice (some ad) 2 c7] 54)).cell? ⟨ad.block, ad.off + 2, none⟩ = some (.slice P2 p.f1.f1.length Pn2) ∧ (w.alloc (.cells #[.int .i8 x.f0, .int .i8 x.f1.f0, .slice A2 x.f1.f1.length c2, .int .i8 x.f2.f0, .slice A4 x.f2.f1.length c4, .int .i64 x.f3, .bool x.f4, .slice (some ad) 2 c7] 54)).cell? ⟨ad.block, ad.off + 3, none⟩ = some (.int .i8 p.f2.f0) ∧ (w.alloc (.cells #[.int .i8 x.f0, .int .i8 x.f1.f0, .slice A2 x.f1.f1.length c2, .int .i8 x.f2.f0, .slice A4 x.f2.f1.length c4, .int .i64 x.f3, .bool x.f4, .slice (some ad) 2 c7] 54)).cell? ⟨ad.block, ad.off + 4, none⟩ = some (.slice P4 p.f2.f1.length Pn4) ∧ (w.alloc (.cells #[.int .i8 x.f0, .int .i8 x.f1.f0, .slice A2 x.f1.f1.length c2, .int .i8 x.f2.f0, .slice A4 x.f2.f1.length c4, .int .i64 x.f3, .bool x.f4, .slice (some ad) 2 c7] 54)).cell? ⟨ad.block, ad.off + 5, none⟩ = some (.int .i64 p.f3) ∧ (w.alloc (.cells #[.int .i8 x.f0, .int .i8 x.f1.f0, .slice A2 x.f1.f1.length c2, .int .i8 x.f2.f0, .slice A4 x.f2.f1.length c4, .int .i64 x.f3, .bool x.f4, .slice (some ad) 2 c7] 54)).cell? ⟨ad.block, ad.off + 6, none⟩ = some (.bool p.f4) ∧ (w.alloc (.cells #[.int .i8 x.f0, .int .i8 x.f1.f0, .slice A2 x.f1.f1.length c2, .int .i8 x.f2.f0, .slice A4 x.f2.f1.length c4, .int .i64 x.f3, .bool x.f4, .slice (some ad) 2 c7] 54)).cell? ⟨ad.block, ad.off + 7, none⟩ = some (.slice P7 p.f5.length Pn7)) := .mk ⟨pwc hB hk1.1, pwc hB hk1.2.1, pwc hB hk1.2.2.1, pwc hB hk1.2.2.2.1, pwc hB hk1.2.2.2.2.1, pwc hB hk1.2.2.2.2.2.1, pwc hB hk1.2.2.2.2.2.2.1, pwc hB hk1.2.2.2.2.2.2.2⟩
  have HK2 : Aside0 ((w.alloc (.cells #[.int .i8 x.f0, .int .i8 x.f1.f0, .slice A2 x.f1.f1.length c2, .int .i8 x.f2.f0, .slice A4 x.f2.f1.length c4, .int .i64 x.f3, .bool x.f4, .slice (some ad) 2 c7] 54)).cell? ⟨ad.block, ad.off + 8, none⟩ = some (.int .i8 q.f0) ∧ (w.alloc (.cells #[.int .i8 x.f0, .int .i8 x.f1.f0, .slice A2 x.f1.f1.length c2, .int .i8 x.f2.f0, .slice A4 x.f2.f1.length c4, .int .i64 x.f3, .bool x.f4, .slice (some ad) 2 c7] 54)).cell? ⟨ad.block, ad.off + 8 + 1, none⟩ = some (.int .i8 q.f1.f0) ∧ (w.alloc (.cells #[.int .i8 x.f0, .int .i8 x.f1.f0, .slice A2 x.f1.f1.length c2, .int .i8 x.f2.f0, .slice A4 x.f2.f1.length c4, .int .i64 x.f3, .bool x.f4, .slice (some ad) 2 c7] 54)).cell? ⟨ad.block, ad.off + 8 + 2, none⟩ = some (.slice Q2 q.f1.f1.length Qn2) ∧ (w.alloc (.cells #[.int .i8 x.f0, .int .i8 x.f1.f0, .slice A2 x.f1.f1.length c2, .int .i8 x.f2.f0, .slice A4 x.f2.f1.length c4, .int .i64 x.f3, .bool x.f4, .slice (some ad) 2 c7] 54)).cell? ⟨ad.block, ad.off + 8 + 3, none⟩ = some (.int .i8 q.f2.f0) ∧ (w.alloc (.cells #[.int .i8 x.f0, .int .i8 x.f1.f0, .slice A2 x.f1.f1.length c2, .int .i8 x.f2.f0, .slice A4 x.f2.f1.length c4, .int .i64 x.f3, .bool x.f4, .slice (some ad) 2 c7] 54)).cell? ⟨ad.block, ad.off + 8 + 4, none⟩ = some (.slice Q4 q.f2.f1.length Qn4) ∧ (w.alloc (.cells #[.int .i8 x.f0, .int .i8 x.f1.f0, .slice A2 x.f1.f1.length c2, .int .i8 x.f2.f0, .slice A4 x.f2.f1.length c4, .int .i64 x.f3, .bool x.f4, .slice (some ad) 2 c7] 54)).cell? ⟨ad.block, ad.off + 8 + 5, none⟩ = some (.int .i64 q.f3) ∧ (w.alloc (.cells #[.int .i8 x.f0, .int .i8 x.f1.f0, .slice A2 x.f1.f1.length c2, .int .i8 x.f2.f0, .slice A4 x.f2.f1.length c4, .int .i64 x.f3, .bool x.f4, .slice (some ad) 2 c7] 54)).cell? ⟨ad.block, ad.off + 8 + 6, none⟩ = some (.bool q.f4) ∧ (w.alloc (.cells #[.int .i8 x.f0, .int .i8 x.f1.f0, .slice A2 x.f1.f1.length c2, .int .i8 x.f2.f0, .slice A4 x.f2.f1.length c4, .int .i64 x.f3, .bool x.f4, .slice (some ad) 2 c7] 54)).cell? ⟨ad.block, ad.off + 8 + 7, none⟩ = some (.slice Q7 q.f5.length Qn7)) := .mk ⟨pwc hB hk2.1, pwc hB hk2.2.1, pwc hB hk2.2.2.1, pwc hB hk2.2.2.2.1, pwc hB hk2.2.2.2.2.1, pwc hB hk2.2.2.2.2.2.1, pwc hB hk2.2.2.2.2.2.2.1, pwc hB hk2.2.2.2.2.2.2.2⟩
  clear hk1 hk2 hP hQ hC
  have HW := Aside0.mk hB
  clear hB
  have gk0 : (x.f0 == 0) = false := by rw [hk.out]; rfl
  have gk1 : (x.f0 == 1) = false := by rw [hk.out]; rfl
  have gk2 : (x.f0 == 2) = false := by rw [hk.out]; rfl
  have gk3 : (x.f0 == 3) = false := by rw [hk.out]; rfl
  have gk7 : (x.f0 == 7) = true := by rw [hk.out]; rfl
  go_enter Tryd.func57, Tryd.ntmps57
  go_wp2_with fail
  generalize w.alloc (.cells #[.int .i8 x.f0, .int .i8 x.f1.f0, .slice A2 x.f1.f1.length c2, .int .i8 x.f2.f0, .slice A4 x.f2.f1.length c4, .int .i64 x.f3, .bool x.f4, .slice (some ad) 2 c7] 54) = w0 at *
  refine wp_region_held_drew (S := fun w' => w'.cell? ⟨w.heap.size, 7, none⟩ = some (.slice (some ad) 2 c7) ∧ w'.cell? ad = some (.int .i8 p.f0) ∧ w'.cell? ⟨ad.block, ad.off + 1, none⟩ = some (.int .i8 p.f1.f0) ∧ w'.cell? ⟨ad.block, ad.off + 2, none⟩ = some (.slice P2 p.f1.f1.length Pn2) ∧ w'.cell? ⟨ad.block, ad.off + 3, none⟩ = some (.int .i8 p.f2.f0) ∧ w'.cell? ⟨ad.block, ad.off + 4, none⟩ = some (.slice P4 p.f2.f1.length Pn4) ∧ w'.cell? ⟨ad.block, ad.off + 5, none⟩ = some (.int .i64 p.f3) ∧ w'.cell? ⟨ad.block, ad.off + 6, none⟩ = some (.bool p.f4) ∧ w'.cell? ⟨ad.block, ad.off + 7, none⟩ = some (.slice P7 p.f5.length Pn7) ∧ w'.cell? ⟨ad.block, ad.off + 8, none⟩ = some (.int .i8 q.f0) ∧ w'.cell? ⟨ad.block, ad.off + 8 + 1, none⟩ = some (.int .i8 q.f1.f0) ∧ w'.cell? ⟨ad.block, ad.off + 8 + 2, none⟩ = some (.slice Q2 q.f1.f1.length Qn2) ∧ w'.cell? ⟨ad.block, ad.off + 8 + 3, none⟩ = some (.int .i8 q.f2.f0) ∧ w'.cell? ⟨ad.block, ad.off + 8 + 4, none⟩ = some (.slice Q4 q.f2.f1.length Qn4) ∧ w'.cell? ⟨ad.block, ad.off + 8 + 5, none⟩ = some (.int .i64 q.f3) ∧ w'.cell? ⟨ad.block, ad.off + 8 + 6, none⟩ = some (.bool q.f4) ∧ w'.cell? ⟨ad.block, ad.off + 8 + 7, none⟩ = some (.slice Q7 q.f5.length Qn7)) (by kernel_rfl) ⟨bcl K0.out, HK1.out.1, HK1.out.2.1, HK1.out.2.2.1, HK1.out.2.2.2.1, HK1.out.2.2.2.2.1, HK1.out.2.2.2.2.2.1, HK1.out.2.2.2.2.2.2.1, HK1.out.2.2.2.2.2.2.2, HK2.out.1, HK2.out.2.1, HK2.out.2.2.1, HK2.out.2.2.2.1, HK2.out.2.2.2.2.1, HK2.out.2.2.2.2.2.1, HK2.out.2.2.2.2.2.2.1, HK2.out.2.2.2.2.2.2.2⟩ (fun hHeld => ?_)
  have HZ := Aside0.mk ((Below.refl w0.heap.size w0).drew)
  replace HW := Aside0.mk (below_then HW.out HW.out.size HZ.out)
  generalize w0.drew = w1 at *
  refine tK 44 0 hHeld ?_
  refine tK 45 1 hHeld ?_
  refine tK 46 2 hHeld ?_
  refine tK 47 3 hHeld ?_
  refine tK 50 6 hHeld ?_
  refine tK 51 7 hHeld ?_
  refine tK 52 8 hHeld ?_
  refine tK 53 9 hHeld ?_
  refine cK 48 4 (H1.out _ _ (HP.out.below HZ.out)) ?_
  rintro e w2 ⟨rfl, hB⟩
  replace HZ := Aside0.mk (below_then HZ.out HZ.out.size hB)
  replace HW := Aside0.mk (below_then HW.out HW.out.size hB)
  refine ⟨_, rfl, ⟨pwc hB hHeld.1, pwc hB hHeld.2.1, pwc hB hHeld.2.2.1, pwc hB hHeld.2.2.2.1, pwc hB hHeld.2.2.2.2.1, pwc hB hHeld.2.2.2.2.2.1, pwc hB hHeld.2.2.2.2.2.2.1, pwc hB hHeld.2.2.2.2.2.2.2.1, pwc hB hHeld.2.2.2.2.2.2.2.2.1, pwc hB hHeld.2.2.2.2.2.2.2.2.2.1, pwc hB hHeld.2.2.2.2.2.2.2.2.2.2.1, pwc hB hHeld.2.2.2.2.2.2.2.2.2.2.2.1, pwc hB hHeld.2.2.2.2.2.2.2.2.2.2.2.2.1, pwc hB hHeld.2.2.2.2.2.2.2.2.2.2.2.2.2.1, pwc hB hHeld.2.2.2.2.2.2.2.2.2.2.2.2.2.2.1, pwc hB hHeld.2.2.2.2.2.2.2.2.2.2.2.2.2.2.2.1, pwc hB hHeld.2.2.2.2.2.2.2.2.2.2.2.2.2.2.2.2⟩, fun hHeld => nA ?_⟩
  clear hB
  have q0 : ¬ (9223372036854775807 < (bS (ctext p)).size + 3) := by have := hs.out; omega
  refine tK 49 5 hHeld ?_
  refine cK 54 10 (H2.out _ _ (HQ.out.below HZ.out)) ?_
  rintro e w3 ⟨rfl, hB⟩
  replace HZ := Aside0.mk (below_then HZ.out HZ.out.size hB)
  replace HW := Aside0.mk (below_then HW.out HW.out.size hB)
  refine ⟨_, rfl, ⟨pwc hB hHeld.1, pwc hB hHeld.2.1, pwc hB hHeld.2.2.1, pwc hB hHeld.2.2.2.1, pwc hB hHeld.2.2.2.2.1, pwc hB hHeld.2.2.2.2.2.1, pwc hB hHeld.2.2.2.2.2.2.1, pwc hB hHeld.2.2.2.2.2.2.2.1, pwc hB hHeld.2.2.2.2.2.2.2.2.1, pwc hB hHeld.2.2.2.2.2.2.2.2.2.1, pwc hB hHeld.2.2.2.2.2.2.2.2.2.2.1, pwc hB hHeld.2.2.2.2.2.2.2.2.2.2.2.1, pwc hB hHeld.2.2.2.2.2.2.2.2.2.2.2.2.1, pwc hB hHeld.2.2.2.2.2.2.2.2.2.2.2.2.2.1, pwc hB hHeld.2.2.2.2.2.2.2.2.2.2.2.2.2.2.1, pwc hB hHeld.2.2.2.2.2.2.2.2.2.2.2.2.2.2.2.1, pwc hB hHeld.2.2.2.2.2.2.2.2.2.2.2.2.2.2.2.2⟩, fun hHeld => nA ?_⟩
  clear hB
  have q1 : ¬ (9223372036854775807 < (bS (ctext p)).size + 3 + (bS (ctext q)).size) := by have := hs.out; omega
  refine tK 55 11 hHeld ?_
  refine tK 2 12 hHeld ?_
  refine wpAnyH_done (by kernel_rfl) ?_ _
  go_wp2_with fail
  go_ret
  refine ⟨?_, HW.out⟩
  rw [show (⟨#[32, 59, 32]⟩ : ByteArray) = bS [32, 59, 32] from rfl]
  simp only [bS_app]
  simp [joinTextC, hk.out]
set_option maxRecDepth 100000 in
set_option maxHeartbeats 3200000 in
theorem rtext_n {x p q : S54} {v : Value} {w : World} (hx : IsC w v x) (hk : Aside0 (x.f0 = 4 ∨ x.f0 = 5 ∨ x.f0 = 6)) (hl : Aside0 (x.f5 = [p, q])) (hs : Aside0 ((bS (ctext p)).size ≤ 500000 ∧ (bS (ctext q)).size ≤ 500000)) (H1 : Aside0 (∀ (v : Value) (w : World), IsC w v p → Calls Tryd.prog 57 #[v] w (StrPost (ctext p) w))) (H2 : Aside0 (∀ (v : Value) (w : World), IsC w v q → Calls Tryd.prog 57 #[v] w (StrPost (ctext q) w))) : Calls Tryd.prog 57 #[v] w (StrPost (joinTextC x.f0 [ctext p, ctext q]) w) := by
  have HX := Aside0.mk hx
  obtain ⟨A2, c2, A4, c4, A7, c7, rfl, hl2, hC2, hl4, hC4, hl7, hC⟩ := hx
  have hlen : x.f5.length = 2 := by rw [hl.out]; rfl
  rw [hlen] at hC ⊢
  clear hlen
  clear hl2 hC2 hl4 hC4 hl7
  obtain ⟨ad, P2, Pn2, P4, Pn4, P7, Pn7, rfl, hk1, hP⟩ := kid_at hC 0 (by omega) (by omega) (x := p) (by rw [hl.out]; rfl)
  obtain ⟨ad', Q2, Qn2, Q4, Qn4, Q7, Qn7, e', hk2, hQ⟩ := kid_at hC 1 (by omega) (by omega) (x := q) (by rw [hl.out]; rfl)
  cases e'
  simp [Addr.add] at hk1 hk2
  have hB : Below w.heap.size w (w.alloc (.cells #[.int .i8 x.f0, .int .i8 x.f1.f0, .slice A2 x.f1.f1.length c2, .int .i8 x.f2.f0, .slice A4 x.f2.f1.length c4, .int .i64 x.f3, .bool x.f4, .slice (some ad) 2 c7] 54)) := (Below.refl _ _).alloc (Nat.le_refl _) _
  have K0 := Aside0.mk (heap_alloc_new w (.cells #[.int .i8 x.f0, .int .i8 x.f1.f0, .slice A2 x.f1.f1.length c2, .int .i8 x.f2.f0, .slice A4 x.f2.f1.length c4, .int .i64 x.f3, .bool x.f4, .slice (some ad) 2 c7] 54))
  have HP := Aside0.mk (hP.below hB)
  have HQ := Aside0.mk (hQ.below hB)
  have HK1 : Aside0 ((w.alloc (.cells #[.int .i8 x.f0, .int .i8 x.f1.f0, .slice A2 x.f1.f1.length c2, .int .i8 x.f2.f0, .slice A4 x.f2.f1.length c4, .int .i64 x.f3, .bool x.f4, .slice (some ad) 2 c7] 54)).cell? ad = some (.int .i8 p.f0) ∧ (w.alloc (.cells #[.int .i8 x.f0, .int .i8 x.f1.f0, .slice A2 x.f1.f1.length c2, .int .i8 x.f2.f0, .slice A4 x.f2.f1.length c4, .int .i64 x.f3, .bool x.f4, .slice (some ad) 2 c7] 54)).cell? ⟨ad.block, ad.off + 1, none⟩ = some (.int .i8 p.f1.f0) ∧ (w.alloc (.cells #[.int .i8 x.f0, .int .i8 x.f1.f0, .slice A2 x.f1.f1.length c2, .int .i8 x.f2.f0, .slice A4 x.f2.f1.length c4, .int .i64 x.f3, .bool x.f4, .slice (some ad) 2 c7] 54)).cell? ⟨ad.block, ad.off + 2, none⟩ = some (.slice P2 p.f1.f1.length Pn2) ∧ (w.alloc (.cells #[.int .i8 x.f0, .int .i8 x.f1.f0, .slice A2 x.f1.f1.length c2, .int .i8 x.f2.f0, .slice A4 x.f2.f1.length c4, .int .i64 x.f3, .bool x.f4, .slice (some ad) 2 c7] 54)).cell? ⟨ad.block, ad.off + 3, none⟩ = some (.int .i8 p.f2.f0) ∧ (w.alloc (.cells #[.int .i8 x.f0, .int .i8 x.f1.f0, .slice A2 x.f1.f1.length c2, .int .i8 x.f2.f0, .slice A4 x.f2.f1.length c4, .int .i64 x.f3, .bool x.f4, .slice (some ad) 2 c7] 54)).cell? ⟨ad.block, ad.off + 4, none⟩ = some (.slice P4 p.f2.f1.length Pn4) ∧ (w.alloc (.cells #[.int .i8 x.f0, .int .i8 x.f1.f0, .slice A2 x.f1.f1.length c2, .int .i8 x.f2.f0, .slice A4 x.f2.f1.length c4, .int .i64 x.f3, .bool x.f4, .slice (some ad) 2 c7] 54)).cell? ⟨ad.block, ad.off + 5, none⟩ = some (.int .i64 p.f3) ∧ (w.alloc (.cells #[.int .i8 x.f0, .int .i8 x.f1.f0, .slice A2 x.f1.f1.length c2, .int .i8 x.f2.f0, .slice A4 x.f2.f1.length c4, .int .i64 x.f3, .bool x.f4, .slice (some ad) 2 c7] 54)).cell? ⟨ad.block, ad.off + 6, none⟩ = some (.bool p.f4) ∧ (w.alloc (.cells #[.int .i8 x.f0, .int .i8 x.f1.f0, .slice A2 x.f1.f1.length c2, .int .i8 x.f2.f0, .slice A4 x.f2.f1.length c4, .int .i64 x.f3, .bool x.f4, .slice (some ad) 2 c7] 54)).cell? ⟨ad.block, ad.off + 7, none⟩ = some (.slice P7 p.f5.length Pn7)) := .mk ⟨pwc hB hk1.1, pwc hB hk1.2.1, pwc hB hk1.2.2.1, pwc hB hk1.2.2.2.1, pwc hB hk1.2.2.2.2.1, pwc hB hk1.2.2.2.2.2.1, pwc hB hk1.2.2.2.2.2.2.1, pwc hB hk1.2.2.2.2.2.2.2⟩
  have HK2 : Aside0 ((w.alloc (.cells #[.int .i8 x.f0, .int .i8 x.f1.f0, .slice A2 x.f1.f1.length c2, .int .i8 x.f2.f0, .slice A4 x.f2.f1.length c4, .int .i64 x.f3, .bool x.f4, .slice (some ad) 2 c7] 54)).cell? ⟨ad.block, ad.off + 8, none⟩ = some (.int .i8 q.f0) ∧ (w.alloc (.cells #[.int .i8 x.f0, .int .i8 x.f1.f0, .slice A2 x.f1.f1.length c2, .int .i8 x.f2.f0, .slice A4 x.f2.f1.length c4, .int .i64 x.f3, .bool x.f4, .slice (some ad) 2 c7] 54)).cell? ⟨ad.block, ad.off + 8 + 1, none⟩ = some (.int .i8 q.f1.f0) ∧ (w.alloc (.cells #[.int .i8 x.f0, .int .i8 x.f1.f0, .slice A2 x.f1.f1.length c2, .int .i8 x.f2.f0, .slice A4 x.f2.f1.length c4, .int .i64 x.f3, .bool x.f4, .slice (some ad) 2 c7] 54)).cell? ⟨ad.block, ad.off + 8 + 2, none⟩ = some (.slice Q2 q.f1.f1.length Qn2) ∧ (w.alloc (.cells #[.int .i8 x.f0, .int .i8 x.f1.f0, .slice A2 x.f1.f1.length c2, .int .i8 x.f2.f0, .slice A4 x.f2.f1.length c4, .int .i64 x.f3, .bool x.f4, .slice (some ad) 2 c7] 54)).cell? ⟨ad.block, ad.off + 8 + 3, none⟩ = some (.int .i8 q.f2.f0) ∧ (w.alloc (.cells #[.int .i8 x.f0, .int .i8 x.f1.f0, .slice A2 x.f1.f1.length c2, .int .i8 x.f2.f0, .slice A4 x.f2.f1.length c4, .int .i64 x.f3, .bool x.f4, .slice (some ad) 2 c7] 54)).cell? ⟨ad.block, ad.off + 8 + 4, none⟩ = some (.slice Q4 q.f2.f1.length Qn4) ∧ (w.alloc (.cells #[.int .i8 x.f0, .int .i8 x.f1.f0, .slice A2 x.f1.f1.length c2, .int .i8 x.f2.f0, .slice A4 x.f2.f1.length c4, .int .i64 x.f3, .bool x.f4, .slice (some ad) 2 c7] 54)).cell? ⟨ad.block, ad.off + 8 + 5, none⟩ = some (.int .i64 q.f3) ∧ (w.alloc (.cells #[.int .i8 x.f0, .int .i8 x.f1.f0, .slice A2 x.f1.f1.length c2, .int .i8 x.f2.f0, .slice A4 x.f2.f1.length c4, .int .i64 x.f3, .bool x.f4, .slice (some ad) 2 c7] 54)).cell? ⟨ad.block, ad.off + 8 + 6, none⟩ = some (.bool q.f4) ∧ (w.alloc (.cells #[.int .i8 x.f0, .int .i8 x.f1.f0, .slice A2 x.f1.f1.length c2, .int .i8 x.f2.f0, .slice A4 x.f2.f1.length c4, .int .i64 x.f3, .bool x.f4, .slice (some ad) 2 c7] 54)).cell? ⟨ad.block, ad.off + 8 + 7, none⟩ = some (.slice Q7 q.f5.length Qn7)) := .mk ⟨pwc hB hk2.1, pwc hB hk2.2.1, pwc hB hk2.2.2.1, pwc hB hk2.2.2.2.1, pwc hB hk2.2.2.2.2.1, pwc hB hk2.2.2.2.2.2.1, pwc hB hk2.2.2.2.2.2.2.1, pwc hB hk2.2.2.2.2.2.2.2⟩
  clear hk1 hk2 hP hQ hC
  have HW := Aside0.mk hB
  clear hB
  have gk0 : (x.f0 == 0) = false := beq_eq_false_iff_ne.mpr (by have := hk.out; omega)
  have gk1 : (x.f0 == 1) = false := beq_eq_false_iff_ne.mpr (by have := hk.out; omega)
  have gk2 : (x.f0 == 2) = false := beq_eq_false_iff_ne.mpr (by have := hk.out; omega)
  have gk3 : (x.f0 == 3) = false := beq_eq_false_iff_ne.mpr (by have := hk.out; omega)
  have gk7 : (x.f0 == 7) = false := beq_eq_false_iff_ne.mpr (by have := hk.out; omega)
  go_enter Tryd.func57, Tryd.ntmps57
  go_upto_if 58 with fail
  generalize w.alloc (.cells #[.int .i8 x.f0, .int .i8 x.f1.f0, .slice A2 x.f1.f1.length c2, .int .i8 x.f2.f0, .slice A4 x.f2.f1.length c4, .int .i64 x.f3, .bool x.f4, .slice (some ad) 2 c7] 54) = w0 at *
  go_cut [3] (fun sv wx => ∃ s9 : List UInt8, sv = .string (bS s9) ∧ s9 = (if x.f0 = 5 then [42] else [45, 62]) ∧ Below w0.heap.size w0 wx)
  case first =>
    by_cases h5 : x.f0 = 5
    · have g5 : (x.f0 == 5) = true := beq_iff_eq.mpr h5
      go_wp2_with fail
      go_meet
      exact ⟨[42], rfl, by rw [if_pos h5], Below.refl _ _⟩
    · have g5 : (x.f0 == 5) = false := beq_eq_false_iff_ne.mpr h5
      go_wp2_with fail
      go_meet
      exact ⟨[45, 62], rfl, by rw [if_neg h5], Below.refl _ _⟩
  case rest =>
  obtain ⟨s5, rfl, hs5, hB⟩ := hcut
  replace HP := Aside0.mk (HP.out.below hB)
  replace HQ := Aside0.mk (HQ.out.below hB)
  replace K0 := Aside0.mk (blk_below K0.out hB)
  replace HK1 : Aside0 (wc.cell? ad = some (.int .i8 p.f0) ∧ wc.cell? ⟨ad.block, ad.off + 1, none⟩ = some (.int .i8 p.f1.f0) ∧ wc.cell? ⟨ad.block, ad.off + 2, none⟩ = some (.slice P2 p.f1.f1.length Pn2) ∧ wc.cell? ⟨ad.block, ad.off + 3, none⟩ = some (.int .i8 p.f2.f0) ∧ wc.cell? ⟨ad.block, ad.off + 4, none⟩ = some (.slice P4 p.f2.f1.length Pn4) ∧ wc.cell? ⟨ad.block, ad.off + 5, none⟩ = some (.int .i64 p.f3) ∧ wc.cell? ⟨ad.block, ad.off + 6, none⟩ = some (.bool p.f4) ∧ wc.cell? ⟨ad.block, ad.off + 7, none⟩ = some (.slice P7 p.f5.length Pn7)) := .mk ⟨pwc hB HK1.out.1, pwc hB HK1.out.2.1, pwc hB HK1.out.2.2.1, pwc hB HK1.out.2.2.2.1, pwc hB HK1.out.2.2.2.2.1, pwc hB HK1.out.2.2.2.2.2.1, pwc hB HK1.out.2.2.2.2.2.2.1, pwc hB HK1.out.2.2.2.2.2.2.2⟩
  replace HK2 : Aside0 (wc.cell? ⟨ad.block, ad.off + 8, none⟩ = some (.int .i8 q.f0) ∧ wc.cell? ⟨ad.block, ad.off + 8 + 1, none⟩ = some (.int .i8 q.f1.f0) ∧ wc.cell? ⟨ad.block, ad.off + 8 + 2, none⟩ = some (.slice Q2 q.f1.f1.length Qn2) ∧ wc.cell? ⟨ad.block, ad.off + 8 + 3, none⟩ = some (.int .i8 q.f2.f0) ∧ wc.cell? ⟨ad.block, ad.off + 8 + 4, none⟩ = some (.slice Q4 q.f2.f1.length Qn4) ∧ wc.cell? ⟨ad.block, ad.off + 8 + 5, none⟩ = some (.int .i64 q.f3) ∧ wc.cell? ⟨ad.block, ad.off + 8 + 6, none⟩ = some (.bool q.f4) ∧ wc.cell? ⟨ad.block, ad.off + 8 + 7, none⟩ = some (.slice Q7 q.f5.length Qn7)) := .mk ⟨pwc hB HK2.out.1, pwc hB HK2.out.2.1, pwc hB HK2.out.2.2.1, pwc hB HK2.out.2.2.2.1, pwc hB HK2.out.2.2.2.2.1, pwc hB HK2.out.2.2.2.2.2.1, pwc hB HK2.out.2.2.2.2.2.2.1, pwc hB HK2.out.2.2.2.2.2.2.2⟩
  replace HW := Aside0.mk (below_then HW.out HW.out.size hB)
  clear hB
  generalize wc = y0 at *
  have b0 := bcl (i := 0) (v := .int .i8 x.f0) K0.out
  have HS5 := Aside0.mk hs5
  clear hs5
  go_upto_if 61 with fail
  clear b0
  go_cut [3] (fun sv wx => ∃ s9 : List UInt8, sv = .string (bS s9) ∧ s9 = (signC x.f0) ∧ Below y0.heap.size y0 wx)
  case first =>
    by_cases h6 : x.f0 = 6
    · have g6 : (x.f0 == 6) = true := beq_iff_eq.mpr h6
      go_wp2_with fail
      go_meet
      exact ⟨[43], rfl, by rw [h6]; rfl, Below.refl _ _⟩
    · have g6 : (x.f0 == 6) = false := beq_eq_false_iff_ne.mpr h6
      go_wp2_with fail
      go_meet
      exact ⟨s5, rfl, by (have := hk.out; rw [HS5.out]; unfold signC; by_cases h5 : x.f0 = 5; (rw [if_pos h5, if_neg (by omega), if_pos h5]); (rw [if_neg h5, if_pos (by omega)])), Below.refl _ _⟩
  case rest =>
  obtain ⟨s6, rfl, rfl, hB⟩ := hcut
  replace HP := Aside0.mk (HP.out.below hB)
  replace HQ := Aside0.mk (HQ.out.below hB)
  replace K0 := Aside0.mk (blk_below K0.out hB)
  replace HK1 : Aside0 (wc.cell? ad = some (.int .i8 p.f0) ∧ wc.cell? ⟨ad.block, ad.off + 1, none⟩ = some (.int .i8 p.f1.f0) ∧ wc.cell? ⟨ad.block, ad.off + 2, none⟩ = some (.slice P2 p.f1.f1.length Pn2) ∧ wc.cell? ⟨ad.block, ad.off + 3, none⟩ = some (.int .i8 p.f2.f0) ∧ wc.cell? ⟨ad.block, ad.off + 4, none⟩ = some (.slice P4 p.f2.f1.length Pn4) ∧ wc.cell? ⟨ad.block, ad.off + 5, none⟩ = some (.int .i64 p.f3) ∧ wc.cell? ⟨ad.block, ad.off + 6, none⟩ = some (.bool p.f4) ∧ wc.cell? ⟨ad.block, ad.off + 7, none⟩ = some (.slice P7 p.f5.length Pn7)) := .mk ⟨pwc hB HK1.out.1, pwc hB HK1.out.2.1, pwc hB HK1.out.2.2.1, pwc hB HK1.out.2.2.2.1, pwc hB HK1.out.2.2.2.2.1, pwc hB HK1.out.2.2.2.2.2.1, pwc hB HK1.out.2.2.2.2.2.2.1, pwc hB HK1.out.2.2.2.2.2.2.2⟩
  replace HK2 : Aside0 (wc.cell? ⟨ad.block, ad.off + 8, none⟩ = some (.int .i8 q.f0) ∧ wc.cell? ⟨ad.block, ad.off + 8 + 1, none⟩ = some (.int .i8 q.f1.f0) ∧ wc.cell? ⟨ad.block, ad.off + 8 + 2, none⟩ = some (.slice Q2 q.f1.f1.length Qn2) ∧ wc.cell? ⟨ad.block, ad.off + 8 + 3, none⟩ = some (.int .i8 q.f2.f0) ∧ wc.cell? ⟨ad.block, ad.off + 8 + 4, none⟩ = some (.slice Q4 q.f2.f1.length Qn4) ∧ wc.cell? ⟨ad.block, ad.off + 8 + 5, none⟩ = some (.int .i64 q.f3) ∧ wc.cell? ⟨ad.block, ad.off + 8 + 6, none⟩ = some (.bool q.f4) ∧ wc.cell? ⟨ad.block, ad.off + 8 + 7, none⟩ = some (.slice Q7 q.f5.length Qn7)) := .mk ⟨pwc hB HK2.out.1, pwc hB HK2.out.2.1, pwc hB HK2.out.2.2.1, pwc hB HK2.out.2.2.2.1, pwc hB HK2.out.2.2.2.2.1, pwc hB HK2.out.2.2.2.2.2.1, pwc hB HK2.out.2.2.2.2.2.2.1, pwc hB HK2.out.2.2.2.2.2.2.2⟩
  replace HW := Aside0.mk (below_then HW.out HW.out.size hB)
  clear hB
  generalize wc = y1 at *
  go_wp2_with fail
  refine wp_region_held_drew (S := fun w' => w'.cell? ⟨w.heap.size, 7, none⟩ = some (.slice (some ad) 2 c7) ∧ w'.cell? ad = some (.int .i8 p.f0) ∧ w'.cell? ⟨ad.block, ad.off + 1, none⟩ = some (.int .i8 p.f1.f0) ∧ w'.cell? ⟨ad.block, ad.off + 2, none⟩ = some (.slice P2 p.f1.f1.length Pn2) ∧ w'.cell? ⟨ad.block, ad.off + 3, none⟩ = some (.int .i8 p.f2.f0) ∧ w'.cell? ⟨ad.block, ad.off + 4, none⟩ = some (.slice P4 p.f2.f1.length Pn4) ∧ w'.cell? ⟨ad.block, ad.off + 5, none⟩ = some (.int .i64 p.f3) ∧ w'.cell? ⟨ad.block, ad.off + 6, none⟩ = some (.bool p.f4) ∧ w'.cell? ⟨ad.block, ad.off + 7, none⟩ = some (.slice P7 p.f5.length Pn7) ∧ w'.cell? ⟨ad.block, ad.off + 8, none⟩ = some (.int .i8 q.f0) ∧ w'.cell? ⟨ad.block, ad.off + 8 + 1, none⟩ = some (.int .i8 q.f1.f0) ∧ w'.cell? ⟨ad.block, ad.off + 8 + 2, none⟩ = some (.slice Q2 q.f1.f1.length Qn2) ∧ w'.cell? ⟨ad.block, ad.off + 8 + 3, none⟩ = some (.int .i8 q.f2.f0) ∧ w'.cell? ⟨ad.block, ad.off + 8 + 4, none⟩ = some (.slice Q4 q.f2.f1.length Qn4) ∧ w'.cell? ⟨ad.block, ad.off + 8 + 5, none⟩ = some (.int .i64 q.f3) ∧ w'.cell? ⟨ad.block, ad.off + 8 + 6, none⟩ = some (.bool q.f4) ∧ w'.cell? ⟨ad.block, ad.off + 8 + 7, none⟩ = some (.slice Q7 q.f5.length Qn7)) (by kernel_rfl) ⟨bcl K0.out, HK1.out.1, HK1.out.2.1, HK1.out.2.2.1, HK1.out.2.2.2.1, HK1.out.2.2.2.2.1, HK1.out.2.2.2.2.2.1, HK1.out.2.2.2.2.2.2.1, HK1.out.2.2.2.2.2.2.2, HK2.out.1, HK2.out.2.1, HK2.out.2.2.1, HK2.out.2.2.2.1, HK2.out.2.2.2.2.1, HK2.out.2.2.2.2.2.1, HK2.out.2.2.2.2.2.2.1, HK2.out.2.2.2.2.2.2.2⟩ (fun hHeld => ?_)
  have HZ := Aside0.mk ((Below.refl y1.heap.size y1).drew)
  replace HW := Aside0.mk (below_then HW.out HW.out.size HZ.out)
  generalize y1.drew = w1 at *
  refine tK 62 0 hHeld ?_
  refine tK 63 1 hHeld ?_
  refine tK 64 2 hHeld ?_
  refine tK 65 3 hHeld ?_
  refine tK 69 7 hHeld ?_
  refine tK 72 10 hHeld ?_
  refine tK 73 11 hHeld ?_
  refine tK 74 12 hHeld ?_
  refine tK 75 13 hHeld ?_
  refine cK 66 4 (H1.out _ _ (HP.out.below HZ.out)) ?_
  rintro e w2 ⟨rfl, hB⟩
  replace HZ := Aside0.mk (below_then HZ.out HZ.out.size hB)
  replace HW := Aside0.mk (below_then HW.out HW.out.size hB)
  refine ⟨_, rfl, ⟨pwc hB hHeld.1, pwc hB hHeld.2.1, pwc hB hHeld.2.2.1, pwc hB hHeld.2.2.2.1, pwc hB hHeld.2.2.2.2.1, pwc hB hHeld.2.2.2.2.2.1, pwc hB hHeld.2.2.2.2.2.2.1, pwc hB hHeld.2.2.2.2.2.2.2.1, pwc hB hHeld.2.2.2.2.2.2.2.2.1, pwc hB hHeld.2.2.2.2.2.2.2.2.2.1, pwc hB hHeld.2.2.2.2.2.2.2.2.2.2.1, pwc hB hHeld.2.2.2.2.2.2.2.2.2.2.2.1, pwc hB hHeld.2.2.2.2.2.2.2.2.2.2.2.2.1, pwc hB hHeld.2.2.2.2.2.2.2.2.2.2.2.2.2.1, pwc hB hHeld.2.2.2.2.2.2.2.2.2.2.2.2.2.2.1, pwc hB hHeld.2.2.2.2.2.2.2.2.2.2.2.2.2.2.2.1, pwc hB hHeld.2.2.2.2.2.2.2.2.2.2.2.2.2.2.2.2⟩, fun hHeld => nA ?_⟩
  clear hB
  have q0 : ¬ (9223372036854775807 < 2 + (bS (ctext p)).size) := by have := hs.out; have := (show (bS (signC x.f0)).size ≤ 2 by rw [bS_size]; exact signC_len _); omega
  refine tK 67 5 hHeld ?_
  have q1 : ¬ (9223372036854775807 < 2 + (bS (ctext p)).size + 1) := by have := hs.out; have := (show (bS (signC x.f0)).size ≤ 2 by rw [bS_size]; exact signC_len _); omega
  refine tK 68 6 hHeld ?_
  have q2 : ¬ (9223372036854775807 < 2 + (bS (ctext p)).size + 1 + (bS (signC x.f0)).size) := by have := hs.out; have := (show (bS (signC x.f0)).size ≤ 2 by rw [bS_size]; exact signC_len _); omega
  refine tK 70 8 hHeld ?_
  have q3 : ¬ (9223372036854775807 < 2 + (bS (ctext p)).size + 1 + (bS (signC x.f0)).size + 1) := by have := hs.out; have := (show (bS (signC x.f0)).size ≤ 2 by rw [bS_size]; exact signC_len _); omega
  refine tK 71 9 hHeld ?_
  refine cK 76 14 (H2.out _ _ (HQ.out.below HZ.out)) ?_
  rintro e w3 ⟨rfl, hB⟩
  replace HZ := Aside0.mk (below_then HZ.out HZ.out.size hB)
  replace HW := Aside0.mk (below_then HW.out HW.out.size hB)
  refine ⟨_, rfl, ⟨pwc hB hHeld.1, pwc hB hHeld.2.1, pwc hB hHeld.2.2.1, pwc hB hHeld.2.2.2.1, pwc hB hHeld.2.2.2.2.1, pwc hB hHeld.2.2.2.2.2.1, pwc hB hHeld.2.2.2.2.2.2.1, pwc hB hHeld.2.2.2.2.2.2.2.1, pwc hB hHeld.2.2.2.2.2.2.2.2.1, pwc hB hHeld.2.2.2.2.2.2.2.2.2.1, pwc hB hHeld.2.2.2.2.2.2.2.2.2.2.1, pwc hB hHeld.2.2.2.2.2.2.2.2.2.2.2.1, pwc hB hHeld.2.2.2.2.2.2.2.2.2.2.2.2.1, pwc hB hHeld.2.2.2.2.2.2.2.2.2.2.2.2.2.1, pwc hB hHeld.2.2.2.2.2.2.2.2.2.2.2.2.2.2.1, pwc hB hHeld.2.2.2.2.2.2.2.2.2.2.2.2.2.2.2.1, pwc hB hHeld.2.2.2.2.2.2.2.2.2.2.2.2.2.2.2.2⟩, fun hHeld => nA ?_⟩
  clear hB
  have q4 : ¬ (9223372036854775807 < 2 + (bS (ctext p)).size + 1 + (bS (signC x.f0)).size + 1 + (bS (ctext q)).size) := by have := hs.out; have := (show (bS (signC x.f0)).size ≤ 2 by rw [bS_size]; exact signC_len _); omega
  refine tK 77 15 hHeld ?_
  have q5 : ¬ (9223372036854775807 < 2 + (bS (ctext p)).size + 1 + (bS (signC x.f0)).size + 1 + (bS (ctext q)).size + 2) := by have := hs.out; have := (show (bS (signC x.f0)).size ≤ 2 by rw [bS_size]; exact signC_len _); omega
  refine tK 78 16 hHeld ?_
  refine tK 2 17 hHeld ?_
  refine wpAnyH_done (by kernel_rfl) ?_ _
  go_wp2_with fail
  have h7n : ¬ x.f0 = 7 := by have := hk.out; omega
  go_ret
  refine ⟨?_, HW.out⟩
  rw [show (⟨#[40, 32]⟩ : ByteArray) = bS [40, 32] from rfl, show (⟨#[32]⟩ : ByteArray) = bS [32] from rfl, show (⟨#[32, 41]⟩ : ByteArray) = bS [32, 41] from rfl]
  simp only [bS_app]
  simp [joinTextC, h7n]
theorem text_ctext : ∀ (x : S54), (endsC x).isSome = true → cnodes x ≤ 8192 → labI x → ∀ (v : Value) (w : World), IsC w v x → Calls Tryd.prog 57 #[v] w (StrPost (ctext x) w) :=
  co_ind (P := fun x => cnodes x ≤ 8192 → labI x → ∀ (v : Value) (w : World), IsC w v x → Calls Tryd.prog 57 #[v] w (StrPost (ctext x) w))
    (fun x hk _ hx h8 hL v w hC => by
      obtain ⟨f1, f2, f3⟩ := leaf_facts hk hx
      rw [ctext_leaf hk]
      rcases leafB_cases hk with h | h | h | h
      · exact rtext_0 hC ⟨h⟩ ⟨f1⟩
      · exact rtext_1 hC ⟨h⟩ ⟨f1⟩ ⟨(f2 h).1⟩ ⟨(f2 h).2⟩
      · exact rtext_2 hC ⟨h⟩ ⟨f1⟩
      · exact rtext_3 hC ⟨h⟩ ⟨f1⟩ ⟨f3 h⟩)
    (fun x p q hk hl hx hp hq h1 h2 h8 hL v w hC => by
      have hc := cnodes_kids hl
      obtain ⟨lp, lq⟩ := labI_two hl hL
      have sp := ctext_len p hp lp
      have sq := ctext_len q hq lq
      have hs : Aside0 ((bS (ctext p)).size ≤ 500000 ∧ (bS (ctext q)).size ≤ 500000) := ⟨by rw [bS_size, bS_size]; omega⟩
      have g1 := h1 (by omega) lp
      have g2 := h2 (by omega) lq
      rw [ctext_two hk hl]
      rcases two_kind hk hl hx with h | h | h | h
      · exact rtext_n hC ⟨.inl h⟩ ⟨hl⟩ hs ⟨g1⟩ ⟨g2⟩
      · exact rtext_n hC ⟨.inr (.inl h)⟩ ⟨hl⟩ hs ⟨g1⟩ ⟨g2⟩
      · exact rtext_n hC ⟨.inr (.inr h)⟩ ⟨hl⟩ hs ⟨g1⟩ ⟨g2⟩
      · exact rtext_7 hC ⟨h⟩ ⟨hl⟩ hs ⟨g1⟩ ⟨g2⟩)
theorem rtext_calls {x : S54} {v : Value} {w : World} (h : IsC w v x) (hx : (endsC x).isSome = true) (h8 : cnodes x ≤ 8192) (hL : labI x) : Calls Tryd.prog 57 #[v] w (StrPost (ctext x) w) := text_ctext x hx h8 hL v w h
end Go.Proofs.YtjmpejbciniceaaDoor.X
namespace Go.Proofs
open Go.Shelf
def Tryd.lays156_ren : Go.Shelf.Ren := ⟨fun | 156 => 55 | 165 => 104 | 166 => 105 | 169 => 106 | 240 => 128 | 241 => 129 | 276 => 136 | 277 => 137 | n => n, fun | 31 => 100 | 9 => 9 | 3 => 3 | 4 => 4 | 0 => 0 | 20 => 20 | 72 => 139 | 76 => 141 | 70 => 137 | 37 => 111 | 75 => 24 | 127 => 165 | 164 => 123 | 5 => 5 | 80 => 143 | n => n, fun | n => n⟩
theorem Tryd.lays156 : Go.Proofs.Lays.n156 Tryd.prog Tryd.lays156_ren := {
  mixed := by kernel_rfl
  f156 := Tryd.func55.trans (congrArg some (by kernel_rfl))
  f165 := Tryd.func104.trans (congrArg some (by kernel_rfl))
  f166 := Tryd.func105.trans (congrArg some (by kernel_rfl))
  f169 := Tryd.func106.trans (congrArg some (by kernel_rfl))
  f240 := Tryd.func128.trans (congrArg some (by kernel_rfl))
  f241 := Tryd.func129.trans (congrArg some (by kernel_rfl))
  f276 := Tryd.func136.trans (congrArg some (by kernel_rfl))
  f277 := Tryd.func137.trans (congrArg some (by kernel_rfl))
  t0 := Tryd.underlying0
  a0 := Tryd.isAgg0
  z0 := Tryd.sizeOf0
  v0 := Tryd.zeroValue0
  t3 := Tryd.underlying3
  a3 := Tryd.isAgg3
  z3 := Tryd.sizeOf3
  v3 := Tryd.zeroValue3
  t4 := Tryd.underlying4
  a4 := Tryd.isAgg4
  z4 := Tryd.sizeOf4
  v4 := Tryd.zeroValue4
  t9 := Tryd.underlying9
  a9 := Tryd.isAgg9
  z9 := Tryd.sizeOf9
  v9 := Tryd.zeroValue9
  t20 := Tryd.underlying20
  a20 := Tryd.isAgg20
  z20 := Tryd.sizeOf20
  v20 := Tryd.zeroValue20
  t31 := Tryd.underlying100
  a31 := Tryd.isAgg100
  z31 := Tryd.sizeOf100
  v31 := Tryd.zeroValue100
  t37 := Tryd.underlying111
  a37 := Tryd.isAgg111
  z37 := Tryd.sizeOf111
  v37 := Tryd.zeroValue111
  t70 := Tryd.underlying137
  a70 := Tryd.isAgg137
  z70 := Tryd.sizeOf137
  v70 := Tryd.zeroValue137
  t72 := Tryd.underlying139
  a72 := Tryd.isAgg139
  z72 := Tryd.sizeOf139
  v72 := Tryd.zeroValue139
  t75 := Tryd.underlying24
  a75 := Tryd.isAgg24
  z75 := Tryd.sizeOf24
  v75 := Tryd.zeroValue24
  t76 := Tryd.underlying141
  a76 := Tryd.isAgg141
  z76 := Tryd.sizeOf141
  v76 := Tryd.zeroValue141
  t127 := Tryd.underlying165
  a127 := Tryd.isAgg165
  z127 := Tryd.sizeOf165
  v127 := Tryd.zeroValue165
  t164 := Tryd.underlying123
  a164 := Tryd.isAgg123
  z164 := Tryd.sizeOf123
  v164 := Tryd.zeroValue123 }
theorem Tryd.Builder_Extra_156 : Builder.Extra Tryd.prog Tryd.lays156_ren := {
  sizeBuilder := by kernel_rfl
  liesBuilder := by kernel_rfl
  t5 := Tryd.underlying5
  a5 := Tryd.isAgg5
  z5 := Tryd.sizeOf5
  v5 := Tryd.zeroValue5
  infoByte := by kernel_rfl
  cellsByte := by kernel_rfl
  sizeByte := by kernel_rfl
  neB5 := by decide }
open Go.RowKit in
theorem Tryd.strings_Join (bk o c : Nat) (xs : List ByteArray) (sep : ByteArray) (w : World) (hcells : ∀ (j : Nat) x, xs[j]? = some x → w.cell? ⟨bk, o + j, none⟩ = some (.string x)) (hbk : bk < w.heap.size) (hN : xs.length ≤ 140737488355328) (hcap : xs.length ≤ c) (hlen : (Lib.join (xs.map (·.data.toList)) sep.data.toList).length ≤ 140737488355328) :
    Calls Tryd.prog 55 #[.slice (some ⟨bk, o, none⟩) xs.length c, .string sep] w fun e w' => e = .returned (.string ⟨(Lib.join (xs.map (·.data.toList)) sep.data.toList).toArray⟩) ∧ Below w.heap.size w w' := Any.strings_Join Tryd.lays156 Tryd.Builder_Extra_156 bk o c xs sep w hcells hbk hN hcap hlen
def Tryd.laysM171_ren : Go.Shelf.Ren := ⟨fun | 171 => 108 | 243 => 130 | 246 => 138 | 283 => 143 | 284 => 144 | 285 => 145 | 286 => 146 | 129 => 150 | 317 => 149 | 318 => 151 | 319 => 152 | 320 => 153 | 337 => 154 | 338 => 155 | n => n, fun | 3 => 3 | 9 => 9 | 2 => 2 | 4 => 4 | 171 => 177 | 0 => 0 | 53 => 148 | 37 => 111 | 5 => 5 | 173 => 180 | 212 => 184 | 51 => 185 | 20 => 20 | 213 => 186 | 46 => 188 | 232 => 191 | 233 => 192 | n => n, fun | 17 => 2 | 18 => 3 | 19 => 4 | n => n⟩
theorem Tryd.laysM171 : Go.Proofs.LaysM.n171 Tryd.prog Tryd.laysM171_ren := {
  mixed := by kernel_rfl
  f129 := Tryd.func150.trans (congrArg some (by kernel_rfl))
  f171 := Tryd.func108.trans (congrArg some (by kernel_rfl))
  f243 := Tryd.func130.trans (congrArg some (by kernel_rfl))
  f246 := Tryd.func138.trans (congrArg some (by kernel_rfl))
  f283 := Tryd.func143.trans (congrArg some (by kernel_rfl))
  f284 := Tryd.func144.trans (congrArg some (by kernel_rfl))
  f285 := Tryd.func145.trans (congrArg some (by kernel_rfl))
  f286 := Tryd.func146.trans (congrArg some (by kernel_rfl))
  f317 := Tryd.func149.trans (congrArg some (by kernel_rfl))
  f318 := Tryd.func151.trans (congrArg some (by kernel_rfl))
  f319 := Tryd.func152.trans (congrArg some (by kernel_rfl))
  f320 := Tryd.func153.trans (congrArg some (by kernel_rfl))
  f337 := Tryd.func154.trans (congrArg some (by kernel_rfl))
  f338 := Tryd.func155.trans (congrArg some (by kernel_rfl))
  t0 := Tryd.underlying0
  a0 := Tryd.isAgg0
  z0 := Tryd.sizeOf0
  v0 := Tryd.zeroValue0
  t2 := Tryd.underlying2
  a2 := Tryd.isAgg2
  z2 := Tryd.sizeOf2
  v2 := Tryd.zeroValue2
  t3 := Tryd.underlying3
  a3 := Tryd.isAgg3
  z3 := Tryd.sizeOf3
  v3 := Tryd.zeroValue3
  t4 := Tryd.underlying4
  a4 := Tryd.isAgg4
  z4 := Tryd.sizeOf4
  v4 := Tryd.zeroValue4
  t5 := Tryd.underlying5
  a5 := Tryd.isAgg5
  z5 := Tryd.sizeOf5
  v5 := Tryd.zeroValue5
  t9 := Tryd.underlying9
  a9 := Tryd.isAgg9
  z9 := Tryd.sizeOf9
  v9 := Tryd.zeroValue9
  t20 := Tryd.underlying20
  a20 := Tryd.isAgg20
  z20 := Tryd.sizeOf20
  v20 := Tryd.zeroValue20
  t37 := Tryd.underlying111
  a37 := Tryd.isAgg111
  z37 := Tryd.sizeOf111
  v37 := Tryd.zeroValue111
  t46 := Tryd.underlying188
  a46 := Tryd.isAgg188
  z46 := Tryd.sizeOf188
  v46 := Tryd.zeroValue188
  t51 := Tryd.underlying185
  a51 := Tryd.isAgg185
  z51 := Tryd.sizeOf185
  v51 := Tryd.zeroValue185
  t53 := Tryd.underlying148
  a53 := Tryd.isAgg148
  z53 := Tryd.sizeOf148
  v53 := Tryd.zeroValue148
  t171 := Tryd.underlying177
  a171 := Tryd.isAgg177
  z171 := Tryd.sizeOf177
  v171 := Tryd.zeroValue177
  t173 := Tryd.underlying180
  a173 := Tryd.isAgg180
  z173 := Tryd.sizeOf180
  v173 := Tryd.zeroValue180
  t212 := Tryd.underlying184
  a212 := Tryd.isAgg184
  z212 := Tryd.sizeOf184
  v212 := Tryd.zeroValue184
  t213 := Tryd.underlying186
  a213 := Tryd.isAgg186
  z213 := Tryd.sizeOf186
  t232 := Tryd.underlying191
  a232 := Tryd.isAgg191
  z232 := Tryd.sizeOf191
  v232 := Tryd.zeroValue191
  t233 := Tryd.underlying192
  a233 := Tryd.isAgg192
  z233 := Tryd.sizeOf192
  v233 := Tryd.zeroValue192
  g17 := by kernel_rfl
  g18 := by kernel_rfl
  g19 := by kernel_rfl
  i0 := by kernel_rfl
  i2 := by kernel_rfl
  i3 := by kernel_rfl
  i4 := by kernel_rfl
  i5 := by kernel_rfl
  i9 := by kernel_rfl
  i20 := by kernel_rfl
  i37 := by kernel_rfl
  i46 := by kernel_rfl
  i51 := by kernel_rfl
  i53 := by kernel_rfl
  i171 := by kernel_rfl
  i173 := by kernel_rfl
  i212 := by kernel_rfl
  i232 := by kernel_rfl
  i233 := by kernel_rfl
  m17 := by kernel_rfl
  m18 := by kernel_rfl
  m19 := by kernel_rfl }
open Go.RowKit Go.Sort Go.Lib in
theorem Tryd.strconv_Itoa (n : Int) (h0 : -9223372036854775808 ≤ n) (h1 : n ≤ 9223372036854775807) (w : World) (htab : Lib.TabIs Tryd.prog w "internal/strconv.uint64pow10" .u64 Lib.pow10Tab) :
    Calls Tryd.prog 108 #[.int .i64 n] w fun e w' => e = .returned (.string ⟨(Lib.itoa n).toArray⟩) ∧ ∃ k os, w' = grow (w.drewN k) os := Any.strconv_Itoa Tryd.laysM171 n h0 h1 w htab
end Go.Proofs
namespace Go.Proofs.YtjmpejbciniceaaDoor.X
open Go.RowKit Go.Proofs.YtjmpejbciniceaaDoorW.PrintWords Go.Proofs.YtjmpejbciniceaaDoorW.PrintLast Go.Proofs.YtjmpejbciniceaaDoorW.PrintMore
set_option linter.unusedVariables false
set_option linter.unusedSimpArgs false
theorem info9 : (Tryd.prog.info? 9).map (fun i => (i.zero, i.size, i.bytes)) = some (some (.string ⟨#[]⟩), 1, 16) := by kernel_rfl
structure OwnW (W0 : World) (v : Value) (l : List ByteArray) (w : World) : Prop where
  row : w.ownsRow W0.heap.size 9 1 v l.length (l.map Value.string)
  below : Below W0.heap.size W0 w
theorem OwnW.nil (w : World) : OwnW w (.slice none 0 0) [] w := ⟨World.ownsRow_nil _ _ _ _, Below.refl _ _⟩
theorem OwnW.after {W0 : World} {v : Value} {l : List ByteArray} {w w' : World} (h : OwnW W0 v l w) (hb : Below w.heap.size w w') : OwnW W0 v l w' :=
  ⟨ownsRow_below h.row hb, below_then h.below h.below.size hb⟩
theorem OwnW.grown {W0 : World} {v v' : Value} {l l' : List ByteArray} {w w' : World} (h : OwnW W0 v l w) (ho : w'.ownsRow W0.heap.size 9 1 v' l'.length (l'.map Value.string)) (hg : w.grownBy w' v.ownBlock) : OwnW W0 v' l' w' :=
  ⟨ho, h.below.grown hg h.below.size (fun k hk => (h.row.lt k hk).1)⟩
theorem OwnW.ne {W0 : World} {v : Value} {l : List ByteArray} {w : World} (h : OwnW W0 v l w) : v.ownBlock ≠ some w.heap.size := by
  intro e
  have := (h.row.lt _ e).2
  omega
theorem OwnW.slice {W0 : World} {v : Value} {l : List ByteArray} {w : World} (h : OwnW W0 v l w) : ∃ A n c, v = .slice A n c := by
  rcases h.row.2 with ⟨rfl, _⟩ | ⟨g, cap, cur, rfl, _⟩
  · exact ⟨_, _, _, rfl⟩
  · exact ⟨_, _, _, rfl⟩
theorem run_app {W0 w : World} {v : Value} {l : List ByteArray} (hb : OwnW W0 v l w) (g : Nat) (ys : List ByteArray) (n : Nat) (hn : ys.length = n) {C : Array Value} (hC : C = (ys.map Value.string).toArray) (hg : w.heap[g]? = some (.cells C 9 (0, 0))) (hlen : l.length + n ≤ 1000000000) (ty : TypeId) :
    ∃ v' w', (Builtin.append_ #[100, 100] ty #[v, .slice (some ⟨g, 0, none⟩) n n]).run Tryd.prog w = .ok v' w' ∧ OwnW W0 v' (l ++ ys) w' ∧ Grew v w v' w' := by
  subst hn
  subst hC
  obtain ⟨i0, hi, hz, hz1, hz2⟩ := info_parts info9
  obtain ⟨v', w', hr, h2, h3, h4, h5⟩ := run_append_own_at (P := Tryd.prog) w W0.heap.size 100 ty 9 i0 (.string ⟨#[]⟩) 1 16 Tryd.underlying100 hi hz hz1 hz2 rfl (by omega) v l.length (l.map Value.string) hb.row ⟨g, 0, none⟩ ys.length ys.length (ys.map Value.string) (by simp)
    (by intro j u hj
        rw [show (⟨g, 0, none⟩ : Addr).add j = ⟨g, j, none⟩ by unfold Addr.add; split <;> simp_all]
        refine (blk_cell hg j).trans ?_
        simpa using hj)
    (by intro u hu; simp only [List.mem_map] at hu; obtain ⟨y, _, rfl⟩ := hu; rfl) (by unfold maxLen; omega) (by omega) hb.below.size
  refine ⟨v', w', hr, hb.grown ?_ h3, ⟨h3, h5.imp id fun e => ⟨_, e, Nat.le_refl _⟩⟩⟩
  rw [List.length_append, List.map_append]
  exact h2
theorem wpList_strs {ops : Array Oper} {rest : List Oper} {o : Oper} {a : Act} {Q : Exit → Act → World → Prop} {W : World} (hgd : o.guard = none) (sl x : Operand)
    (ho : o.op = .call { callee := .builtin .append, args := #[sl, x], argTypes := #[100, 100] })
    {W0 : World} {v : Value} {l : List ByteArray} (hs : a.eval sl = v) (hb : OwnW W0 v l W) (ys : List ByteArray) (n : Nat) (hn : ys.length = n) {C : Array Value} (hC : C = (ys.map Value.string).toArray) (hx : a.eval x = .slice (some ⟨W.heap.size, 0, none⟩) n n) (hlen : l.length + n ≤ 1000000000)
    (h : ∀ v' w', OwnW W0 v' (l ++ ys) w' → Grew v W v' w' → wpList Tryd.prog ops Q rest (a.put o.dst v') w') : wpList Tryd.prog ops Q (o :: rest) a (W.alloc (.cells C 9)) := by
  have hB : Below W.heap.size W (W.alloc (.cells C 9)) := (Below.refl _ _).alloc (Nat.le_refl _) _
  obtain ⟨v', w', hr, h2, h3⟩ := run_app (hb.after hB) W.heap.size ys n hn hC (heap_alloc_new W _) hlen o.type
  refine wpList_plain hgd fun K hK => ?_
  unfold Oper.wp execOp
  simp only [ho, resolve, invoke, builtin, Sem.run_bind, Sem.run_pure, Result.andThen_ok, List.map_toArray, List.map_cons, List.map_nil, hs, hx, hr]
  exact hK _ _ (h v' w' h2 ((Grew.below hB).trans h3))
theorem wp_strs {o : Oper} {a : Act} {K : Act → World → Prop} {Q : Exit → Act → World → Prop} {w : World} (sl x : Operand) {d : Option Tmp} (hd : o.dst = d)
    (ho : o.op = .call { callee := .builtin .append, args := #[sl, x], argTypes := #[100, 100] })
    {W0 : World} {v : Value} {l : List ByteArray} (hs : a.eval sl = v) (hb : OwnW W0 v l w) (g : Nat) (ys : List ByteArray) (n : Nat) (hn : ys.length = n) {C : Array Value} (hC : C = (ys.map Value.string).toArray) (hx : a.eval x = .slice (some ⟨g, 0, none⟩) n n) (hg : w.heap[g]? = some (.cells C 9 (0, 0))) (hlen : l.length + n ≤ 1000000000)
    (h : ∀ v' w', OwnW W0 v' (l ++ ys) w' → Grew v w v' w' → K (a.put d v') w') : o.wp Tryd.prog a w K Q := by
  subst hd
  obtain ⟨v', w', hr, h2, h3⟩ := run_app hb g ys n hn hC hg hlen o.type
  unfold Oper.wp execOp
  simp only [ho, resolve, invoke, builtin, Sem.run_bind, Sem.run_pure, Result.andThen_ok, List.map_toArray, List.map_cons, List.map_nil, hs, hx, hr]
  exact h v' w' h2 h3
structure RSt (W0 win : World) (vin : Value) (g : Nat) (vg v : Value) (l : List ByteArray) (w : World) : Prop where
  own : OwnW W0 v l w
  grew : Grew vin win v w
  cell : w.heap[g]? = some (.cells #[vg] 100 (0, 0))
  ne : v.ownBlock ≠ some g
theorem RSt.next {W0 win : World} {vin : Value} {g : Nat} {vg v : Value} {l : List ByteArray} {w w' : World} (h : RSt W0 win vin g vg v l w) (hB : Below w.heap.size w w') : RSt W0 win vin g vg v l w' :=
  ⟨h.own.after hB, h.grew.trans (Grew.below hB), blk_below h.cell hB, h.ne⟩
theorem RSt.grow {W0 win : World} {vin : Value} {g : Nat} {vg v v' : Value} {l l' : List ByteArray} {w w' : World} (h : RSt W0 win vin g vg v l w) (ho : OwnW W0 v' l' w') (hg : Grew v w v' w') : RSt W0 win vin g vg v' l' w' :=
  ⟨ho, h.grew.trans hg, (hg.keep h.cell h.ne).1, (hg.keep h.cell h.ne).2⟩
theorem grew_set {v v' : Value} {w w' : World} (h : Grew v w v' w') {p : Addr} (hp : w.heap.size ≤ p.block) (u : Value) : Grew v w v' (w'.setCell p u) := by
  have hB : Below p.block w' (w'.setCell p u) := (Below.refl _ _).setCell (Nat.le_refl _) u
  exact ⟨⟨hB.os.trans h.by_.os, hB.tape.trans h.by_.tape, hB.output.trans h.by_.output, Nat.le_trans h.by_.size hB.size, fun i hi hne => (hB.block i (by omega)).trans (h.by_.block i hi hne)⟩, h.at_⟩
theorem ownsRow_set {w : World} {base e size n : Nat} {v : Value} {xs : List Value} (h : w.ownsRow base e size v n xs) {p : Addr} (hp : v.ownBlock ≠ some p.block) (u : Value) : (w.setCell p u).ownsRow base e size v n xs :=
  ⟨h.1, h.2.imp id fun ⟨g, cap, cur, h1, h2, h3, h4⟩ => ⟨g, cap, cur, h1, h2, (Below.heap_setCell w p u g (fun e => hp (by rw [h1]; simp [Value.ownBlock, e]))).trans h3, h4⟩⟩
theorem RSt.store {W0 win : World} {vin : Value} {g : Nat} {vg v : Value} {l : List ByteArray} {w : World} (h : RSt W0 win vin g vg v l w) (hg : win.heap.size ≤ g) (hW : W0.heap.size ≤ g) : RSt W0 win vin g v v l (w.setCell ⟨g, 0, none⟩ v) :=
  ⟨⟨ownsRow_set h.own.row (p := ⟨g, 0, none⟩) h.ne v, h.own.below.setCell (p := ⟨g, 0, none⟩) hW v⟩, grew_set h.grew (p := ⟨g, 0, none⟩) hg v, blk_put h.cell 0 v rfl, h.ne⟩
def WordsPost (W0 : World) (v : Value) (w : World) (l : List ByteArray) (e : Ending) (w' : World) : Prop := ∃ v', e = .returned v' ∧ OwnW W0 v' l w' ∧ Grew v w v' w'
def wordsS (x : S54) : List ByteArray := (cwords x).map bS
theorem ins_run (w : World) (b clock : Nat) (es : Array MapEntry) (kk : Int) (val : Value) (hb : w.heap[b]? = some (.map es clock)) (hf : Instr.findNow (.int .i8) (.int .i8 kk) es.toList 0 = some none) :
    (Instr.mapUpdate 146 (.map (some b)) (.int .i8 kk) val).run Tryd.prog w = .ok () { w with heap := w.heap.setIfInBounds b (.map (es.push { key := .int .i8 kk, val := val, born := clock }) (clock + 1)) } := by
  have hc : (Instr.checkKey false 10000 35 (.int .i8 kk)).run Tryd.prog w = .ok () w := MapKept.run_checkKey (k := .int .i8 kk) Tryd.underlying35 (by simp [MapKept.IsKey]) false 9999
  simp [Instr.mapUpdate, run_underlying Tryd.underlying146, MapKept.run_getObj_map hb, hc, MapKept.run_findKey Tryd.underlying35 hf, MapKept.run_setObj_map _ hb, Result.andThen]
theorem look_run (w : World) (b clock : Nat) (es : Array MapEntry) (kk : Int) (i : Nat) (val : Value) (hb : w.heap[b]? = some (.map es clock)) (hf : Instr.findNow (.int .i8) (.int .i8 kk) es.toList 0 = some (some (i, val))) :
    (Instr.lookup 146 (.map (some b)) (.int .i8 kk) false).run Tryd.prog w = .ok val w := by
  have hc : ∀ e, (Instr.checkKey e 10000 35 (.int .i8 kk)).run Tryd.prog w = .ok () w := fun e => MapKept.run_checkKey (k := .int .i8 kk) Tryd.underlying35 (by simp [MapKept.IsKey]) e 9999
  simp [Instr.lookup, run_underlying Tryd.underlying146, MapKept.run_getObj_map hb, hc, MapKept.run_findKey Tryd.underlying35 hf, Result.andThen]
theorem map_lit (w : World) (k : Int) (hk : k = 4 ∨ k = 5 ∨ k = 6) : ∃ w1 w2 w3,
    (Instr.mapUpdate 146 (.map (some w.heap.size)) (.int .i8 4) (.agg #[.string ⟨#[45, 62]⟩])).run Tryd.prog (w.alloc (.map #[] 0)) = .ok () w1 ∧
    (Instr.mapUpdate 146 (.map (some w.heap.size)) (.int .i8 5) (.agg #[.string ⟨#[42]⟩])).run Tryd.prog w1 = .ok () w2 ∧
    (Instr.mapUpdate 146 (.map (some w.heap.size)) (.int .i8 6) (.agg #[.string ⟨#[43]⟩])).run Tryd.prog w2 = .ok () w3 ∧
    (Instr.lookup 146 (.map (some w.heap.size)) (.int .i8 k) false).run Tryd.prog w3 = .ok (.agg #[.string (bS (signC k))]) w3 ∧ Below w.heap.size w w3 := by
  have h0 : (w.alloc (.map #[] 0)).heap[w.heap.size]? = some (.map #[] 0) := heap_alloc_new w _
  have r1 := ins_run (w.alloc (.map #[] 0)) w.heap.size 0 #[] 4 (.agg #[.string ⟨#[45, 62]⟩]) h0 rfl
  have hset : ∀ (W : World) (o o' : Obj), W.heap[w.heap.size]? = some o → ({ W with heap := W.heap.setIfInBounds w.heap.size o' } : World).heap[w.heap.size]? = some o' := fun W o o' h => (MapKept.heap_set h).1
  have h1 := hset _ _ (.map (#[].push { key := .int .i8 4, val := .agg #[.string ⟨#[45, 62]⟩], born := 0 }) (0 + 1)) h0
  have r2 := ins_run _ w.heap.size _ _ 5 (.agg #[.string ⟨#[42]⟩]) h1 rfl
  have h2 := hset _ _ (.map ((#[].push { key := .int .i8 4, val := .agg #[.string ⟨#[45, 62]⟩], born := 0 }).push { key := .int .i8 5, val := .agg #[.string ⟨#[42]⟩], born := 0 + 1 }) (0 + 1 + 1)) h1
  have r3 := ins_run _ w.heap.size _ _ 6 (.agg #[.string ⟨#[43]⟩]) h2 rfl
  have h3 := hset _ _ (.map (((#[].push { key := .int .i8 4, val := .agg #[.string ⟨#[45, 62]⟩], born := 0 }).push { key := .int .i8 5, val := .agg #[.string ⟨#[42]⟩], born := 0 + 1 }).push { key := .int .i8 6, val := .agg #[.string ⟨#[43]⟩], born := 0 + 1 + 1 }) (0 + 1 + 1 + 1)) h2
  refine ⟨_, _, _, r1, r2, r3, ?_, ?_⟩
  · rcases hk with rfl | rfl | rfl
    · exact look_run _ w.heap.size _ _ 4 0 _ h3 rfl
    · exact look_run _ w.heap.size _ _ 5 1 _ h3 rfl
    · exact look_run _ w.heap.size _ _ 6 2 _ h3 rfl
  · exact ⟨rfl, rfl, rfl, by simp, fun i hi => by
      show (((((w.alloc (.map #[] 0)).heap.setIfInBounds _ _).setIfInBounds _ _).setIfInBounds _ _)[i]?) = _
      rw [Array.getElem?_setIfInBounds_ne (by omega), Array.getElem?_setIfInBounds_ne (by omega), Array.getElem?_setIfInBounds_ne (by omega)]
      exact ((Below.refl w.heap.size w).alloc (Nat.le_refl _) (.map #[] 0)).block i hi⟩
end Go.Proofs.YtjmpejbciniceaaDoor.X
namespace Go.Proofs.YtjmpejbciniceaaDoor.X
open Go.RowKit Go.Proofs.YtjmpejbciniceaaDoorW.PrintWords Go.Proofs.YtjmpejbciniceaaDoorW.PrintLast Go.Proofs.YtjmpejbciniceaaDoorW.PrintMore
set_option linter.unusedVariables false
set_option linter.unusedSimpArgs false
def braceS (t : S43) : List ByteArray := [bS [123], bS (core t), bS [125]]
def KindPost (W0 win : World) (vin : Value) (g : Nat) (l : List ByteArray) (e : Ending) (w' : World) : Prop := ∃ u A n c, e = .returned u ∧ RSt W0 win vin g (.slice A n c) (.slice A n c) l w'
set_option maxRecDepth 100000 in
set_option maxHeartbeats 3200000 in
theorem kindw_calls {t : S43} {vt : Value} {W0 win : World} {vin : Value} {A : Option Addr} {n c : Nat} {g : Nat} {l : List ByteArray} {w : World} (hT : IsT W0 vt t) (hc : checkI t = 0) (h : RSt W0 win vin g (.slice A n c) (.slice A n c) l w) (hg : win.heap.size ≤ g) (hW : W0.heap.size ≤ g) (hlen : l.length + 3 ≤ 1000000) :
    Calls Tryd.prog 107 #[vt, .pointer (some ⟨g, 0, none⟩)] w (KindPost W0 win vin g (l ++ braceS t)) := by
  have HS : Aside0 (textS t = bS (core t)) := .mk (by unfold textS; rw [if_pos hc]; rfl)
  have HC := Aside0.mk hc
  have HT := Aside0.mk (hT.below h.own.below)
  obtain ⟨B, d, rfl, -, -⟩ := hT
  have hB0 : Below w.heap.size w (w.alloc (.cells #[.int .i8 t.f0, .slice B t.f1.length d] 43)) := (Below.refl _ _).alloc (Nat.le_refl _) _
  have HR := Aside0.mk (h.next hB0)
  replace HT := Aside0.mk (HT.out.below hB0)
  clear hB0 h hc
  go_enter Tryd.func107, Tryd.ntmps107
  go_wp2_with fail
  generalize w.alloc (.cells #[.int .i8 t.f0, .slice B t.f1.length d] 43) = wa at *
  refine (Text_calls HT.out).mono ?_
  unfold TPost
  rw [HS.out, HC.out]
  rintro e w1 ⟨rfl, hB⟩
  replace HR := Aside0.mk (HR.out.next hB)
  clear hB
  have c0 : w1.cell? ⟨g, 0, none⟩ = some (.slice A n c) := bcl HR.out.cell
  go_wp2_with (at_builtin; refine wpList_strs rfl _ _ rfl rfl HR.out.own [bS [123], bS (core t), bS [125]] 3 rfl rfl rfl (by omega) ?_; intro v1 w2 ho hgr; obtain ⟨A1, n1, m1, rfl⟩ := ho.slice; have HR2 := Aside0.mk (HR.out.grow ho hgr); have e0 : w2.cell? ⟨g, 0, none⟩ = some (.slice A n c) := bcl HR2.out.cell; have f0 : w2.frozen? ⟨g, 0, none⟩ = false := blk_frozen HR2.out.cell 0; clear ho hgr c0)
  refine bodyPost_ret (results_list (rs := []) rfl (by simp) .nil) rfl ?_
  exact ⟨_, _, _, _, rfl, HR2.out.store hg hW⟩
end Go.Proofs.YtjmpejbciniceaaDoor.X
namespace Go.Proofs.YtjmpejbciniceaaDoor.X
open Go.RowKit Go.Proofs.YtjmpejbciniceaaDoorW.PrintWords Go.Proofs.YtjmpejbciniceaaDoorW.PrintLast Go.Proofs.YtjmpejbciniceaaDoorW.PrintMore
set_option linter.unusedVariables false
set_option linter.unusedSimpArgs false
theorem var_below {w w' : World} {B : Nat} (hb : Below B w w') (hB : w.heap.size ≤ B) {n : String} {cs : Array Value} (h : w.var? Tryd.prog n = some cs) : w'.var? Tryd.prog n = some cs := by
  unfold World.var? at h ⊢
  cases hg : Tryd.prog.globalNamed n with
  | none => simp [hg] at h
  | some g =>
    simp only [hg, Option.bind_some] at h ⊢
    have hlt : g < w.heap.size := by
      rcases Nat.lt_or_ge g w.heap.size with h' | h'
      · exact h'
      · simp [Array.getElem?_eq_none h'] at h
    rw [hb.block g (by omega)]
    exact h
theorem below_grow' (w : World) (k : Nat) (os : Array Obj) : Below w.heap.size w (Sort.grow (w.drewN k) os) :=
  ⟨rfl, rfl, rfl, by simp [Sort.grow, World.drewN], fun j hj => by
    show (w.heap ++ os)[j]? = w.heap[j]?
    rw [Array.getElem?_append_left hj]⟩
def HasTab (w : World) : Prop := Lib.TabIs Tryd.prog w "internal/strconv.uint64pow10" .u64 Lib.pow10Tab
theorem HasTab.below {w w' : World} (h : HasTab w) (hb : Below w.heap.size w w') : HasTab w' := var_below hb (Nat.le_refl _) h
theorem itoa_calls (n : Int) (w : World) (h0 : -9223372036854775808 ≤ n) (h1 : n ≤ 9223372036854775807) (hE : HasTab w) :
    Calls Tryd.prog 108 #[.int .i64 n] w (StrPost (Lib.itoa n) w) := by
  refine (Tryd.strconv_Itoa n h0 h1 w hE).mono ?_
  rintro e w' ⟨rfl, k, os, rfl⟩
  exact ⟨rfl, below_grow' w k os⟩
set_option maxRecDepth 100000 in
set_option maxHeartbeats 6400000 in
theorem words_0 {x : S54} {p : Addr} {A : Option Addr} {n c : Nat} {l : List ByteArray} {W0 w : World} (hp : Aside0 (AtC W0 p x)) (hO : OwnW W0 (.slice A n c) l w) (htab : Aside0 (HasTab W0)) (hlab : Aside0 (-9223372036854775808 ≤ x.f3 ∧ x.f3 ≤ 9223372036854775807)) (hlen : l.length + 8 ≤ 1000000) (hk : Aside0 (x.f0 = 0)) (hct : Aside0 (checkI x.f1 = 0)) : Calls Tryd.prog 56 #[(.slice A n c), .pointer (some p)] w (WordsPost W0 (.slice A n c) w (l ++ wordsS x)) := by
  obtain ⟨A2, c2, A4, c4, A7, c7, hP, hT, hU, hl7, hC⟩ := hp.out
  have HP := Aside0.mk hP
  have HT := Aside0.mk hT
  have HU := Aside0.mk hU
  have HC := Aside0.mk hC
  clear hP hT hU hC
  have hmf : ∀ (fn : Fn) (first cap : Array Value) (w : World), (Instr.makeFunc fn first cap).run Tryd.prog w = .ok (.func fn first cap) w := fun _ _ _ _ => rfl
  have HG := Aside0.mk hO.below.size
  have hb : Below w.heap.size w (w.alloc (.cells #[(.slice A n c)] 100)) := (Below.refl _ _).alloc (Nat.le_refl _) _
  have HR : Aside0 (RSt W0 w (.slice A n c) w.heap.size (.slice A n c) (.slice A n c) l (w.alloc (.cells #[(.slice A n c)] 100))) := .mk ⟨hO.after hb, Grew.below hb, heap_alloc_new w _, hO.ne⟩
  clear hb hO
  obtain ⟨k0, k1, k2, k3, k4, k5, k6, k7⟩ := HP.out.below HR.out.own.below (Nat.le_refl _)
  have gk0 : (x.f0 == 0) = true := by rw [hk.out]; rfl
  have hL : Aside0 (leafB x.f0 = true) := .mk (by rw [hk.out]; rfl)
  go_enter Tryd.func56, Tryd.ntmps56
  go_wp2_with fail
  clear k0 k1 k2 k3 k4 k5 k6 k7
  generalize w.alloc (.cells #[(.slice A n c)] 100) = w1 at *
  refine (itoa_calls x.f3 w1 hlab.out.1 hlab.out.2 (htab.out.below HR.out.own.below)).mono ?_
  rintro e w2 ⟨rfl, hB⟩
  replace HR := Aside0.mk (HR.out.next hB)
  clear hB
  obtain ⟨k0, k1, k2, k3, k4, k5, k6, k7⟩ := HP.out.below HR.out.own.below (Nat.le_refl _)
  go_upto_if 17 with fail
  go_cut [6] (fun sv wx => sv = .string (bS (sideC x.f3 x.f4)) ∧ RSt W0 w (.slice A n c) w.heap.size (.slice A n c) (.slice A n c) l wx)
  case first =>
    have q0 : ¬ (9223372036854775807 < 1 + (bS (Lib.itoa x.f3)).size) := by rw [bS_size]; have := itoa_len' x.f3 hlab.out.1 hlab.out.2; omega
    cases hn : x.f4 with
    | true =>
      rw [hn] at k6
      go_wp2_with fail
      go_meet
      refine ⟨congrArg Value.string ?_, HR.out⟩
      rw [show (⟨#[45]⟩ : ByteArray) = bS [45] from rfl, bS_app]
      simp [sideC, hn]
    | false =>
      rw [hn] at k6
      go_wp2_with fail
      go_meet
      refine ⟨congrArg Value.string ?_, HR.out⟩
      simp [sideC, hn]
  case rest =>
  obtain ⟨rfl, hr⟩ := hcut
  replace HR := Aside0.mk hr
  clear hr k0 k1 k2 k3 k4 k5 k6 k7
  obtain ⟨k0, k1, k2, k3, k4, k5, k6, k7⟩ := HP.out.below HR.out.own.below (Nat.le_refl _)
  have c0 := bcl (i := 0) (v := (.slice A n c)) HR.out.cell
  go_wp2_with (at_builtin; refine wpList_strs rfl _ _ rfl rfl HR.out.own [bS [105, 100]] 1 rfl rfl rfl (by first | omega | (simp only [List.length_append, List.length_cons, List.length_nil, braceS]; omega)) ?_; intro v1 w3 ho hgr; obtain ⟨A1, n1, m1, rfl⟩ := ho.slice; have HR2 := Aside0.mk (HR.out.grow ho hgr); clear ho hgr; have e0 := bcl (i := 0) (v := (.slice A n c)) HR2.out.cell; have f0 := blk_frozen HR2.out.cell 0; have HR3 := Aside0.mk (HR2.out.store (Nat.le_refl _) HG.out); obtain ⟨k0, k1, k2, k3, k4, k5, k6, k7⟩ := HP.out.below HR3.out.own.below (Nat.le_refl _))
  replace HR := HR3
  clear e0 f0 HR2 HR3 k0 k1 k2 k3 k4 k5 k6 k7
  generalize w3.setCell ⟨w.heap.size, 0, none⟩ (.slice A1 n1 m1) = w4 at *
  refine (kindw_calls HT.out hct.out HR.out (Nat.le_refl _) HG.out (by first | omega | (simp only [List.length_append, List.length_cons, List.length_nil, braceS]; omega))).mono ?_
  rintro e w5 ⟨u1, B1, j1, d1, rfl, hr⟩
  replace HR := Aside0.mk hr
  clear hr
  have c0 := bcl (i := 0) (v := (.slice B1 j1 d1)) HR.out.cell
  go_wp2_with fail
  go_ret
  refine ⟨_, rfl, ?_, HR.out.grew⟩
  have hh := HR.out.own
  simpa [wordsS, cwords_leaf hL.out, leafWordsC, hk.out, braceS] using hh
set_option maxRecDepth 100000 in
set_option maxHeartbeats 6400000 in
theorem words_1 {x : S54} {p : Addr} {A : Option Addr} {n c : Nat} {l : List ByteArray} {W0 w : World} (hp : Aside0 (AtC W0 p x)) (hO : OwnW W0 (.slice A n c) l w) (htab : Aside0 (HasTab W0)) (hlab : Aside0 (-9223372036854775808 ≤ x.f3 ∧ x.f3 ≤ 9223372036854775807)) (hlen : l.length + 16 ≤ 1000000) (hk : Aside0 (x.f0 = 1)) (hct : Aside0 (checkI x.f1 = 0)) (hcu : Aside0 (checkI x.f2 = 0)) : Calls Tryd.prog 56 #[(.slice A n c), .pointer (some p)] w (WordsPost W0 (.slice A n c) w (l ++ wordsS x)) := by
  obtain ⟨A2, c2, A4, c4, A7, c7, hP, hT, hU, hl7, hC⟩ := hp.out
  have HP := Aside0.mk hP
  have HT := Aside0.mk hT
  have HU := Aside0.mk hU
  have HC := Aside0.mk hC
  clear hP hT hU hC
  have hmf : ∀ (fn : Fn) (first cap : Array Value) (w : World), (Instr.makeFunc fn first cap).run Tryd.prog w = .ok (.func fn first cap) w := fun _ _ _ _ => rfl
  have HG := Aside0.mk hO.below.size
  have hb : Below w.heap.size w (w.alloc (.cells #[(.slice A n c)] 100)) := (Below.refl _ _).alloc (Nat.le_refl _) _
  have HR : Aside0 (RSt W0 w (.slice A n c) w.heap.size (.slice A n c) (.slice A n c) l (w.alloc (.cells #[(.slice A n c)] 100))) := .mk ⟨hO.after hb, Grew.below hb, heap_alloc_new w _, hO.ne⟩
  clear hb hO
  obtain ⟨k0, k1, k2, k3, k4, k5, k6, k7⟩ := HP.out.below HR.out.own.below (Nat.le_refl _)
  have gk0 : (x.f0 == 0) = false := by rw [hk.out]; rfl
  have gk1 : (x.f0 == 1) = true := by rw [hk.out]; rfl
  have hL : Aside0 (leafB x.f0 = true) := .mk (by rw [hk.out]; rfl)
  go_enter Tryd.func56, Tryd.ntmps56
  go_wp2_with fail
  clear k0 k1 k2 k3 k4 k5 k6 k7
  generalize w.alloc (.cells #[(.slice A n c)] 100) = w1 at *
  refine (itoa_calls x.f3 w1 hlab.out.1 hlab.out.2 (htab.out.below HR.out.own.below)).mono ?_
  rintro e w2 ⟨rfl, hB⟩
  replace HR := Aside0.mk (HR.out.next hB)
  clear hB
  obtain ⟨k0, k1, k2, k3, k4, k5, k6, k7⟩ := HP.out.below HR.out.own.below (Nat.le_refl _)
  go_upto_if 17 with fail
  go_cut [6] (fun sv wx => sv = .string (bS (sideC x.f3 x.f4)) ∧ RSt W0 w (.slice A n c) w.heap.size (.slice A n c) (.slice A n c) l wx)
  case first =>
    have q0 : ¬ (9223372036854775807 < 1 + (bS (Lib.itoa x.f3)).size) := by rw [bS_size]; have := itoa_len' x.f3 hlab.out.1 hlab.out.2; omega
    cases hn : x.f4 with
    | true =>
      rw [hn] at k6
      go_wp2_with fail
      go_meet
      refine ⟨congrArg Value.string ?_, HR.out⟩
      rw [show (⟨#[45]⟩ : ByteArray) = bS [45] from rfl, bS_app]
      simp [sideC, hn]
    | false =>
      rw [hn] at k6
      go_wp2_with fail
      go_meet
      refine ⟨congrArg Value.string ?_, HR.out⟩
      simp [sideC, hn]
  case rest =>
  obtain ⟨rfl, hr⟩ := hcut
  replace HR := Aside0.mk hr
  clear hr k0 k1 k2 k3 k4 k5 k6 k7
  obtain ⟨k0, k1, k2, k3, k4, k5, k6, k7⟩ := HP.out.below HR.out.own.below (Nat.le_refl _)
  have c0 := bcl (i := 0) (v := (.slice A n c)) HR.out.cell
  go_wp2_with (at_builtin; refine wpList_strs rfl _ _ rfl rfl HR.out.own [bS [102, 97, 105, 108]] 1 rfl rfl rfl (by first | omega | (simp only [List.length_append, List.length_cons, List.length_nil, braceS]; omega)) ?_; intro v1 w3 ho hgr; obtain ⟨A1, n1, m1, rfl⟩ := ho.slice; have HR2 := Aside0.mk (HR.out.grow ho hgr); clear ho hgr; have e0 := bcl (i := 0) (v := (.slice A n c)) HR2.out.cell; have f0 := blk_frozen HR2.out.cell 0; have HR3 := Aside0.mk (HR2.out.store (Nat.le_refl _) HG.out); obtain ⟨k0, k1, k2, k3, k4, k5, k6, k7⟩ := HP.out.below HR3.out.own.below (Nat.le_refl _))
  replace HR := HR3
  clear e0 f0 HR2 HR3 k0 k1 k2 k3 k4 k5 k6 k7
  generalize w3.setCell ⟨w.heap.size, 0, none⟩ (.slice A1 n1 m1) = w4 at *
  refine (kindw_calls HT.out hct.out HR.out (Nat.le_refl _) HG.out (by first | omega | (simp only [List.length_append, List.length_cons, List.length_nil, braceS]; omega))).mono ?_
  rintro e w5 ⟨u1, B1, j1, d1, rfl, hr⟩
  replace HR := Aside0.mk hr
  clear hr
  obtain ⟨k0, k1, k2, k3, k4, k5, k6, k7⟩ := HP.out.below HR.out.own.below (Nat.le_refl _)
  go_wp2_with fail
  clear k0 k1 k2 k3 k4 k5 k6 k7
  refine (kindw_calls HU.out hcu.out HR.out (Nat.le_refl _) HG.out (by first | omega | (simp only [List.length_append, List.length_cons, List.length_nil, braceS]; omega))).mono ?_
  rintro e w6 ⟨u2, B2, j2, d2, rfl, hr⟩
  replace HR := Aside0.mk hr
  clear hr
  have c0 := bcl (i := 0) (v := (.slice B2 j2 d2)) HR.out.cell
  go_wp2_with (at_builtin; refine wpList_strs rfl _ _ rfl rfl HR.out.own [bS (sideC x.f3 x.f4)] 1 rfl rfl rfl (by first | omega | (simp only [List.length_append, List.length_cons, List.length_nil, braceS]; omega)) ?_; intro v1 w3 ho hgr; obtain ⟨A1, n1, m1, rfl⟩ := ho.slice; have HR2 := Aside0.mk (HR.out.grow ho hgr); clear ho hgr)
  go_ret
  refine ⟨_, rfl, ?_, HR2.out.grew⟩
  have hh := HR2.out.own
  simpa [wordsS, cwords_leaf hL.out, leafWordsC, hk.out, braceS] using hh
set_option maxRecDepth 100000 in
set_option maxHeartbeats 6400000 in
theorem words_2 {x : S54} {p : Addr} {A : Option Addr} {n c : Nat} {l : List ByteArray} {W0 w : World} (hp : Aside0 (AtC W0 p x)) (hO : OwnW W0 (.slice A n c) l w) (htab : Aside0 (HasTab W0)) (hlab : Aside0 (-9223372036854775808 ≤ x.f3 ∧ x.f3 ≤ 9223372036854775807)) (hlen : l.length + 8 ≤ 1000000) (hk : Aside0 (x.f0 = 2)) (hct : Aside0 (checkI x.f1 = 0)) : Calls Tryd.prog 56 #[(.slice A n c), .pointer (some p)] w (WordsPost W0 (.slice A n c) w (l ++ wordsS x)) := by
  obtain ⟨A2, c2, A4, c4, A7, c7, hP, hT, hU, hl7, hC⟩ := hp.out
  have HP := Aside0.mk hP
  have HT := Aside0.mk hT
  have HU := Aside0.mk hU
  have HC := Aside0.mk hC
  clear hP hT hU hC
  have hmf : ∀ (fn : Fn) (first cap : Array Value) (w : World), (Instr.makeFunc fn first cap).run Tryd.prog w = .ok (.func fn first cap) w := fun _ _ _ _ => rfl
  have HG := Aside0.mk hO.below.size
  have hb : Below w.heap.size w (w.alloc (.cells #[(.slice A n c)] 100)) := (Below.refl _ _).alloc (Nat.le_refl _) _
  have HR : Aside0 (RSt W0 w (.slice A n c) w.heap.size (.slice A n c) (.slice A n c) l (w.alloc (.cells #[(.slice A n c)] 100))) := .mk ⟨hO.after hb, Grew.below hb, heap_alloc_new w _, hO.ne⟩
  clear hb hO
  obtain ⟨k0, k1, k2, k3, k4, k5, k6, k7⟩ := HP.out.below HR.out.own.below (Nat.le_refl _)
  have gk0 : (x.f0 == 0) = false := by rw [hk.out]; rfl
  have gk1 : (x.f0 == 1) = false := by rw [hk.out]; rfl
  have gk2 : (x.f0 == 2) = true := by rw [hk.out]; rfl
  have hL : Aside0 (leafB x.f0 = true) := .mk (by rw [hk.out]; rfl)
  go_enter Tryd.func56, Tryd.ntmps56
  go_wp2_with fail
  clear k0 k1 k2 k3 k4 k5 k6 k7
  generalize w.alloc (.cells #[(.slice A n c)] 100) = w1 at *
  refine (itoa_calls x.f3 w1 hlab.out.1 hlab.out.2 (htab.out.below HR.out.own.below)).mono ?_
  rintro e w2 ⟨rfl, hB⟩
  replace HR := Aside0.mk (HR.out.next hB)
  clear hB
  obtain ⟨k0, k1, k2, k3, k4, k5, k6, k7⟩ := HP.out.below HR.out.own.below (Nat.le_refl _)
  go_upto_if 17 with fail
  go_cut [6] (fun sv wx => sv = .string (bS (sideC x.f3 x.f4)) ∧ RSt W0 w (.slice A n c) w.heap.size (.slice A n c) (.slice A n c) l wx)
  case first =>
    have q0 : ¬ (9223372036854775807 < 1 + (bS (Lib.itoa x.f3)).size) := by rw [bS_size]; have := itoa_len' x.f3 hlab.out.1 hlab.out.2; omega
    cases hn : x.f4 with
    | true =>
      rw [hn] at k6
      go_wp2_with fail
      go_meet
      refine ⟨congrArg Value.string ?_, HR.out⟩
      rw [show (⟨#[45]⟩ : ByteArray) = bS [45] from rfl, bS_app]
      simp [sideC, hn]
    | false =>
      rw [hn] at k6
      go_wp2_with fail
      go_meet
      refine ⟨congrArg Value.string ?_, HR.out⟩
      simp [sideC, hn]
  case rest =>
  obtain ⟨rfl, hr⟩ := hcut
  replace HR := Aside0.mk hr
  clear hr k0 k1 k2 k3 k4 k5 k6 k7
  obtain ⟨k0, k1, k2, k3, k4, k5, k6, k7⟩ := HP.out.below HR.out.own.below (Nat.le_refl _)
  go_wp2_with fail
  clear k0 k1 k2 k3 k4 k5 k6 k7
  refine (kindw_calls HT.out hct.out HR.out (Nat.le_refl _) HG.out (by first | omega | (simp only [List.length_append, List.length_cons, List.length_nil, braceS]; omega))).mono ?_
  rintro e w5 ⟨u1, B1, j1, d1, rfl, hr⟩
  replace HR := Aside0.mk hr
  clear hr
  have c0 := bcl (i := 0) (v := (.slice B1 j1 d1)) HR.out.cell
  go_wp2_with (at_builtin; refine wpList_strs rfl _ _ rfl rfl HR.out.own [bS [33]] 1 rfl rfl rfl (by first | omega | (simp only [List.length_append, List.length_cons, List.length_nil, braceS]; omega)) ?_; intro v1 w3 ho hgr; obtain ⟨A1, n1, m1, rfl⟩ := ho.slice; have HR2 := Aside0.mk (HR.out.grow ho hgr); clear ho hgr)
  go_ret
  refine ⟨_, rfl, ?_, HR2.out.grew⟩
  have hh := HR2.out.own
  simpa [wordsS, cwords_leaf hL.out, leafWordsC, hk.out, braceS] using hh
set_option maxRecDepth 100000 in
set_option maxHeartbeats 6400000 in
theorem words_3 {x : S54} {p : Addr} {A : Option Addr} {n c : Nat} {l : List ByteArray} {W0 w : World} (hp : Aside0 (AtC W0 p x)) (hO : OwnW W0 (.slice A n c) l w) (htab : Aside0 (HasTab W0)) (hlab : Aside0 (-9223372036854775808 ≤ x.f3 ∧ x.f3 ≤ 9223372036854775807)) (hlen : l.length + 8 ≤ 1000000) (hk : Aside0 (x.f0 = 3)) (hct : Aside0 (checkI x.f1 = 0)) : Calls Tryd.prog 56 #[(.slice A n c), .pointer (some p)] w (WordsPost W0 (.slice A n c) w (l ++ wordsS x)) := by
  obtain ⟨A2, c2, A4, c4, A7, c7, hP, hT, hU, hl7, hC⟩ := hp.out
  have HP := Aside0.mk hP
  have HT := Aside0.mk hT
  have HU := Aside0.mk hU
  have HC := Aside0.mk hC
  clear hP hT hU hC
  have hmf : ∀ (fn : Fn) (first cap : Array Value) (w : World), (Instr.makeFunc fn first cap).run Tryd.prog w = .ok (.func fn first cap) w := fun _ _ _ _ => rfl
  have HG := Aside0.mk hO.below.size
  have hb : Below w.heap.size w (w.alloc (.cells #[(.slice A n c)] 100)) := (Below.refl _ _).alloc (Nat.le_refl _) _
  have HR : Aside0 (RSt W0 w (.slice A n c) w.heap.size (.slice A n c) (.slice A n c) l (w.alloc (.cells #[(.slice A n c)] 100))) := .mk ⟨hO.after hb, Grew.below hb, heap_alloc_new w _, hO.ne⟩
  clear hb hO
  obtain ⟨k0, k1, k2, k3, k4, k5, k6, k7⟩ := HP.out.below HR.out.own.below (Nat.le_refl _)
  have gk0 : (x.f0 == 0) = false := by rw [hk.out]; rfl
  have gk1 : (x.f0 == 1) = false := by rw [hk.out]; rfl
  have gk2 : (x.f0 == 2) = false := by rw [hk.out]; rfl
  have gk3 : (x.f0 == 3) = true := by rw [hk.out]; rfl
  have hL : Aside0 (leafB x.f0 = true) := .mk (by rw [hk.out]; rfl)
  go_enter Tryd.func56, Tryd.ntmps56
  go_wp2_with fail
  clear k0 k1 k2 k3 k4 k5 k6 k7
  generalize w.alloc (.cells #[(.slice A n c)] 100) = w1 at *
  refine (itoa_calls x.f3 w1 hlab.out.1 hlab.out.2 (htab.out.below HR.out.own.below)).mono ?_
  rintro e w2 ⟨rfl, hB⟩
  replace HR := Aside0.mk (HR.out.next hB)
  clear hB
  obtain ⟨k0, k1, k2, k3, k4, k5, k6, k7⟩ := HP.out.below HR.out.own.below (Nat.le_refl _)
  go_upto_if 17 with fail
  go_cut [6] (fun sv wx => sv = .string (bS (sideC x.f3 x.f4)) ∧ RSt W0 w (.slice A n c) w.heap.size (.slice A n c) (.slice A n c) l wx)
  case first =>
    have q0 : ¬ (9223372036854775807 < 1 + (bS (Lib.itoa x.f3)).size) := by rw [bS_size]; have := itoa_len' x.f3 hlab.out.1 hlab.out.2; omega
    cases hn : x.f4 with
    | true =>
      rw [hn] at k6
      go_wp2_with fail
      go_meet
      refine ⟨congrArg Value.string ?_, HR.out⟩
      rw [show (⟨#[45]⟩ : ByteArray) = bS [45] from rfl, bS_app]
      simp [sideC, hn]
    | false =>
      rw [hn] at k6
      go_wp2_with fail
      go_meet
      refine ⟨congrArg Value.string ?_, HR.out⟩
      simp [sideC, hn]
  case rest =>
  obtain ⟨rfl, hr⟩ := hcut
  replace HR := Aside0.mk hr
  clear hr k0 k1 k2 k3 k4 k5 k6 k7
  obtain ⟨k0, k1, k2, k3, k4, k5, k6, k7⟩ := HP.out.below HR.out.own.below (Nat.le_refl _)
  go_wp2_with fail
  clear k0 k1 k2 k3 k4 k5 k6 k7
  refine (kindw_calls HT.out hct.out HR.out (Nat.le_refl _) HG.out (by first | omega | (simp only [List.length_append, List.length_cons, List.length_nil, braceS]; omega))).mono ?_
  rintro e w5 ⟨u1, B1, j1, d1, rfl, hr⟩
  replace HR := Aside0.mk hr
  clear hr
  have c0 := bcl (i := 0) (v := (.slice B1 j1 d1)) HR.out.cell
  go_wp2_with (at_builtin; refine wpList_strs rfl _ _ rfl rfl HR.out.own [bS [63], bS (sideC x.f3 x.f4)] 2 rfl rfl rfl (by first | omega | (simp only [List.length_append, List.length_cons, List.length_nil, braceS]; omega)) ?_; intro v1 w3 ho hgr; obtain ⟨A1, n1, m1, rfl⟩ := ho.slice; have HR2 := Aside0.mk (HR.out.grow ho hgr); clear ho hgr)
  go_ret
  refine ⟨_, rfl, ?_, HR2.out.grew⟩
  have hh := HR2.out.own
  simpa [wordsS, cwords_leaf hL.out, leafWordsC, hk.out, braceS] using hh
end Go.Proofs.YtjmpejbciniceaaDoor.X
