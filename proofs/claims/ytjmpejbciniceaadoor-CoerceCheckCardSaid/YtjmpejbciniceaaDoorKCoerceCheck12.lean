/- Texts of this claim, joined: HCpC2, HCpE, HCpE2. -/
import Derived.Test.YtjmpejbciniceaaDoorKCoerceCheck11
namespace Go.Proofs.YtjmpejbciniceaaDoor.X
open Go.RowKit Go.Proofs.YtjmpejbciniceaaDoorW.PrintWords Go.Proofs.YtjmpejbciniceaaDoorW.PrintLast Go.Proofs.YtjmpejbciniceaaDoorW.PrintMore
set_option linter.unusedVariables false
set_option linter.unusedSimpArgs false
theorem counted_at (n : Nat) : ∀ (x : S54) (p : Addr) (w0 w : World) (g gd : Nat) (v : Int), cnodes x < n → 0 ≤ v → v ≤ 8192 → w0.heap.size ≤ g → gd ≠ g → CSt w0 w g gd v w → AtC w0 p x →
    Calls Tryd.prog 93 #[.pointer (some p), .pointer (some ⟨g, 0, none⟩), .pointer (some ⟨gd, 0, none⟩)] w (CntPost w0 w g gd v (cnodes x)) := by
  induction n with
  | zero => intro x p w0 w g gd v h; omega
  | succ n ih =>
  intro x p w0 w g gd v hn h0 h1 hg hne hs hp
  have IH : Aside0 (∀ (y : S54) (q : Addr) (r : Int) (w : World), cnodes y < cnodes x → 0 ≤ r → r ≤ 8192 → CSt w0 w g gd r w → AtC w0 q y → Calls Tryd.prog 93 #[.pointer (some q), .pointer (some ⟨g, 0, none⟩), .pointer (some ⟨gd, 0, none⟩)] w (CntPost w0 w g gd r (cnodes y))) := ⟨fun y q r w a b c d e => ih y q w0 w g gd r (by omega) b c hg hne d e⟩
  by_cases hk : x.f0 = 1
  · exact counted_u h0 h1 hg hne ⟨hk⟩ ⟨hs⟩ ⟨hp⟩ IH
  · cases hl : leafB x.f0 with
    | false => exact counted_n h0 h1 hg hne ⟨hl⟩ ⟨hs⟩ ⟨hp⟩ IH
    | true => exact counted_t h0 h1 hg hne ⟨hl⟩ ⟨hk⟩ ⟨hs⟩ ⟨hp⟩ IH
set_option maxRecDepth 100000 in
theorem counted_calls {x : S54} {p : Addr} {w : World} (hx : AtC w p x) : Calls Tryd.prog 44 #[.pointer (some p)] w fun e w' => e = .returned (.bool (decide (cnodes x ≤ 8192))) ∧ Below w.heap.size w w' := by
  have HX := Aside0.mk hx
  have hmf : ∀ (fn : Fn) (first cap : Array Value) (w : World), (Instr.makeFunc fn first cap).run Tryd.prog w = .ok (.func fn first cap) w := fun _ _ _ _ => rfl
  have hst : ∀ (a : Addr) (m : Mode) (fn : Fn) (x y : Array Value) (w : World), (store a (.func fn x y) m).run Tryd.prog w = stored Tryd.prog w a (.func fn x y) m := fun a m fn x y w => run_store Tryd.prog w a _ m rfl
  have hB0 : Below w.heap.size w ((w.alloc (.cells #[.int .i64 0] 3)).alloc (.cells #[FV w.heap.size (w.heap.size + 1)] 88)) := ((Below.refl _ _).alloc (Nat.le_refl _) _).alloc (by simp) _
  have HS : Aside0 (CSt w w w.heap.size (w.heap.size + 1) 0 ((w.alloc (.cells #[.int .i64 0] 3)).alloc (.cells #[FV w.heap.size (w.heap.size + 1)] 88))) :=
    .mk ⟨hB0, KeepBut.of_below hB0 _ _, blk_alloc (heap_alloc_new w _) _, by have := heap_alloc_new (w.alloc (.cells #[.int .i64 0] 3)) (.cells #[FV w.heap.size (w.heap.size + 1)] 88); simpa using this⟩
  clear hx hB0
  go_enter Tryd.func44, Tryd.ntmps44
  go_wp2_with fail
  refine (counted_at _ x p w _ _ _ 0 (Nat.lt_succ_self _) (by omega) (by omega) (Nat.le_refl _) (by omega) HS.out.own HX.out).mono ?_
  rintro e w' ⟨hB, -, ⟨hle, rfl, -⟩ | ⟨hgt, rfl⟩⟩
  · have HB := Aside0.mk hB
    have hd : decide (cnodes x ≤ 8192) = true := decide_eq_true (by omega)
    clear hB
    go_wp2_with fail
    go_ret
    exact ⟨by first | (rw [hd]; rfl) | rw [hd] | rfl, HB.out⟩
  · have HB := Aside0.mk hB
    have hd : decide (cnodes x ≤ 8192) = false := decide_eq_false (by omega)
    clear hB
    go_wp2_with fail
    go_ret
    exact ⟨by first | (rw [hd]; rfl) | rw [hd] | rfl, HB.out⟩
theorem deep_calls {x : S54} {p : Addr} {w : World} (hx : AtC w p x) (h8 : cnodes x ≤ 8192) : Calls Tryd.prog 45 #[.pointer (some p), .int .i64 201] w (DeepPost (min (cdepth x : Int) 201) w) := deep_at _ x p 201 w (Nat.lt_succ_self _) h8 (by omega) (by omega) hx
end Go.Proofs.YtjmpejbciniceaaDoor.X
namespace Go.Proofs.YtjmpejbciniceaaDoor.X
open Go.RowKit Go.Proofs.YtjmpejbciniceaaDoorW.PrintWords Go.Proofs.YtjmpejbciniceaaDoorW.PrintLast Go.Proofs.YtjmpejbciniceaaDoorW.PrintMore
set_option linter.unusedVariables false
set_option linter.unusedSimpArgs false
def EndsQ (r : Option (S43 × S43)) (w : World) (e : Ending) (w' : World) : Prop := ∃ (ka : Int) (Pa : Option Addr) (na ca : Nat) (kb : Int) (Pb : Option Addr) (nb cb : Nat), e = .returned (.tuple #[.agg #[.int .i8 ka, .slice Pa na ca], .agg #[.int .i8 kb, .slice Pb nb cb], .bool r.isSome]) ∧
  (∀ ta tb, r = some (ta, tb) → IsT w' (.agg #[.int .i8 ka, .slice Pa na ca]) ta ∧ IsT w' (.agg #[.int .i8 kb, .slice Pb nb cb]) tb) ∧ Below w.heap.size w w'
set_option maxHeartbeats 800000 in
theorem two_calls {k : Int} {a b : S43} {va vb : Value} {w : World} (ha : IsT w va a) (hb : IsT w vb b) :
    Calls Tryd.prog 123 #[.int .i8 k, va, vb] w fun e w' => ∃ v, e = .returned v ∧ IsT w' v ⟨k, [a, b]⟩ ∧ Below w.heap.size w w' := by
  obtain ⟨Aa, ca, rfl, ha1, ha2⟩ := ha
  obtain ⟨Ab, cb, rfl, hb1, hb2⟩ := hb
  have HA := Aside0.mk ha2
  have HB := Aside0.mk hb2
  clear ha2 hb2
  have hB4 : Below w.heap.size w ((((w.alloc (.cells #[.int .i8 a.f0, .slice Aa a.f1.length ca] 43)).alloc (.cells #[.int .i8 b.f0, .slice Ab b.f1.length cb] 43)).alloc (.cells #[.int .i8 k, .slice (some ⟨w.heap.size + 1 + 1 + 1, 0, none⟩) 2 2] 43)).alloc (.cells #[.int .i8 a.f0, .slice Aa a.f1.length ca, .int .i8 b.f0, .slice Ab b.f1.length cb] 43)) :=
    ((((Below.refl _ _).alloc (Nat.le_refl _) _).alloc (by simp) _).alloc (by simp; omega) _).alloc (by simp; omega) _
  have hb4 := heap_alloc_new (((w.alloc (.cells #[.int .i8 a.f0, .slice Aa a.f1.length ca] 43)).alloc (.cells #[.int .i8 b.f0, .slice Ab b.f1.length cb] 43)).alloc (.cells #[.int .i8 k, .slice (some ⟨w.heap.size + 1 + 1 + 1, 0, none⟩) 2 2] 43)) (.cells #[.int .i8 a.f0, .slice Aa a.f1.length ca, .int .i8 b.f0, .slice Ab b.f1.length cb] 43)
  have hT := C_two (cap := 0) hb4 ha1 hb1 (Kd.C_below HA.out hB4) (Kd.C_below HB.out hB4)
  have HT := Aside0.mk hT
  have HB4 := Aside0.mk hB4
  clear hT hB4 hb4 HA HB
  go_enter Tryd.func123, Tryd.ntmps123
  go_wp2
  refine bodyPost_ret (v := .agg #[.int .i8 k, .slice (some ⟨w.heap.size + 1 + 1 + 1, 0, none⟩) 2 2]) (by simp [results, Tryd.results123, go_sem]) rfl ⟨_, rfl, ⟨_, _, rfl, by simp, ?_⟩, HB4.out⟩
  simpa using HT.out
set_option maxRecDepth 100000 in
set_option maxHeartbeats 3200000 in
theorem ends_kids1 {x : S54} {p : Addr} {w : World} (hp : Aside0 (AtC w p x)) (hLo : Aside0 (leafB x.f0 = true)) (hl : Aside0 (x.f5.length ≠ 0)) : Calls Tryd.prog 46 #[.pointer (some p)] w (EndsQ none w) := by
  obtain ⟨A2, c2, A4, c4, A7, c7, hP, hT, hU, hl7, hC⟩ := hp.out
  have hpb : p.block < w.heap.size := World.block_lt_of_cell? w _ hP.1
  have HP := Aside0.mk hP
  have HT := Aside0.mk hT
  have HU := Aside0.mk hU
  have HC := Aside0.mk hC
  clear hP hT hU hC
  obtain ⟨q1, q2, hB⟩ := two_ w (.cells #[.int .i8 0, .slice none 0 0] 43) (.cells #[.int .i8 0, .slice none 0 0] 43)
  have K1 := Aside0.mk q1
  have K2 := Aside0.mk q2
  have HW := Aside0.mk hB
  clear q1 q2 hB
  have hL := hLo.out
  have hlk : ((x.f5.length : Int) != 0) = true := bne_iff_ne.mpr (by have := hl.out; omega)
  obtain ⟨k0, k1, k2, k3, k4, k5, k6, k7⟩ := HP.out.below HW.out (Nat.le_refl _)
  go_enter Tryd.func46, Tryd.ntmps46
  go_wp2_with fail
  clear k0 k1 k2 k3 k4 k5 k6 k7
  generalize (w.alloc (.cells #[.int .i8 0, .slice none 0 0] 43)).alloc (.cells #[.int .i8 0, .slice none 0 0] 43) = w0 at *
  refine (leaf_calls x.f0 _).mono ?_
  rintro e w1 ⟨rfl, hB⟩
  rw [hL]
  replace K1 := Aside0.mk (blk_below K1.out hB)
  replace K2 := Aside0.mk (blk_below K2.out hB)
  replace HW := Aside0.mk (below_then HW.out HW.out.size hB)
  clear hB
  obtain ⟨k0, k1, k2, k3, k4, k5, k6, k7⟩ := HP.out.below HW.out (Nat.le_refl _)
  go_wp2_with fail
  clear k0 k1 k2 k3 k4 k5 k6 k7
  refine wp_region_held_drew (S := fun w' => w'.cell? ⟨w.heap.size, 0, none⟩ = some (.int .i8 0) ∧ w'.cell? ⟨w.heap.size, 1, none⟩ = some (.slice none 0 0) ∧ w'.cell? ⟨w.heap.size + 1, 0, none⟩ = some (.int .i8 0) ∧ w'.cell? ⟨w.heap.size + 1, 1, none⟩ = some (.slice none 0 0)) (by kernel_rfl) ⟨bcl K1.out, bcl K1.out, bcl K2.out, bcl K2.out⟩ (fun hHeld => ?_)
  have HZ := Aside0.mk ((Below.refl w1.heap.size w1).drew)
  replace HW := Aside0.mk (below_then HW.out HW.out.size HZ.out)
  generalize w1.drew = w9a at *
  refine tK 31 0 hHeld ?_
  refine tK 32 1 hHeld ?_
  replace K1 := Aside0.mk (blk_below K1.out HZ.out)
  replace K2 := Aside0.mk (blk_below K2.out HZ.out)
  clear HZ
  refine sK 2 K1.out ⟨bcl (kOwn rfl K1.out), bcl (kOwn rfl K1.out), far2 hHeld.2.2.1 (by omega), far2 hHeld.2.2.2 (by omega)⟩ fun w9b hHeld hp => ?_
  replace K2 := Aside0.mk (kFar hp K2.out (by omega))
  replace K1 := Aside0.mk (kOwn hp K1.out)
  replace HW := Aside0.mk (bFar hp HW.out (by omega))
  clear hp
  refine sK 3 K2.out ⟨far2 hHeld.1 (by omega), far2 hHeld.2.1 (by omega), bcl (kOwn rfl K2.out), bcl (kOwn rfl K2.out)⟩ fun w9c hHeld hp => ?_
  replace K1 := Aside0.mk (kFar hp K1.out (by omega))
  replace K2 := Aside0.mk (kOwn hp K2.out)
  replace HW := Aside0.mk (bFar hp HW.out (by omega))
  clear hp
  refine tK 4 4 hHeld ?_
  refine wpAnyH_done (by kernel_rfl) ?_ _
  go_wp2_with fail
  exact retK K1.out K2.out ⟨_, _, _, _, _, _, _, _, rfl, (fun _ _ h => by cases h), HW.out⟩
set_option maxRecDepth 100000 in
set_option maxHeartbeats 3200000 in
theorem ends_t1 {x : S54} {p : Addr} {w : World} (hp : Aside0 (AtC w p x)) (hLo : Aside0 (leafB x.f0 = true)) (hlen : Aside0 (x.f5.length = 0)) (hct : Aside0 (checkI x.f1 ≠ 0)) : Calls Tryd.prog 46 #[.pointer (some p)] w (EndsQ none w) := by
  obtain ⟨A2, c2, A4, c4, A7, c7, hP, hT, hU, hl7, hC⟩ := hp.out
  have hpb : p.block < w.heap.size := World.block_lt_of_cell? w _ hP.1
  have HP := Aside0.mk hP
  have HT := Aside0.mk hT
  have HU := Aside0.mk hU
  have HC := Aside0.mk hC
  clear hP hT hU hC
  obtain ⟨q1, q2, hB⟩ := two_ w (.cells #[.int .i8 0, .slice none 0 0] 43) (.cells #[.int .i8 0, .slice none 0 0] 43)
  have K1 := Aside0.mk q1
  have K2 := Aside0.mk q2
  have HW := Aside0.mk hB
  clear q1 q2 hB
  have hL := hLo.out
  have ct : (checkI x.f1 != 0) = true := bne_iff_ne.mpr hct.out
  obtain ⟨k0, k1, k2, k3, k4, k5, k6, k7⟩ := HP.out.below HW.out (Nat.le_refl _)
  rw [hlen.out] at k7
  go_enter Tryd.func46, Tryd.ntmps46
  go_wp2_with fail
  clear k0 k1 k2 k3 k4 k5 k6 k7
  generalize (w.alloc (.cells #[.int .i8 0, .slice none 0 0] 43)).alloc (.cells #[.int .i8 0, .slice none 0 0] 43) = w0 at *
  refine (leaf_calls x.f0 _).mono ?_
  rintro e w1 ⟨rfl, hB⟩
  rw [hL]
  replace K1 := Aside0.mk (blk_below K1.out hB)
  replace K2 := Aside0.mk (blk_below K2.out hB)
  replace HW := Aside0.mk (below_then HW.out HW.out.size hB)
  clear hB
  obtain ⟨k0, k1, k2, k3, k4, k5, k6, k7⟩ := HP.out.below HW.out (Nat.le_refl _)
  rw [hlen.out] at k7
  go_wp2_with fail
  clear k0 k1 k2 k3 k4 k5 k6 k7
  refine (Check_calls (HT.out.below HW.out)).mono ?_
  rintro e w2 ⟨rfl, hB⟩
  replace K1 := Aside0.mk (blk_below K1.out hB)
  replace K2 := Aside0.mk (blk_below K2.out hB)
  replace HW := Aside0.mk (below_then HW.out HW.out.size hB)
  clear hB
  obtain ⟨k0, k1, k2, k3, k4, k5, k6, k7⟩ := HP.out.below HW.out (Nat.le_refl _)
  rw [hlen.out] at k7
  go_wp2_with fail
  clear k0 k1 k2 k3 k4 k5 k6 k7
  refine wp_region_held_drew (S := fun w' => w'.cell? ⟨w.heap.size, 0, none⟩ = some (.int .i8 0) ∧ w'.cell? ⟨w.heap.size, 1, none⟩ = some (.slice none 0 0) ∧ w'.cell? ⟨w.heap.size + 1, 0, none⟩ = some (.int .i8 0) ∧ w'.cell? ⟨w.heap.size + 1, 1, none⟩ = some (.slice none 0 0)) (by kernel_rfl) ⟨bcl K1.out, bcl K1.out, bcl K2.out, bcl K2.out⟩ (fun hHeld => ?_)
  have HZ := Aside0.mk ((Below.refl w2.heap.size w2).drew)
  replace HW := Aside0.mk (below_then HW.out HW.out.size HZ.out)
  generalize w2.drew = w9a at *
  refine tK 31 0 hHeld ?_
  refine tK 32 1 hHeld ?_
  replace K1 := Aside0.mk (blk_below K1.out HZ.out)
  replace K2 := Aside0.mk (blk_below K2.out HZ.out)
  clear HZ
  refine sK 2 K1.out ⟨bcl (kOwn rfl K1.out), bcl (kOwn rfl K1.out), far2 hHeld.2.2.1 (by omega), far2 hHeld.2.2.2 (by omega)⟩ fun w9b hHeld hp => ?_
  replace K2 := Aside0.mk (kFar hp K2.out (by omega))
  replace K1 := Aside0.mk (kOwn hp K1.out)
  replace HW := Aside0.mk (bFar hp HW.out (by omega))
  clear hp
  refine sK 3 K2.out ⟨far2 hHeld.1 (by omega), far2 hHeld.2.1 (by omega), bcl (kOwn rfl K2.out), bcl (kOwn rfl K2.out)⟩ fun w9c hHeld hp => ?_
  replace K1 := Aside0.mk (kFar hp K1.out (by omega))
  replace K2 := Aside0.mk (kOwn hp K2.out)
  replace HW := Aside0.mk (bFar hp HW.out (by omega))
  clear hp
  refine tK 4 4 hHeld ?_
  refine wpAnyH_done (by kernel_rfl) ?_ _
  go_wp2_with fail
  exact retK K1.out K2.out ⟨_, _, _, _, _, _, _, _, rfl, (fun _ _ h => by cases h), HW.out⟩
set_option maxRecDepth 100000 in
set_option maxHeartbeats 3200000 in
theorem ends_0F {x : S54} {p : Addr} {w : World} (hp : Aside0 (AtC w p x)) (hk : Aside0 (x.f0 = 0)) (hlen : Aside0 (x.f5.length = 0)) (hct : Aside0 (checkI x.f1 = 0)) (hl1 : Aside0 (x.f3 < 1))  : Calls Tryd.prog 46 #[.pointer (some p)] w (EndsQ (some (x.f1, x.f1)) w) := by
  obtain ⟨A2, c2, A4, c4, A7, c7, hP, hT, hU, hl7, hC⟩ := hp.out
  have hpb : p.block < w.heap.size := World.block_lt_of_cell? w _ hP.1
  have HP := Aside0.mk hP
  have HT := Aside0.mk hT
  have HU := Aside0.mk hU
  have HC := Aside0.mk hC
  clear hP hT hU hC
  obtain ⟨q1, q2, hB⟩ := two_ w (.cells #[.int .i8 0, .slice none 0 0] 43) (.cells #[.int .i8 0, .slice none 0 0] 43)
  have K1 := Aside0.mk q1
  have K2 := Aside0.mk q2
  have HW := Aside0.mk hB
  clear q1 q2 hB
  have hL : leafB x.f0 = true := by rw [hk.out]; rfl
  have gk : (x.f0 == 0) = true := by rw [hk.out]; rfl
  have ct : (checkI x.f1 != 0) = false := bne_eq_false_iff_eq.mpr hct.out
  have hla1 : decide (1 ≤ x.f3) = false := decide_eq_false (by have := hl1.out; omega)
  obtain ⟨k0, k1, k2, k3, k4, k5, k6, k7⟩ := HP.out.below HW.out (Nat.le_refl _)
  rw [hlen.out] at k7
  go_enter Tryd.func46, Tryd.ntmps46
  go_wp2_with fail
  clear k0 k1 k2 k3 k4 k5 k6 k7
  generalize (w.alloc (.cells #[.int .i8 0, .slice none 0 0] 43)).alloc (.cells #[.int .i8 0, .slice none 0 0] 43) = w0 at *
  refine (leaf_calls x.f0 _).mono ?_
  rintro e w1 ⟨rfl, hB⟩
  rw [hL]
  replace K1 := Aside0.mk (blk_below K1.out hB)
  replace K2 := Aside0.mk (blk_below K2.out hB)
  replace HW := Aside0.mk (below_then HW.out HW.out.size hB)
  clear hB
  obtain ⟨k0, k1, k2, k3, k4, k5, k6, k7⟩ := HP.out.below HW.out (Nat.le_refl _)
  rw [hlen.out] at k7
  go_wp2_with fail
  clear k0 k1 k2 k3 k4 k5 k6 k7
  refine (Check_calls (HT.out.below HW.out)).mono ?_
  rintro e w2 ⟨rfl, hB⟩
  replace K1 := Aside0.mk (blk_below K1.out hB)
  replace K2 := Aside0.mk (blk_below K2.out hB)
  replace HW := Aside0.mk (below_then HW.out HW.out.size hB)
  clear hB
  obtain ⟨k0, k1, k2, k3, k4, k5, k6, k7⟩ := HP.out.below HW.out (Nat.le_refl _)
  rw [hlen.out] at k7
  go_wp2_with fail
  clear k0 k1 k2 k3 k4 k5 k6 k7
  refine wp_region_held_drew (S := fun w' => w'.cell? ⟨p.block, p.off + 1, none⟩ = some (.int .i8 x.f1.f0) ∧ w'.cell? ⟨p.block, p.off + 2, none⟩ = some (.slice A2 x.f1.f1.length c2)) (by kernel_rfl) ⟨(HP.out.below HW.out (Nat.le_refl _)).2.1, (HP.out.below HW.out (Nat.le_refl _)).2.2.1⟩ (fun hHeld => ?_)
  have HZ := Aside0.mk ((Below.refl w2.heap.size w2).drew)
  replace HW := Aside0.mk (below_then HW.out HW.out.size HZ.out)
  generalize w2.drew = w9 at *
  refine tK 51 0 hHeld ?_
  refine tK 52 1 hHeld ?_
  refine tK 53 2 hHeld ?_
  refine tK 54 3 hHeld ?_
  refine tK 55 4 hHeld ?_
  refine tK 56 5 hHeld ?_
  refine tK 57 6 hHeld ?_
  refine tK 58 7 hHeld ?_
  replace K1 := Aside0.mk (blk_below K1.out HZ.out)
  replace K2 := Aside0.mk (blk_below K2.out HZ.out)
  clear HZ
  refine sK 8 K1.out ⟨far2 hHeld.1 (by omega), far2 hHeld.2 (by omega)⟩ fun w20 hHeld hp => ?_
  replace K2 := Aside0.mk (kFar hp K2.out (by omega))
  replace K1 := Aside0.mk (kOwn hp K1.out)
  replace HW := Aside0.mk (bFar hp HW.out (by omega))
  clear hp
  refine sK 9 K2.out ⟨far2 hHeld.1 (by omega), far2 hHeld.2 (by omega)⟩ fun w21 hHeld hp => ?_
  replace K1 := Aside0.mk (kFar hp K1.out (by omega))
  replace K2 := Aside0.mk (kOwn hp K2.out)
  replace HW := Aside0.mk (bFar hp HW.out (by omega))
  clear hp
  refine tK 4 10 hHeld ?_
  refine wpAnyH_done (by kernel_rfl) ?_ _
  go_wp2_with fail
  exact retK K1.out K2.out ⟨_, _, _, _, _, _, _, _, rfl, (fun _ _ h => by cases h; exact ⟨HT.out.below HW.out, HT.out.below HW.out⟩), HW.out⟩
set_option maxRecDepth 100000 in
set_option maxHeartbeats 3200000 in
theorem ends_2Fa {x : S54} {p : Addr} {w : World} (hp : Aside0 (AtC w p x)) (hk : Aside0 (x.f0 = 2)) (hlen : Aside0 (x.f5.length = 0)) (hct : Aside0 (checkI x.f1 = 0)) (hl1 : Aside0 (x.f3 < 1)) (hgr : Aside0 (groundB x.f1 = true)) : Calls Tryd.prog 46 #[.pointer (some p)] w (EndsQ (some (x.f1, z43)) w) := by
  obtain ⟨A2, c2, A4, c4, A7, c7, hP, hT, hU, hl7, hC⟩ := hp.out
  have hpb : p.block < w.heap.size := World.block_lt_of_cell? w _ hP.1
  have HP := Aside0.mk hP
  have HT := Aside0.mk hT
  have HU := Aside0.mk hU
  have HC := Aside0.mk hC
  clear hP hT hU hC
  obtain ⟨q1, q2, hB⟩ := two_ w (.cells #[.int .i8 0, .slice none 0 0] 43) (.cells #[.int .i8 0, .slice none 0 0] 43)
  have K1 := Aside0.mk q1
  have K2 := Aside0.mk q2
  have HW := Aside0.mk hB
  clear q1 q2 hB
  have hL : leafB x.f0 = true := by rw [hk.out]; rfl
  have gk0 : (x.f0 == 0) = false := by rw [hk.out]; rfl
  have gk : (x.f0 == 2) = true := by rw [hk.out]; rfl
  have ct : (checkI x.f1 != 0) = false := bne_eq_false_iff_eq.mpr hct.out
  have hla1 : decide (1 ≤ x.f3) = false := decide_eq_false (by have := hl1.out; omega)
  obtain ⟨k0, k1, k2, k3, k4, k5, k6, k7⟩ := HP.out.below HW.out (Nat.le_refl _)
  rw [hlen.out] at k7
  go_enter Tryd.func46, Tryd.ntmps46
  go_wp2_with fail
  clear k0 k1 k2 k3 k4 k5 k6 k7
  generalize (w.alloc (.cells #[.int .i8 0, .slice none 0 0] 43)).alloc (.cells #[.int .i8 0, .slice none 0 0] 43) = w0 at *
  refine (leaf_calls x.f0 _).mono ?_
  rintro e w1 ⟨rfl, hB⟩
  rw [hL]
  replace K1 := Aside0.mk (blk_below K1.out hB)
  replace K2 := Aside0.mk (blk_below K2.out hB)
  replace HW := Aside0.mk (below_then HW.out HW.out.size hB)
  clear hB
  obtain ⟨k0, k1, k2, k3, k4, k5, k6, k7⟩ := HP.out.below HW.out (Nat.le_refl _)
  rw [hlen.out] at k7
  go_wp2_with fail
  clear k0 k1 k2 k3 k4 k5 k6 k7
  refine (Check_calls (HT.out.below HW.out)).mono ?_
  rintro e w2 ⟨rfl, hB⟩
  replace K1 := Aside0.mk (blk_below K1.out hB)
  replace K2 := Aside0.mk (blk_below K2.out hB)
  replace HW := Aside0.mk (below_then HW.out HW.out.size hB)
  clear hB
  obtain ⟨k0, k1, k2, k3, k4, k5, k6, k7⟩ := HP.out.below HW.out (Nat.le_refl _)
  rw [hlen.out] at k7
  go_wp2_with fail
  clear k0 k1 k2 k3 k4 k5 k6 k7
  refine wp_region_held_drew (S := fun w' => w'.cell? ⟨p.block, p.off + 1, none⟩ = some (.int .i8 x.f1.f0) ∧ w'.cell? ⟨p.block, p.off + 2, none⟩ = some (.slice A2 x.f1.f1.length c2)) (by kernel_rfl) ⟨(HP.out.below HW.out (Nat.le_refl _)).2.1, (HP.out.below HW.out (Nat.le_refl _)).2.2.1⟩ (fun hHeld => ?_)
  have HZ := Aside0.mk ((Below.refl w2.heap.size w2).drew)
  replace HW := Aside0.mk (below_then HW.out HW.out.size HZ.out)
  generalize w2.drew = w9 at *
  refine tK 61 0 hHeld ?_
  refine tK 62 1 hHeld ?_
  refine tK 63 2 hHeld ?_
  refine tK 64 3 hHeld ?_
  refine tK 65 4 hHeld ?_
  refine tK 66 5 hHeld ?_
  refine tK 67 6 hHeld ?_
  refine tK 68 7 hHeld ?_
  refine tK 69 8 hHeld ?_
  refine cK 70 9 (coGround_calls (HT.out.below HW.out)) ?_
  rintro e w10 ⟨rfl, hB⟩
  rw [hgr.out]
  replace HZ := Aside0.mk (below_then HZ.out HZ.out.size hB)
  replace HW := Aside0.mk (below_then HW.out HW.out.size hB)
  refine ⟨_, rfl, ⟨pwc hB hHeld.1, pwc hB hHeld.2⟩, fun hHeld => nA ?_⟩
  clear hB
  replace K1 := Aside0.mk (blk_below K1.out HZ.out)
  replace K2 := Aside0.mk (blk_below K2.out HZ.out)
  clear HZ
  refine sK 10 K1.out ⟨far2 hHeld.1 (by omega), far2 hHeld.2 (by omega)⟩ fun w20 hHeld hp => ?_
  replace K2 := Aside0.mk (kFar hp K2.out (by omega))
  replace K1 := Aside0.mk (kOwn hp K1.out)
  replace HW := Aside0.mk (bFar hp HW.out (by omega))
  clear hp
  refine sK 11 K2.out ⟨far2 hHeld.1 (by omega), far2 hHeld.2 (by omega)⟩ fun w21 hHeld hp => ?_
  replace K1 := Aside0.mk (kFar hp K1.out (by omega))
  replace K2 := Aside0.mk (kOwn hp K2.out)
  replace HW := Aside0.mk (bFar hp HW.out (by omega))
  clear hp
  refine tK 4 12 hHeld ?_
  refine wpAnyH_done (by kernel_rfl) ?_ _
  go_wp2_with fail
  exact retK K1.out K2.out ⟨_, _, _, _, _, _, _, _, rfl, (fun _ _ h => by cases h; exact ⟨HT.out.below HW.out, IsT.zero _⟩), HW.out⟩
set_option maxRecDepth 100000 in
set_option maxHeartbeats 3200000 in
theorem ends_2Fb {x : S54} {p : Addr} {w : World} (hp : Aside0 (AtC w p x)) (hk : Aside0 (x.f0 = 2)) (hlen : Aside0 (x.f5.length = 0)) (hct : Aside0 (checkI x.f1 = 0)) (hl1 : Aside0 (x.f3 < 1)) (hgr : Aside0 (groundB x.f1 = false)) : Calls Tryd.prog 46 #[.pointer (some p)] w (EndsQ none w) := by
  obtain ⟨A2, c2, A4, c4, A7, c7, hP, hT, hU, hl7, hC⟩ := hp.out
  have hpb : p.block < w.heap.size := World.block_lt_of_cell? w _ hP.1
  have HP := Aside0.mk hP
  have HT := Aside0.mk hT
  have HU := Aside0.mk hU
  have HC := Aside0.mk hC
  clear hP hT hU hC
  obtain ⟨q1, q2, hB⟩ := two_ w (.cells #[.int .i8 0, .slice none 0 0] 43) (.cells #[.int .i8 0, .slice none 0 0] 43)
  have K1 := Aside0.mk q1
  have K2 := Aside0.mk q2
  have HW := Aside0.mk hB
  clear q1 q2 hB
  have hL : leafB x.f0 = true := by rw [hk.out]; rfl
  have gk0 : (x.f0 == 0) = false := by rw [hk.out]; rfl
  have gk : (x.f0 == 2) = true := by rw [hk.out]; rfl
  have ct : (checkI x.f1 != 0) = false := bne_eq_false_iff_eq.mpr hct.out
  have hla1 : decide (1 ≤ x.f3) = false := decide_eq_false (by have := hl1.out; omega)
  obtain ⟨k0, k1, k2, k3, k4, k5, k6, k7⟩ := HP.out.below HW.out (Nat.le_refl _)
  rw [hlen.out] at k7
  go_enter Tryd.func46, Tryd.ntmps46
  go_wp2_with fail
  clear k0 k1 k2 k3 k4 k5 k6 k7
  generalize (w.alloc (.cells #[.int .i8 0, .slice none 0 0] 43)).alloc (.cells #[.int .i8 0, .slice none 0 0] 43) = w0 at *
  refine (leaf_calls x.f0 _).mono ?_
  rintro e w1 ⟨rfl, hB⟩
  rw [hL]
  replace K1 := Aside0.mk (blk_below K1.out hB)
  replace K2 := Aside0.mk (blk_below K2.out hB)
  replace HW := Aside0.mk (below_then HW.out HW.out.size hB)
  clear hB
  obtain ⟨k0, k1, k2, k3, k4, k5, k6, k7⟩ := HP.out.below HW.out (Nat.le_refl _)
  rw [hlen.out] at k7
  go_wp2_with fail
  clear k0 k1 k2 k3 k4 k5 k6 k7
  refine (Check_calls (HT.out.below HW.out)).mono ?_
  rintro e w2 ⟨rfl, hB⟩
  replace K1 := Aside0.mk (blk_below K1.out hB)
  replace K2 := Aside0.mk (blk_below K2.out hB)
  replace HW := Aside0.mk (below_then HW.out HW.out.size hB)
  clear hB
  obtain ⟨k0, k1, k2, k3, k4, k5, k6, k7⟩ := HP.out.below HW.out (Nat.le_refl _)
  rw [hlen.out] at k7
  go_wp2_with fail
  clear k0 k1 k2 k3 k4 k5 k6 k7
  refine wp_region_held_drew (S := fun w' => w'.cell? ⟨p.block, p.off + 1, none⟩ = some (.int .i8 x.f1.f0) ∧ w'.cell? ⟨p.block, p.off + 2, none⟩ = some (.slice A2 x.f1.f1.length c2)) (by kernel_rfl) ⟨(HP.out.below HW.out (Nat.le_refl _)).2.1, (HP.out.below HW.out (Nat.le_refl _)).2.2.1⟩ (fun hHeld => ?_)
  have HZ := Aside0.mk ((Below.refl w2.heap.size w2).drew)
  replace HW := Aside0.mk (below_then HW.out HW.out.size HZ.out)
  generalize w2.drew = w9 at *
  refine tK 61 0 hHeld ?_
  refine tK 62 1 hHeld ?_
  refine tK 63 2 hHeld ?_
  refine tK 64 3 hHeld ?_
  refine tK 65 4 hHeld ?_
  refine tK 66 5 hHeld ?_
  refine tK 67 6 hHeld ?_
  refine tK 68 7 hHeld ?_
  refine tK 69 8 hHeld ?_
  refine cK 70 9 (coGround_calls (HT.out.below HW.out)) ?_
  rintro e w10 ⟨rfl, hB⟩
  rw [hgr.out]
  replace HZ := Aside0.mk (below_then HZ.out HZ.out.size hB)
  replace HW := Aside0.mk (below_then HW.out HW.out.size hB)
  refine ⟨_, rfl, ⟨pwc hB hHeld.1, pwc hB hHeld.2⟩, fun hHeld => nA ?_⟩
  clear hB
  replace K1 := Aside0.mk (blk_below K1.out HZ.out)
  replace K2 := Aside0.mk (blk_below K2.out HZ.out)
  clear HZ
  refine sK 10 K1.out ⟨far2 hHeld.1 (by omega), far2 hHeld.2 (by omega)⟩ fun w20 hHeld hp => ?_
  replace K2 := Aside0.mk (kFar hp K2.out (by omega))
  replace K1 := Aside0.mk (kOwn hp K1.out)
  replace HW := Aside0.mk (bFar hp HW.out (by omega))
  clear hp
  refine sK 11 K2.out ⟨far2 hHeld.1 (by omega), far2 hHeld.2 (by omega)⟩ fun w21 hHeld hp => ?_
  replace K1 := Aside0.mk (kFar hp K1.out (by omega))
  replace K2 := Aside0.mk (kOwn hp K2.out)
  replace HW := Aside0.mk (bFar hp HW.out (by omega))
  clear hp
  refine tK 4 12 hHeld ?_
  refine wpAnyH_done (by kernel_rfl) ?_ _
  go_wp2_with fail
  exact retK K1.out K2.out ⟨_, _, _, _, _, _, _, _, rfl, (fun _ _ h => by cases h), HW.out⟩
set_option maxRecDepth 100000 in
set_option maxHeartbeats 3200000 in
theorem ends_3Fa {x : S54} {p : Addr} {w : World} (hp : Aside0 (AtC w p x)) (hk : Aside0 (x.f0 = 3)) (hlen : Aside0 (x.f5.length = 0)) (hct : Aside0 (checkI x.f1 = 0)) (hl1 : Aside0 (x.f3 < 1)) (hgr : Aside0 (groundB x.f1 = true)) : Calls Tryd.prog 46 #[.pointer (some p)] w (EndsQ none w) := by
  obtain ⟨A2, c2, A4, c4, A7, c7, hP, hT, hU, hl7, hC⟩ := hp.out
  have hpb : p.block < w.heap.size := World.block_lt_of_cell? w _ hP.1
  have HP := Aside0.mk hP
  have HT := Aside0.mk hT
  have HU := Aside0.mk hU
  have HC := Aside0.mk hC
  clear hP hT hU hC
  obtain ⟨q1, q2, hB⟩ := two_ w (.cells #[.int .i8 0, .slice none 0 0] 43) (.cells #[.int .i8 0, .slice none 0 0] 43)
  have K1 := Aside0.mk q1
  have K2 := Aside0.mk q2
  have HW := Aside0.mk hB
  clear q1 q2 hB
  have hL : leafB x.f0 = true := by rw [hk.out]; rfl
  have gk0 : (x.f0 == 0) = false := by rw [hk.out]; rfl
  have gk2 : (x.f0 == 2) = false := by rw [hk.out]; rfl
  have gk : (x.f0 == 3) = true := by rw [hk.out]; rfl
  have ct : (checkI x.f1 != 0) = false := bne_eq_false_iff_eq.mpr hct.out
  have hla1 : decide (1 ≤ x.f3) = false := decide_eq_false (by have := hl1.out; omega)
  obtain ⟨k0, k1, k2, k3, k4, k5, k6, k7⟩ := HP.out.below HW.out (Nat.le_refl _)
  rw [hlen.out] at k7
  go_enter Tryd.func46, Tryd.ntmps46
  go_wp2_with fail
  clear k0 k1 k2 k3 k4 k5 k6 k7
  generalize (w.alloc (.cells #[.int .i8 0, .slice none 0 0] 43)).alloc (.cells #[.int .i8 0, .slice none 0 0] 43) = w0 at *
  refine (leaf_calls x.f0 _).mono ?_
  rintro e w1 ⟨rfl, hB⟩
  rw [hL]
  replace K1 := Aside0.mk (blk_below K1.out hB)
  replace K2 := Aside0.mk (blk_below K2.out hB)
  replace HW := Aside0.mk (below_then HW.out HW.out.size hB)
  clear hB
  obtain ⟨k0, k1, k2, k3, k4, k5, k6, k7⟩ := HP.out.below HW.out (Nat.le_refl _)
  rw [hlen.out] at k7
  go_wp2_with fail
  clear k0 k1 k2 k3 k4 k5 k6 k7
  refine (Check_calls (HT.out.below HW.out)).mono ?_
  rintro e w2 ⟨rfl, hB⟩
  replace K1 := Aside0.mk (blk_below K1.out hB)
  replace K2 := Aside0.mk (blk_below K2.out hB)
  replace HW := Aside0.mk (below_then HW.out HW.out.size hB)
  clear hB
  obtain ⟨k0, k1, k2, k3, k4, k5, k6, k7⟩ := HP.out.below HW.out (Nat.le_refl _)
  rw [hlen.out] at k7
  go_wp2_with fail
  clear k0 k1 k2 k3 k4 k5 k6 k7
  refine wp_region_held_drew (S := fun w' => w'.cell? ⟨p.block, p.off + 1, none⟩ = some (.int .i8 x.f1.f0) ∧ w'.cell? ⟨p.block, p.off + 2, none⟩ = some (.slice A2 x.f1.f1.length c2)) (by kernel_rfl) ⟨(HP.out.below HW.out (Nat.le_refl _)).2.1, (HP.out.below HW.out (Nat.le_refl _)).2.2.1⟩ (fun hHeld => ?_)
  have HZ := Aside0.mk ((Below.refl w2.heap.size w2).drew)
  replace HW := Aside0.mk (below_then HW.out HW.out.size HZ.out)
  generalize w2.drew = w9 at *
  refine tK 73 0 hHeld ?_
  refine tK 74 1 hHeld ?_
  refine tK 75 2 hHeld ?_
  refine tK 76 3 hHeld ?_
  refine tK 77 4 hHeld ?_
  refine tK 78 5 hHeld ?_
  refine tK 79 6 hHeld ?_
  refine tK 80 7 hHeld ?_
  refine tK 81 8 hHeld ?_
  refine cK 82 9 (coGround_calls (HT.out.below HW.out)) ?_
  rintro e w10 ⟨rfl, hB⟩
  rw [hgr.out]
  replace HZ := Aside0.mk (below_then HZ.out HZ.out.size hB)
  replace HW := Aside0.mk (below_then HW.out HW.out.size hB)
  refine ⟨_, rfl, ⟨pwc hB hHeld.1, pwc hB hHeld.2⟩, fun hHeld => nA ?_⟩
  clear hB
  refine tK 83 10 hHeld ?_
  refine tK 84 11 hHeld ?_
  refine tK 85 12 hHeld ?_
  replace K1 := Aside0.mk (blk_below K1.out HZ.out)
  replace K2 := Aside0.mk (blk_below K2.out HZ.out)
  clear HZ
  refine sK 13 K1.out ⟨far2 hHeld.1 (by omega), far2 hHeld.2 (by omega)⟩ fun w20 hHeld hp => ?_
  replace K2 := Aside0.mk (kFar hp K2.out (by omega))
  replace K1 := Aside0.mk (kOwn hp K1.out)
  replace HW := Aside0.mk (bFar hp HW.out (by omega))
  clear hp
  refine sK 14 K2.out ⟨far2 hHeld.1 (by omega), far2 hHeld.2 (by omega)⟩ fun w21 hHeld hp => ?_
  replace K1 := Aside0.mk (kFar hp K1.out (by omega))
  replace K2 := Aside0.mk (kOwn hp K2.out)
  replace HW := Aside0.mk (bFar hp HW.out (by omega))
  clear hp
  refine tK 4 15 hHeld ?_
  refine wpAnyH_done (by kernel_rfl) ?_ _
  go_wp2_with fail
  exact retK K1.out K2.out ⟨_, _, _, _, _, _, _, _, rfl, (fun _ _ h => by cases h), HW.out⟩
set_option maxRecDepth 100000 in
set_option maxHeartbeats 3200000 in
theorem ends_3Fb {x : S54} {p : Addr} {w : World} (hp : Aside0 (AtC w p x)) (hk : Aside0 (x.f0 = 3)) (hlen : Aside0 (x.f5.length = 0)) (hct : Aside0 (checkI x.f1 = 0)) (hl1 : Aside0 (x.f3 < 1)) (hgr : Aside0 (groundB x.f1 = false)) : Calls Tryd.prog 46 #[.pointer (some p)] w (EndsQ none w) := by
  obtain ⟨A2, c2, A4, c4, A7, c7, hP, hT, hU, hl7, hC⟩ := hp.out
  have hpb : p.block < w.heap.size := World.block_lt_of_cell? w _ hP.1
  have HP := Aside0.mk hP
  have HT := Aside0.mk hT
  have HU := Aside0.mk hU
  have HC := Aside0.mk hC
  clear hP hT hU hC
  obtain ⟨q1, q2, hB⟩ := two_ w (.cells #[.int .i8 0, .slice none 0 0] 43) (.cells #[.int .i8 0, .slice none 0 0] 43)
  have K1 := Aside0.mk q1
  have K2 := Aside0.mk q2
  have HW := Aside0.mk hB
  clear q1 q2 hB
  have hL : leafB x.f0 = true := by rw [hk.out]; rfl
  have gk0 : (x.f0 == 0) = false := by rw [hk.out]; rfl
  have gk2 : (x.f0 == 2) = false := by rw [hk.out]; rfl
  have gk : (x.f0 == 3) = true := by rw [hk.out]; rfl
  have ct : (checkI x.f1 != 0) = false := bne_eq_false_iff_eq.mpr hct.out
  have hla1 : decide (1 ≤ x.f3) = false := decide_eq_false (by have := hl1.out; omega)
  obtain ⟨k0, k1, k2, k3, k4, k5, k6, k7⟩ := HP.out.below HW.out (Nat.le_refl _)
  rw [hlen.out] at k7
  go_enter Tryd.func46, Tryd.ntmps46
  go_wp2_with fail
  clear k0 k1 k2 k3 k4 k5 k6 k7
  generalize (w.alloc (.cells #[.int .i8 0, .slice none 0 0] 43)).alloc (.cells #[.int .i8 0, .slice none 0 0] 43) = w0 at *
  refine (leaf_calls x.f0 _).mono ?_
  rintro e w1 ⟨rfl, hB⟩
  rw [hL]
  replace K1 := Aside0.mk (blk_below K1.out hB)
  replace K2 := Aside0.mk (blk_below K2.out hB)
  replace HW := Aside0.mk (below_then HW.out HW.out.size hB)
  clear hB
  obtain ⟨k0, k1, k2, k3, k4, k5, k6, k7⟩ := HP.out.below HW.out (Nat.le_refl _)
  rw [hlen.out] at k7
  go_wp2_with fail
  clear k0 k1 k2 k3 k4 k5 k6 k7
  refine (Check_calls (HT.out.below HW.out)).mono ?_
  rintro e w2 ⟨rfl, hB⟩
  replace K1 := Aside0.mk (blk_below K1.out hB)
  replace K2 := Aside0.mk (blk_below K2.out hB)
  replace HW := Aside0.mk (below_then HW.out HW.out.size hB)
  clear hB
  obtain ⟨k0, k1, k2, k3, k4, k5, k6, k7⟩ := HP.out.below HW.out (Nat.le_refl _)
  rw [hlen.out] at k7
  go_wp2_with fail
  clear k0 k1 k2 k3 k4 k5 k6 k7
  refine wp_region_held_drew (S := fun w' => w'.cell? ⟨p.block, p.off + 1, none⟩ = some (.int .i8 x.f1.f0) ∧ w'.cell? ⟨p.block, p.off + 2, none⟩ = some (.slice A2 x.f1.f1.length c2)) (by kernel_rfl) ⟨(HP.out.below HW.out (Nat.le_refl _)).2.1, (HP.out.below HW.out (Nat.le_refl _)).2.2.1⟩ (fun hHeld => ?_)
  have HZ := Aside0.mk ((Below.refl w2.heap.size w2).drew)
  replace HW := Aside0.mk (below_then HW.out HW.out.size HZ.out)
  generalize w2.drew = w9 at *
  refine tK 73 0 hHeld ?_
  refine tK 74 1 hHeld ?_
  refine tK 75 2 hHeld ?_
  refine tK 76 3 hHeld ?_
  refine tK 77 4 hHeld ?_
  refine tK 78 5 hHeld ?_
  refine tK 79 6 hHeld ?_
  refine tK 80 7 hHeld ?_
  refine tK 81 8 hHeld ?_
  refine cK 82 9 (coGround_calls (HT.out.below HW.out)) ?_
  rintro e w10 ⟨rfl, hB⟩
  rw [hgr.out]
  replace HZ := Aside0.mk (below_then HZ.out HZ.out.size hB)
  replace HW := Aside0.mk (below_then HW.out HW.out.size hB)
  refine ⟨_, rfl, ⟨pwc hB hHeld.1, pwc hB hHeld.2⟩, fun hHeld => nA ?_⟩
  clear hB
  refine tK 83 10 hHeld ?_
  refine pK 84 11 hHeld ?_
  refine tK 85 12 hHeld ?_
  replace K1 := Aside0.mk (blk_below K1.out HZ.out)
  replace K2 := Aside0.mk (blk_below K2.out HZ.out)
  clear HZ
  refine sK 13 K1.out ⟨far2 hHeld.1 (by omega), far2 hHeld.2 (by omega)⟩ fun w20 hHeld hp => ?_
  replace K2 := Aside0.mk (kFar hp K2.out (by omega))
  replace K1 := Aside0.mk (kOwn hp K1.out)
  replace HW := Aside0.mk (bFar hp HW.out (by omega))
  clear hp
  refine sK 14 K2.out ⟨far2 hHeld.1 (by omega), far2 hHeld.2 (by omega)⟩ fun w21 hHeld hp => ?_
  replace K1 := Aside0.mk (kFar hp K1.out (by omega))
  replace K2 := Aside0.mk (kOwn hp K2.out)
  replace HW := Aside0.mk (bFar hp HW.out (by omega))
  clear hp
  refine tK 4 15 hHeld ?_
  refine wpAnyH_done (by kernel_rfl) ?_ _
  go_wp2_with fail
  exact retK K1.out K2.out ⟨_, _, _, _, _, _, _, _, rfl, (fun _ _ h => by cases h), HW.out⟩
set_option maxRecDepth 100000 in
set_option maxHeartbeats 3200000 in
theorem ends_1Fx {x : S54} {p : Addr} {w : World} (hp : Aside0 (AtC w p x)) (hk : Aside0 (x.f0 = 1)) (hlen : Aside0 (x.f5.length = 0)) (hct : Aside0 (checkI x.f1 = 0)) (hl1 : Aside0 (x.f3 < 1))  : Calls Tryd.prog 46 #[.pointer (some p)] w (EndsQ none w) := by
  obtain ⟨A2, c2, A4, c4, A7, c7, hP, hT, hU, hl7, hC⟩ := hp.out
  have hpb : p.block < w.heap.size := World.block_lt_of_cell? w _ hP.1
  have HP := Aside0.mk hP
  have HT := Aside0.mk hT
  have HU := Aside0.mk hU
  have HC := Aside0.mk hC
  clear hP hT hU hC
  obtain ⟨q1, q2, hB⟩ := two_ w (.cells #[.int .i8 0, .slice none 0 0] 43) (.cells #[.int .i8 0, .slice none 0 0] 43)
  have K1 := Aside0.mk q1
  have K2 := Aside0.mk q2
  have HW := Aside0.mk hB
  clear q1 q2 hB
  have hL : leafB x.f0 = true := by rw [hk.out]; rfl
  have gk0 : (x.f0 == 0) = false := by rw [hk.out]; rfl
  have gk2 : (x.f0 == 2) = false := by rw [hk.out]; rfl
  have gk3 : (x.f0 == 3) = false := by rw [hk.out]; rfl
  have ct : (checkI x.f1 != 0) = false := bne_eq_false_iff_eq.mpr hct.out
  have hla1 : decide (1 ≤ x.f3) = false := decide_eq_false (by have := hl1.out; omega)
  obtain ⟨k0, k1, k2, k3, k4, k5, k6, k7⟩ := HP.out.below HW.out (Nat.le_refl _)
  rw [hlen.out] at k7
  go_enter Tryd.func46, Tryd.ntmps46
  go_wp2_with fail
  clear k0 k1 k2 k3 k4 k5 k6 k7
  generalize (w.alloc (.cells #[.int .i8 0, .slice none 0 0] 43)).alloc (.cells #[.int .i8 0, .slice none 0 0] 43) = w0 at *
  refine (leaf_calls x.f0 _).mono ?_
  rintro e w1 ⟨rfl, hB⟩
  rw [hL]
  replace K1 := Aside0.mk (blk_below K1.out hB)
  replace K2 := Aside0.mk (blk_below K2.out hB)
  replace HW := Aside0.mk (below_then HW.out HW.out.size hB)
  clear hB
  obtain ⟨k0, k1, k2, k3, k4, k5, k6, k7⟩ := HP.out.below HW.out (Nat.le_refl _)
  rw [hlen.out] at k7
  go_wp2_with fail
  clear k0 k1 k2 k3 k4 k5 k6 k7
  refine (Check_calls (HT.out.below HW.out)).mono ?_
  rintro e w2 ⟨rfl, hB⟩
  replace K1 := Aside0.mk (blk_below K1.out hB)
  replace K2 := Aside0.mk (blk_below K2.out hB)
  replace HW := Aside0.mk (below_then HW.out HW.out.size hB)
  clear hB
  obtain ⟨k0, k1, k2, k3, k4, k5, k6, k7⟩ := HP.out.below HW.out (Nat.le_refl _)
  rw [hlen.out] at k7
  go_wp2_with fail
  clear k0 k1 k2 k3 k4 k5 k6 k7
  refine wp_region_held_drew (S := fun w' => w'.cell? ⟨p.block, p.off + 1, none⟩ = some (.int .i8 x.f1.f0) ∧ w'.cell? ⟨p.block, p.off + 2, none⟩ = some (.slice A2 x.f1.f1.length c2) ∧ w'.cell? ⟨p.block, p.off + 3, none⟩ = some (.int .i8 x.f2.f0) ∧ w'.cell? ⟨p.block, p.off + 4, none⟩ = some (.slice A4 x.f2.f1.length c4)) (by kernel_rfl) ⟨(HP.out.below HW.out (Nat.le_refl _)).2.1, (HP.out.below HW.out (Nat.le_refl _)).2.2.1, (HP.out.below HW.out (Nat.le_refl _)).2.2.2.1, (HP.out.below HW.out (Nat.le_refl _)).2.2.2.2.1⟩ (fun hHeld => ?_)
  have HZ := Aside0.mk ((Below.refl w2.heap.size w2).drew)
  replace HW := Aside0.mk (below_then HW.out HW.out.size HZ.out)
  generalize w2.drew = w9 at *
  refine tK 86 0 hHeld ?_
  refine tK 87 1 hHeld ?_
  refine tK 88 2 hHeld ?_
  refine tK 89 3 hHeld ?_
  refine tK 90 4 hHeld ?_
  refine tK 91 5 hHeld ?_
  refine tK 92 6 hHeld ?_
  refine tK 93 7 hHeld ?_
  refine tK 94 8 hHeld ?_
  refine tK 95 9 hHeld ?_
  refine pK 96 10 hHeld ?_
  refine pK 97 11 hHeld ?_
  refine pK 98 12 hHeld ?_
  refine pK 99 13 hHeld ?_
  refine pK 100 14 hHeld ?_
  refine pK 101 15 hHeld ?_
  refine tK 102 16 hHeld ?_
  refine tK 103 17 hHeld ?_
  refine pK 104 18 hHeld ?_
  refine pK 105 19 hHeld ?_
  refine pK 106 20 hHeld ?_
  refine pK 107 21 hHeld ?_
  refine pK 108 22 hHeld ?_
  refine pK 109 23 hHeld ?_
  refine tK 110 24 hHeld ?_
  replace K1 := Aside0.mk (blk_below K1.out HZ.out)
  replace K2 := Aside0.mk (blk_below K2.out HZ.out)
  clear HZ
  refine sK 25 K1.out ⟨far2 hHeld.1 (by omega), far2 hHeld.2.1 (by omega), far2 hHeld.2.2.1 (by omega), far2 hHeld.2.2.2 (by omega)⟩ fun w20 hHeld hp => ?_
  replace K2 := Aside0.mk (kFar hp K2.out (by omega))
  replace K1 := Aside0.mk (kOwn hp K1.out)
  replace HW := Aside0.mk (bFar hp HW.out (by omega))
  clear hp
  refine sK 26 K2.out ⟨far2 hHeld.1 (by omega), far2 hHeld.2.1 (by omega), far2 hHeld.2.2.1 (by omega), far2 hHeld.2.2.2 (by omega)⟩ fun w21 hHeld hp => ?_
  replace K1 := Aside0.mk (kFar hp K1.out (by omega))
  replace K2 := Aside0.mk (kOwn hp K2.out)
  replace HW := Aside0.mk (bFar hp HW.out (by omega))
  clear hp
  refine tK 4 27 hHeld ?_
  refine wpAnyH_done (by kernel_rfl) ?_ _
  go_wp2_with fail
  exact retK K1.out K2.out ⟨_, _, _, _, _, _, _, _, rfl, (fun _ _ h => by cases h), HW.out⟩
end Go.Proofs.YtjmpejbciniceaaDoor.X
namespace Go.Proofs.YtjmpejbciniceaaDoor.X
open Go.RowKit Go.Proofs.YtjmpejbciniceaaDoorW.PrintWords Go.Proofs.YtjmpejbciniceaaDoorW.PrintLast Go.Proofs.YtjmpejbciniceaaDoorW.PrintMore
set_option linter.unusedVariables false
set_option linter.unusedSimpArgs false
set_option maxRecDepth 100000 in
set_option maxHeartbeats 3200000 in
theorem ends_0M {x : S54} {p : Addr} {w : World} (hp : Aside0 (AtC w p x)) (hk : Aside0 (x.f0 = 0)) (hlen : Aside0 (x.f5.length = 0)) (hct : Aside0 (checkI x.f1 = 0)) (hl1 : Aside0 (¬ x.f3 < 1)) (hl2o : Aside0 (2147483648 < x.f3))  : Calls Tryd.prog 46 #[.pointer (some p)] w (EndsQ (some (x.f1, x.f1)) w) := by
  obtain ⟨A2, c2, A4, c4, A7, c7, hP, hT, hU, hl7, hC⟩ := hp.out
  have hpb : p.block < w.heap.size := World.block_lt_of_cell? w _ hP.1
  have HP := Aside0.mk hP
  have HT := Aside0.mk hT
  have HU := Aside0.mk hU
  have HC := Aside0.mk hC
  clear hP hT hU hC
  obtain ⟨q1, q2, hB⟩ := two_ w (.cells #[.int .i8 0, .slice none 0 0] 43) (.cells #[.int .i8 0, .slice none 0 0] 43)
  have K1 := Aside0.mk q1
  have K2 := Aside0.mk q2
  have HW := Aside0.mk hB
  clear q1 q2 hB
  have hL : leafB x.f0 = true := by rw [hk.out]; rfl
  have gk : (x.f0 == 0) = true := by rw [hk.out]; rfl
  have ct : (checkI x.f1 != 0) = false := bne_eq_false_iff_eq.mpr hct.out
  have hla1 : decide (1 ≤ x.f3) = true := decide_eq_true (by have := hl1.out; omega)
  have hla2 : decide (x.f3 ≤ 2147483648) = false := decide_eq_false (by have := hl2o.out; omega)
  obtain ⟨k0, k1, k2, k3, k4, k5, k6, k7⟩ := HP.out.below HW.out (Nat.le_refl _)
  rw [hlen.out] at k7
  go_enter Tryd.func46, Tryd.ntmps46
  go_wp2_with fail
  clear k0 k1 k2 k3 k4 k5 k6 k7
  generalize (w.alloc (.cells #[.int .i8 0, .slice none 0 0] 43)).alloc (.cells #[.int .i8 0, .slice none 0 0] 43) = w0 at *
  refine (leaf_calls x.f0 _).mono ?_
  rintro e w1 ⟨rfl, hB⟩
  rw [hL]
  replace K1 := Aside0.mk (blk_below K1.out hB)
  replace K2 := Aside0.mk (blk_below K2.out hB)
  replace HW := Aside0.mk (below_then HW.out HW.out.size hB)
  clear hB
  obtain ⟨k0, k1, k2, k3, k4, k5, k6, k7⟩ := HP.out.below HW.out (Nat.le_refl _)
  rw [hlen.out] at k7
  go_wp2_with fail
  clear k0 k1 k2 k3 k4 k5 k6 k7
  refine (Check_calls (HT.out.below HW.out)).mono ?_
  rintro e w2 ⟨rfl, hB⟩
  replace K1 := Aside0.mk (blk_below K1.out hB)
  replace K2 := Aside0.mk (blk_below K2.out hB)
  replace HW := Aside0.mk (below_then HW.out HW.out.size hB)
  clear hB
  obtain ⟨k0, k1, k2, k3, k4, k5, k6, k7⟩ := HP.out.below HW.out (Nat.le_refl _)
  rw [hlen.out] at k7
  go_wp2_with fail
  clear k0 k1 k2 k3 k4 k5 k6 k7
  refine wp_region_held_drew (S := fun w' => w'.cell? ⟨p.block, p.off + 1, none⟩ = some (.int .i8 x.f1.f0) ∧ w'.cell? ⟨p.block, p.off + 2, none⟩ = some (.slice A2 x.f1.f1.length c2)) (by kernel_rfl) ⟨(HP.out.below HW.out (Nat.le_refl _)).2.1, (HP.out.below HW.out (Nat.le_refl _)).2.2.1⟩ (fun hHeld => ?_)
  have HZ := Aside0.mk ((Below.refl w2.heap.size w2).drew)
  replace HW := Aside0.mk (below_then HW.out HW.out.size HZ.out)
  generalize w2.drew = w9 at *
  refine tK 51 0 hHeld ?_
  refine tK 52 1 hHeld ?_
  refine tK 53 2 hHeld ?_
  refine tK 54 3 hHeld ?_
  refine tK 55 4 hHeld ?_
  refine tK 56 5 hHeld ?_
  refine tK 57 6 hHeld ?_
  refine tK 58 7 hHeld ?_
  replace K1 := Aside0.mk (blk_below K1.out HZ.out)
  replace K2 := Aside0.mk (blk_below K2.out HZ.out)
  clear HZ
  refine sK 8 K1.out ⟨far2 hHeld.1 (by omega), far2 hHeld.2 (by omega)⟩ fun w20 hHeld hp => ?_
  replace K2 := Aside0.mk (kFar hp K2.out (by omega))
  replace K1 := Aside0.mk (kOwn hp K1.out)
  replace HW := Aside0.mk (bFar hp HW.out (by omega))
  clear hp
  refine sK 9 K2.out ⟨far2 hHeld.1 (by omega), far2 hHeld.2 (by omega)⟩ fun w21 hHeld hp => ?_
  replace K1 := Aside0.mk (kFar hp K1.out (by omega))
  replace K2 := Aside0.mk (kOwn hp K2.out)
  replace HW := Aside0.mk (bFar hp HW.out (by omega))
  clear hp
  refine tK 4 10 hHeld ?_
  refine wpAnyH_done (by kernel_rfl) ?_ _
  go_wp2_with fail
  exact retK K1.out K2.out ⟨_, _, _, _, _, _, _, _, rfl, (fun _ _ h => by cases h; exact ⟨HT.out.below HW.out, HT.out.below HW.out⟩), HW.out⟩
set_option maxRecDepth 100000 in
set_option maxHeartbeats 3200000 in
theorem ends_2Ma {x : S54} {p : Addr} {w : World} (hp : Aside0 (AtC w p x)) (hk : Aside0 (x.f0 = 2)) (hlen : Aside0 (x.f5.length = 0)) (hct : Aside0 (checkI x.f1 = 0)) (hl1 : Aside0 (¬ x.f3 < 1)) (hl2o : Aside0 (2147483648 < x.f3)) (hgr : Aside0 (groundB x.f1 = true)) : Calls Tryd.prog 46 #[.pointer (some p)] w (EndsQ (some (x.f1, z43)) w) := by
  obtain ⟨A2, c2, A4, c4, A7, c7, hP, hT, hU, hl7, hC⟩ := hp.out
  have hpb : p.block < w.heap.size := World.block_lt_of_cell? w _ hP.1
  have HP := Aside0.mk hP
  have HT := Aside0.mk hT
  have HU := Aside0.mk hU
  have HC := Aside0.mk hC
  clear hP hT hU hC
  obtain ⟨q1, q2, hB⟩ := two_ w (.cells #[.int .i8 0, .slice none 0 0] 43) (.cells #[.int .i8 0, .slice none 0 0] 43)
  have K1 := Aside0.mk q1
  have K2 := Aside0.mk q2
  have HW := Aside0.mk hB
  clear q1 q2 hB
  have hL : leafB x.f0 = true := by rw [hk.out]; rfl
  have gk0 : (x.f0 == 0) = false := by rw [hk.out]; rfl
  have gk : (x.f0 == 2) = true := by rw [hk.out]; rfl
  have ct : (checkI x.f1 != 0) = false := bne_eq_false_iff_eq.mpr hct.out
  have hla1 : decide (1 ≤ x.f3) = true := decide_eq_true (by have := hl1.out; omega)
  have hla2 : decide (x.f3 ≤ 2147483648) = false := decide_eq_false (by have := hl2o.out; omega)
  obtain ⟨k0, k1, k2, k3, k4, k5, k6, k7⟩ := HP.out.below HW.out (Nat.le_refl _)
  rw [hlen.out] at k7
  go_enter Tryd.func46, Tryd.ntmps46
  go_wp2_with fail
  clear k0 k1 k2 k3 k4 k5 k6 k7
  generalize (w.alloc (.cells #[.int .i8 0, .slice none 0 0] 43)).alloc (.cells #[.int .i8 0, .slice none 0 0] 43) = w0 at *
  refine (leaf_calls x.f0 _).mono ?_
  rintro e w1 ⟨rfl, hB⟩
  rw [hL]
  replace K1 := Aside0.mk (blk_below K1.out hB)
  replace K2 := Aside0.mk (blk_below K2.out hB)
  replace HW := Aside0.mk (below_then HW.out HW.out.size hB)
  clear hB
  obtain ⟨k0, k1, k2, k3, k4, k5, k6, k7⟩ := HP.out.below HW.out (Nat.le_refl _)
  rw [hlen.out] at k7
  go_wp2_with fail
  clear k0 k1 k2 k3 k4 k5 k6 k7
  refine (Check_calls (HT.out.below HW.out)).mono ?_
  rintro e w2 ⟨rfl, hB⟩
  replace K1 := Aside0.mk (blk_below K1.out hB)
  replace K2 := Aside0.mk (blk_below K2.out hB)
  replace HW := Aside0.mk (below_then HW.out HW.out.size hB)
  clear hB
  obtain ⟨k0, k1, k2, k3, k4, k5, k6, k7⟩ := HP.out.below HW.out (Nat.le_refl _)
  rw [hlen.out] at k7
  go_wp2_with fail
  clear k0 k1 k2 k3 k4 k5 k6 k7
  refine wp_region_held_drew (S := fun w' => w'.cell? ⟨p.block, p.off + 1, none⟩ = some (.int .i8 x.f1.f0) ∧ w'.cell? ⟨p.block, p.off + 2, none⟩ = some (.slice A2 x.f1.f1.length c2)) (by kernel_rfl) ⟨(HP.out.below HW.out (Nat.le_refl _)).2.1, (HP.out.below HW.out (Nat.le_refl _)).2.2.1⟩ (fun hHeld => ?_)
  have HZ := Aside0.mk ((Below.refl w2.heap.size w2).drew)
  replace HW := Aside0.mk (below_then HW.out HW.out.size HZ.out)
  generalize w2.drew = w9 at *
  refine tK 61 0 hHeld ?_
  refine tK 62 1 hHeld ?_
  refine tK 63 2 hHeld ?_
  refine tK 64 3 hHeld ?_
  refine tK 65 4 hHeld ?_
  refine tK 66 5 hHeld ?_
  refine tK 67 6 hHeld ?_
  refine tK 68 7 hHeld ?_
  refine tK 69 8 hHeld ?_
  refine cK 70 9 (coGround_calls (HT.out.below HW.out)) ?_
  rintro e w10 ⟨rfl, hB⟩
  rw [hgr.out]
  replace HZ := Aside0.mk (below_then HZ.out HZ.out.size hB)
  replace HW := Aside0.mk (below_then HW.out HW.out.size hB)
  refine ⟨_, rfl, ⟨pwc hB hHeld.1, pwc hB hHeld.2⟩, fun hHeld => nA ?_⟩
  clear hB
  replace K1 := Aside0.mk (blk_below K1.out HZ.out)
  replace K2 := Aside0.mk (blk_below K2.out HZ.out)
  clear HZ
  refine sK 10 K1.out ⟨far2 hHeld.1 (by omega), far2 hHeld.2 (by omega)⟩ fun w20 hHeld hp => ?_
  replace K2 := Aside0.mk (kFar hp K2.out (by omega))
  replace K1 := Aside0.mk (kOwn hp K1.out)
  replace HW := Aside0.mk (bFar hp HW.out (by omega))
  clear hp
  refine sK 11 K2.out ⟨far2 hHeld.1 (by omega), far2 hHeld.2 (by omega)⟩ fun w21 hHeld hp => ?_
  replace K1 := Aside0.mk (kFar hp K1.out (by omega))
  replace K2 := Aside0.mk (kOwn hp K2.out)
  replace HW := Aside0.mk (bFar hp HW.out (by omega))
  clear hp
  refine tK 4 12 hHeld ?_
  refine wpAnyH_done (by kernel_rfl) ?_ _
  go_wp2_with fail
  exact retK K1.out K2.out ⟨_, _, _, _, _, _, _, _, rfl, (fun _ _ h => by cases h; exact ⟨HT.out.below HW.out, IsT.zero _⟩), HW.out⟩
set_option maxRecDepth 100000 in
set_option maxHeartbeats 3200000 in
theorem ends_2Mb {x : S54} {p : Addr} {w : World} (hp : Aside0 (AtC w p x)) (hk : Aside0 (x.f0 = 2)) (hlen : Aside0 (x.f5.length = 0)) (hct : Aside0 (checkI x.f1 = 0)) (hl1 : Aside0 (¬ x.f3 < 1)) (hl2o : Aside0 (2147483648 < x.f3)) (hgr : Aside0 (groundB x.f1 = false)) : Calls Tryd.prog 46 #[.pointer (some p)] w (EndsQ none w) := by
  obtain ⟨A2, c2, A4, c4, A7, c7, hP, hT, hU, hl7, hC⟩ := hp.out
  have hpb : p.block < w.heap.size := World.block_lt_of_cell? w _ hP.1
  have HP := Aside0.mk hP
  have HT := Aside0.mk hT
  have HU := Aside0.mk hU
  have HC := Aside0.mk hC
  clear hP hT hU hC
  obtain ⟨q1, q2, hB⟩ := two_ w (.cells #[.int .i8 0, .slice none 0 0] 43) (.cells #[.int .i8 0, .slice none 0 0] 43)
  have K1 := Aside0.mk q1
  have K2 := Aside0.mk q2
  have HW := Aside0.mk hB
  clear q1 q2 hB
  have hL : leafB x.f0 = true := by rw [hk.out]; rfl
  have gk0 : (x.f0 == 0) = false := by rw [hk.out]; rfl
  have gk : (x.f0 == 2) = true := by rw [hk.out]; rfl
  have ct : (checkI x.f1 != 0) = false := bne_eq_false_iff_eq.mpr hct.out
  have hla1 : decide (1 ≤ x.f3) = true := decide_eq_true (by have := hl1.out; omega)
  have hla2 : decide (x.f3 ≤ 2147483648) = false := decide_eq_false (by have := hl2o.out; omega)
  obtain ⟨k0, k1, k2, k3, k4, k5, k6, k7⟩ := HP.out.below HW.out (Nat.le_refl _)
  rw [hlen.out] at k7
  go_enter Tryd.func46, Tryd.ntmps46
  go_wp2_with fail
  clear k0 k1 k2 k3 k4 k5 k6 k7
  generalize (w.alloc (.cells #[.int .i8 0, .slice none 0 0] 43)).alloc (.cells #[.int .i8 0, .slice none 0 0] 43) = w0 at *
  refine (leaf_calls x.f0 _).mono ?_
  rintro e w1 ⟨rfl, hB⟩
  rw [hL]
  replace K1 := Aside0.mk (blk_below K1.out hB)
  replace K2 := Aside0.mk (blk_below K2.out hB)
  replace HW := Aside0.mk (below_then HW.out HW.out.size hB)
  clear hB
  obtain ⟨k0, k1, k2, k3, k4, k5, k6, k7⟩ := HP.out.below HW.out (Nat.le_refl _)
  rw [hlen.out] at k7
  go_wp2_with fail
  clear k0 k1 k2 k3 k4 k5 k6 k7
  refine (Check_calls (HT.out.below HW.out)).mono ?_
  rintro e w2 ⟨rfl, hB⟩
  replace K1 := Aside0.mk (blk_below K1.out hB)
  replace K2 := Aside0.mk (blk_below K2.out hB)
  replace HW := Aside0.mk (below_then HW.out HW.out.size hB)
  clear hB
  obtain ⟨k0, k1, k2, k3, k4, k5, k6, k7⟩ := HP.out.below HW.out (Nat.le_refl _)
  rw [hlen.out] at k7
  go_wp2_with fail
  clear k0 k1 k2 k3 k4 k5 k6 k7
  refine wp_region_held_drew (S := fun w' => w'.cell? ⟨p.block, p.off + 1, none⟩ = some (.int .i8 x.f1.f0) ∧ w'.cell? ⟨p.block, p.off + 2, none⟩ = some (.slice A2 x.f1.f1.length c2)) (by kernel_rfl) ⟨(HP.out.below HW.out (Nat.le_refl _)).2.1, (HP.out.below HW.out (Nat.le_refl _)).2.2.1⟩ (fun hHeld => ?_)
  have HZ := Aside0.mk ((Below.refl w2.heap.size w2).drew)
  replace HW := Aside0.mk (below_then HW.out HW.out.size HZ.out)
  generalize w2.drew = w9 at *
  refine tK 61 0 hHeld ?_
  refine tK 62 1 hHeld ?_
  refine tK 63 2 hHeld ?_
  refine tK 64 3 hHeld ?_
  refine tK 65 4 hHeld ?_
  refine tK 66 5 hHeld ?_
  refine tK 67 6 hHeld ?_
  refine tK 68 7 hHeld ?_
  refine tK 69 8 hHeld ?_
  refine cK 70 9 (coGround_calls (HT.out.below HW.out)) ?_
  rintro e w10 ⟨rfl, hB⟩
  rw [hgr.out]
  replace HZ := Aside0.mk (below_then HZ.out HZ.out.size hB)
  replace HW := Aside0.mk (below_then HW.out HW.out.size hB)
  refine ⟨_, rfl, ⟨pwc hB hHeld.1, pwc hB hHeld.2⟩, fun hHeld => nA ?_⟩
  clear hB
  replace K1 := Aside0.mk (blk_below K1.out HZ.out)
  replace K2 := Aside0.mk (blk_below K2.out HZ.out)
  clear HZ
  refine sK 10 K1.out ⟨far2 hHeld.1 (by omega), far2 hHeld.2 (by omega)⟩ fun w20 hHeld hp => ?_
  replace K2 := Aside0.mk (kFar hp K2.out (by omega))
  replace K1 := Aside0.mk (kOwn hp K1.out)
  replace HW := Aside0.mk (bFar hp HW.out (by omega))
  clear hp
  refine sK 11 K2.out ⟨far2 hHeld.1 (by omega), far2 hHeld.2 (by omega)⟩ fun w21 hHeld hp => ?_
  replace K1 := Aside0.mk (kFar hp K1.out (by omega))
  replace K2 := Aside0.mk (kOwn hp K2.out)
  replace HW := Aside0.mk (bFar hp HW.out (by omega))
  clear hp
  refine tK 4 12 hHeld ?_
  refine wpAnyH_done (by kernel_rfl) ?_ _
  go_wp2_with fail
  exact retK K1.out K2.out ⟨_, _, _, _, _, _, _, _, rfl, (fun _ _ h => by cases h), HW.out⟩
set_option maxRecDepth 100000 in
set_option maxHeartbeats 3200000 in
theorem ends_3Ma {x : S54} {p : Addr} {w : World} (hp : Aside0 (AtC w p x)) (hk : Aside0 (x.f0 = 3)) (hlen : Aside0 (x.f5.length = 0)) (hct : Aside0 (checkI x.f1 = 0)) (hl1 : Aside0 (¬ x.f3 < 1)) (hl2o : Aside0 (2147483648 < x.f3)) (hgr : Aside0 (groundB x.f1 = true)) : Calls Tryd.prog 46 #[.pointer (some p)] w (EndsQ none w) := by
  obtain ⟨A2, c2, A4, c4, A7, c7, hP, hT, hU, hl7, hC⟩ := hp.out
  have hpb : p.block < w.heap.size := World.block_lt_of_cell? w _ hP.1
  have HP := Aside0.mk hP
  have HT := Aside0.mk hT
  have HU := Aside0.mk hU
  have HC := Aside0.mk hC
  clear hP hT hU hC
  obtain ⟨q1, q2, hB⟩ := two_ w (.cells #[.int .i8 0, .slice none 0 0] 43) (.cells #[.int .i8 0, .slice none 0 0] 43)
  have K1 := Aside0.mk q1
  have K2 := Aside0.mk q2
  have HW := Aside0.mk hB
  clear q1 q2 hB
  have hL : leafB x.f0 = true := by rw [hk.out]; rfl
  have gk0 : (x.f0 == 0) = false := by rw [hk.out]; rfl
  have gk2 : (x.f0 == 2) = false := by rw [hk.out]; rfl
  have gk : (x.f0 == 3) = true := by rw [hk.out]; rfl
  have ct : (checkI x.f1 != 0) = false := bne_eq_false_iff_eq.mpr hct.out
  have hla1 : decide (1 ≤ x.f3) = true := decide_eq_true (by have := hl1.out; omega)
  have hla2 : decide (x.f3 ≤ 2147483648) = false := decide_eq_false (by have := hl2o.out; omega)
  obtain ⟨k0, k1, k2, k3, k4, k5, k6, k7⟩ := HP.out.below HW.out (Nat.le_refl _)
  rw [hlen.out] at k7
  go_enter Tryd.func46, Tryd.ntmps46
  go_wp2_with fail
  clear k0 k1 k2 k3 k4 k5 k6 k7
  generalize (w.alloc (.cells #[.int .i8 0, .slice none 0 0] 43)).alloc (.cells #[.int .i8 0, .slice none 0 0] 43) = w0 at *
  refine (leaf_calls x.f0 _).mono ?_
  rintro e w1 ⟨rfl, hB⟩
  rw [hL]
  replace K1 := Aside0.mk (blk_below K1.out hB)
  replace K2 := Aside0.mk (blk_below K2.out hB)
  replace HW := Aside0.mk (below_then HW.out HW.out.size hB)
  clear hB
  obtain ⟨k0, k1, k2, k3, k4, k5, k6, k7⟩ := HP.out.below HW.out (Nat.le_refl _)
  rw [hlen.out] at k7
  go_wp2_with fail
  clear k0 k1 k2 k3 k4 k5 k6 k7
  refine (Check_calls (HT.out.below HW.out)).mono ?_
  rintro e w2 ⟨rfl, hB⟩
  replace K1 := Aside0.mk (blk_below K1.out hB)
  replace K2 := Aside0.mk (blk_below K2.out hB)
  replace HW := Aside0.mk (below_then HW.out HW.out.size hB)
  clear hB
  obtain ⟨k0, k1, k2, k3, k4, k5, k6, k7⟩ := HP.out.below HW.out (Nat.le_refl _)
  rw [hlen.out] at k7
  go_wp2_with fail
  clear k0 k1 k2 k3 k4 k5 k6 k7
  refine wp_region_held_drew (S := fun w' => w'.cell? ⟨p.block, p.off + 1, none⟩ = some (.int .i8 x.f1.f0) ∧ w'.cell? ⟨p.block, p.off + 2, none⟩ = some (.slice A2 x.f1.f1.length c2)) (by kernel_rfl) ⟨(HP.out.below HW.out (Nat.le_refl _)).2.1, (HP.out.below HW.out (Nat.le_refl _)).2.2.1⟩ (fun hHeld => ?_)
  have HZ := Aside0.mk ((Below.refl w2.heap.size w2).drew)
  replace HW := Aside0.mk (below_then HW.out HW.out.size HZ.out)
  generalize w2.drew = w9 at *
  refine tK 73 0 hHeld ?_
  refine tK 74 1 hHeld ?_
  refine tK 75 2 hHeld ?_
  refine tK 76 3 hHeld ?_
  refine tK 77 4 hHeld ?_
  refine tK 78 5 hHeld ?_
  refine tK 79 6 hHeld ?_
  refine tK 80 7 hHeld ?_
  refine tK 81 8 hHeld ?_
  refine cK 82 9 (coGround_calls (HT.out.below HW.out)) ?_
  rintro e w10 ⟨rfl, hB⟩
  rw [hgr.out]
  replace HZ := Aside0.mk (below_then HZ.out HZ.out.size hB)
  replace HW := Aside0.mk (below_then HW.out HW.out.size hB)
  refine ⟨_, rfl, ⟨pwc hB hHeld.1, pwc hB hHeld.2⟩, fun hHeld => nA ?_⟩
  clear hB
  refine tK 83 10 hHeld ?_
  refine tK 84 11 hHeld ?_
  refine tK 85 12 hHeld ?_
  replace K1 := Aside0.mk (blk_below K1.out HZ.out)
  replace K2 := Aside0.mk (blk_below K2.out HZ.out)
  clear HZ
  refine sK 13 K1.out ⟨far2 hHeld.1 (by omega), far2 hHeld.2 (by omega)⟩ fun w20 hHeld hp => ?_
  replace K2 := Aside0.mk (kFar hp K2.out (by omega))
  replace K1 := Aside0.mk (kOwn hp K1.out)
  replace HW := Aside0.mk (bFar hp HW.out (by omega))
  clear hp
  refine sK 14 K2.out ⟨far2 hHeld.1 (by omega), far2 hHeld.2 (by omega)⟩ fun w21 hHeld hp => ?_
  replace K1 := Aside0.mk (kFar hp K1.out (by omega))
  replace K2 := Aside0.mk (kOwn hp K2.out)
  replace HW := Aside0.mk (bFar hp HW.out (by omega))
  clear hp
  refine tK 4 15 hHeld ?_
  refine wpAnyH_done (by kernel_rfl) ?_ _
  go_wp2_with fail
  exact retK K1.out K2.out ⟨_, _, _, _, _, _, _, _, rfl, (fun _ _ h => by cases h), HW.out⟩
set_option maxRecDepth 100000 in
set_option maxHeartbeats 3200000 in
theorem ends_3Mb {x : S54} {p : Addr} {w : World} (hp : Aside0 (AtC w p x)) (hk : Aside0 (x.f0 = 3)) (hlen : Aside0 (x.f5.length = 0)) (hct : Aside0 (checkI x.f1 = 0)) (hl1 : Aside0 (¬ x.f3 < 1)) (hl2o : Aside0 (2147483648 < x.f3)) (hgr : Aside0 (groundB x.f1 = false)) : Calls Tryd.prog 46 #[.pointer (some p)] w (EndsQ none w) := by
  obtain ⟨A2, c2, A4, c4, A7, c7, hP, hT, hU, hl7, hC⟩ := hp.out
  have hpb : p.block < w.heap.size := World.block_lt_of_cell? w _ hP.1
  have HP := Aside0.mk hP
  have HT := Aside0.mk hT
  have HU := Aside0.mk hU
  have HC := Aside0.mk hC
  clear hP hT hU hC
  obtain ⟨q1, q2, hB⟩ := two_ w (.cells #[.int .i8 0, .slice none 0 0] 43) (.cells #[.int .i8 0, .slice none 0 0] 43)
  have K1 := Aside0.mk q1
  have K2 := Aside0.mk q2
  have HW := Aside0.mk hB
  clear q1 q2 hB
  have hL : leafB x.f0 = true := by rw [hk.out]; rfl
  have gk0 : (x.f0 == 0) = false := by rw [hk.out]; rfl
  have gk2 : (x.f0 == 2) = false := by rw [hk.out]; rfl
  have gk : (x.f0 == 3) = true := by rw [hk.out]; rfl
  have ct : (checkI x.f1 != 0) = false := bne_eq_false_iff_eq.mpr hct.out
  have hla1 : decide (1 ≤ x.f3) = true := decide_eq_true (by have := hl1.out; omega)
  have hla2 : decide (x.f3 ≤ 2147483648) = false := decide_eq_false (by have := hl2o.out; omega)
  obtain ⟨k0, k1, k2, k3, k4, k5, k6, k7⟩ := HP.out.below HW.out (Nat.le_refl _)
  rw [hlen.out] at k7
  go_enter Tryd.func46, Tryd.ntmps46
  go_wp2_with fail
  clear k0 k1 k2 k3 k4 k5 k6 k7
  generalize (w.alloc (.cells #[.int .i8 0, .slice none 0 0] 43)).alloc (.cells #[.int .i8 0, .slice none 0 0] 43) = w0 at *
  refine (leaf_calls x.f0 _).mono ?_
  rintro e w1 ⟨rfl, hB⟩
  rw [hL]
  replace K1 := Aside0.mk (blk_below K1.out hB)
  replace K2 := Aside0.mk (blk_below K2.out hB)
  replace HW := Aside0.mk (below_then HW.out HW.out.size hB)
  clear hB
  obtain ⟨k0, k1, k2, k3, k4, k5, k6, k7⟩ := HP.out.below HW.out (Nat.le_refl _)
  rw [hlen.out] at k7
  go_wp2_with fail
  clear k0 k1 k2 k3 k4 k5 k6 k7
  refine (Check_calls (HT.out.below HW.out)).mono ?_
  rintro e w2 ⟨rfl, hB⟩
  replace K1 := Aside0.mk (blk_below K1.out hB)
  replace K2 := Aside0.mk (blk_below K2.out hB)
  replace HW := Aside0.mk (below_then HW.out HW.out.size hB)
  clear hB
  obtain ⟨k0, k1, k2, k3, k4, k5, k6, k7⟩ := HP.out.below HW.out (Nat.le_refl _)
  rw [hlen.out] at k7
  go_wp2_with fail
  clear k0 k1 k2 k3 k4 k5 k6 k7
  refine wp_region_held_drew (S := fun w' => w'.cell? ⟨p.block, p.off + 1, none⟩ = some (.int .i8 x.f1.f0) ∧ w'.cell? ⟨p.block, p.off + 2, none⟩ = some (.slice A2 x.f1.f1.length c2)) (by kernel_rfl) ⟨(HP.out.below HW.out (Nat.le_refl _)).2.1, (HP.out.below HW.out (Nat.le_refl _)).2.2.1⟩ (fun hHeld => ?_)
  have HZ := Aside0.mk ((Below.refl w2.heap.size w2).drew)
  replace HW := Aside0.mk (below_then HW.out HW.out.size HZ.out)
  generalize w2.drew = w9 at *
  refine tK 73 0 hHeld ?_
  refine tK 74 1 hHeld ?_
  refine tK 75 2 hHeld ?_
  refine tK 76 3 hHeld ?_
  refine tK 77 4 hHeld ?_
  refine tK 78 5 hHeld ?_
  refine tK 79 6 hHeld ?_
  refine tK 80 7 hHeld ?_
  refine tK 81 8 hHeld ?_
  refine cK 82 9 (coGround_calls (HT.out.below HW.out)) ?_
  rintro e w10 ⟨rfl, hB⟩
  rw [hgr.out]
  replace HZ := Aside0.mk (below_then HZ.out HZ.out.size hB)
  replace HW := Aside0.mk (below_then HW.out HW.out.size hB)
  refine ⟨_, rfl, ⟨pwc hB hHeld.1, pwc hB hHeld.2⟩, fun hHeld => nA ?_⟩
  clear hB
  refine tK 83 10 hHeld ?_
  refine pK 84 11 hHeld ?_
  refine tK 85 12 hHeld ?_
  replace K1 := Aside0.mk (blk_below K1.out HZ.out)
  replace K2 := Aside0.mk (blk_below K2.out HZ.out)
  clear HZ
  refine sK 13 K1.out ⟨far2 hHeld.1 (by omega), far2 hHeld.2 (by omega)⟩ fun w20 hHeld hp => ?_
  replace K2 := Aside0.mk (kFar hp K2.out (by omega))
  replace K1 := Aside0.mk (kOwn hp K1.out)
  replace HW := Aside0.mk (bFar hp HW.out (by omega))
  clear hp
  refine sK 14 K2.out ⟨far2 hHeld.1 (by omega), far2 hHeld.2 (by omega)⟩ fun w21 hHeld hp => ?_
  replace K1 := Aside0.mk (kFar hp K1.out (by omega))
  replace K2 := Aside0.mk (kOwn hp K2.out)
  replace HW := Aside0.mk (bFar hp HW.out (by omega))
  clear hp
  refine tK 4 15 hHeld ?_
  refine wpAnyH_done (by kernel_rfl) ?_ _
  go_wp2_with fail
  exact retK K1.out K2.out ⟨_, _, _, _, _, _, _, _, rfl, (fun _ _ h => by cases h), HW.out⟩
set_option maxRecDepth 100000 in
set_option maxHeartbeats 3200000 in
theorem ends_1Mx {x : S54} {p : Addr} {w : World} (hp : Aside0 (AtC w p x)) (hk : Aside0 (x.f0 = 1)) (hlen : Aside0 (x.f5.length = 0)) (hct : Aside0 (checkI x.f1 = 0)) (hl1 : Aside0 (¬ x.f3 < 1)) (hl2o : Aside0 (2147483648 < x.f3))  : Calls Tryd.prog 46 #[.pointer (some p)] w (EndsQ none w) := by
  obtain ⟨A2, c2, A4, c4, A7, c7, hP, hT, hU, hl7, hC⟩ := hp.out
  have hpb : p.block < w.heap.size := World.block_lt_of_cell? w _ hP.1
  have HP := Aside0.mk hP
  have HT := Aside0.mk hT
  have HU := Aside0.mk hU
  have HC := Aside0.mk hC
  clear hP hT hU hC
  obtain ⟨q1, q2, hB⟩ := two_ w (.cells #[.int .i8 0, .slice none 0 0] 43) (.cells #[.int .i8 0, .slice none 0 0] 43)
  have K1 := Aside0.mk q1
  have K2 := Aside0.mk q2
  have HW := Aside0.mk hB
  clear q1 q2 hB
  have hL : leafB x.f0 = true := by rw [hk.out]; rfl
  have gk0 : (x.f0 == 0) = false := by rw [hk.out]; rfl
  have gk2 : (x.f0 == 2) = false := by rw [hk.out]; rfl
  have gk3 : (x.f0 == 3) = false := by rw [hk.out]; rfl
  have ct : (checkI x.f1 != 0) = false := bne_eq_false_iff_eq.mpr hct.out
  have hla1 : decide (1 ≤ x.f3) = true := decide_eq_true (by have := hl1.out; omega)
  have hla2 : decide (x.f3 ≤ 2147483648) = false := decide_eq_false (by have := hl2o.out; omega)
  obtain ⟨k0, k1, k2, k3, k4, k5, k6, k7⟩ := HP.out.below HW.out (Nat.le_refl _)
  rw [hlen.out] at k7
  go_enter Tryd.func46, Tryd.ntmps46
  go_wp2_with fail
  clear k0 k1 k2 k3 k4 k5 k6 k7
  generalize (w.alloc (.cells #[.int .i8 0, .slice none 0 0] 43)).alloc (.cells #[.int .i8 0, .slice none 0 0] 43) = w0 at *
  refine (leaf_calls x.f0 _).mono ?_
  rintro e w1 ⟨rfl, hB⟩
  rw [hL]
  replace K1 := Aside0.mk (blk_below K1.out hB)
  replace K2 := Aside0.mk (blk_below K2.out hB)
  replace HW := Aside0.mk (below_then HW.out HW.out.size hB)
  clear hB
  obtain ⟨k0, k1, k2, k3, k4, k5, k6, k7⟩ := HP.out.below HW.out (Nat.le_refl _)
  rw [hlen.out] at k7
  go_wp2_with fail
  clear k0 k1 k2 k3 k4 k5 k6 k7
  refine (Check_calls (HT.out.below HW.out)).mono ?_
  rintro e w2 ⟨rfl, hB⟩
  replace K1 := Aside0.mk (blk_below K1.out hB)
  replace K2 := Aside0.mk (blk_below K2.out hB)
  replace HW := Aside0.mk (below_then HW.out HW.out.size hB)
  clear hB
  obtain ⟨k0, k1, k2, k3, k4, k5, k6, k7⟩ := HP.out.below HW.out (Nat.le_refl _)
  rw [hlen.out] at k7
  go_wp2_with fail
  clear k0 k1 k2 k3 k4 k5 k6 k7
  refine wp_region_held_drew (S := fun w' => w'.cell? ⟨p.block, p.off + 1, none⟩ = some (.int .i8 x.f1.f0) ∧ w'.cell? ⟨p.block, p.off + 2, none⟩ = some (.slice A2 x.f1.f1.length c2) ∧ w'.cell? ⟨p.block, p.off + 3, none⟩ = some (.int .i8 x.f2.f0) ∧ w'.cell? ⟨p.block, p.off + 4, none⟩ = some (.slice A4 x.f2.f1.length c4)) (by kernel_rfl) ⟨(HP.out.below HW.out (Nat.le_refl _)).2.1, (HP.out.below HW.out (Nat.le_refl _)).2.2.1, (HP.out.below HW.out (Nat.le_refl _)).2.2.2.1, (HP.out.below HW.out (Nat.le_refl _)).2.2.2.2.1⟩ (fun hHeld => ?_)
  have HZ := Aside0.mk ((Below.refl w2.heap.size w2).drew)
  replace HW := Aside0.mk (below_then HW.out HW.out.size HZ.out)
  generalize w2.drew = w9 at *
  refine tK 86 0 hHeld ?_
  refine tK 87 1 hHeld ?_
  refine tK 88 2 hHeld ?_
  refine tK 89 3 hHeld ?_
  refine tK 90 4 hHeld ?_
  refine tK 91 5 hHeld ?_
  refine tK 92 6 hHeld ?_
  refine tK 93 7 hHeld ?_
  refine tK 94 8 hHeld ?_
  refine tK 95 9 hHeld ?_
  refine pK 96 10 hHeld ?_
  refine pK 97 11 hHeld ?_
  refine pK 98 12 hHeld ?_
  refine pK 99 13 hHeld ?_
  refine pK 100 14 hHeld ?_
  refine pK 101 15 hHeld ?_
  refine tK 102 16 hHeld ?_
  refine tK 103 17 hHeld ?_
  refine pK 104 18 hHeld ?_
  refine pK 105 19 hHeld ?_
  refine pK 106 20 hHeld ?_
  refine pK 107 21 hHeld ?_
  refine pK 108 22 hHeld ?_
  refine pK 109 23 hHeld ?_
  refine tK 110 24 hHeld ?_
  replace K1 := Aside0.mk (blk_below K1.out HZ.out)
  replace K2 := Aside0.mk (blk_below K2.out HZ.out)
  clear HZ
  refine sK 25 K1.out ⟨far2 hHeld.1 (by omega), far2 hHeld.2.1 (by omega), far2 hHeld.2.2.1 (by omega), far2 hHeld.2.2.2 (by omega)⟩ fun w20 hHeld hp => ?_
  replace K2 := Aside0.mk (kFar hp K2.out (by omega))
  replace K1 := Aside0.mk (kOwn hp K1.out)
  replace HW := Aside0.mk (bFar hp HW.out (by omega))
  clear hp
  refine sK 26 K2.out ⟨far2 hHeld.1 (by omega), far2 hHeld.2.1 (by omega), far2 hHeld.2.2.1 (by omega), far2 hHeld.2.2.2 (by omega)⟩ fun w21 hHeld hp => ?_
  replace K1 := Aside0.mk (kFar hp K1.out (by omega))
  replace K2 := Aside0.mk (kOwn hp K2.out)
  replace HW := Aside0.mk (bFar hp HW.out (by omega))
  clear hp
  refine tK 4 27 hHeld ?_
  refine wpAnyH_done (by kernel_rfl) ?_ _
  go_wp2_with fail
  exact retK K1.out K2.out ⟨_, _, _, _, _, _, _, _, rfl, (fun _ _ h => by cases h), HW.out⟩
end Go.Proofs.YtjmpejbciniceaaDoor.X
