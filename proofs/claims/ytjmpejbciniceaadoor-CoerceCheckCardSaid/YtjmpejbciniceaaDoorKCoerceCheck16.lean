/- Texts of this claim, joined: HHigh, HRsz, HKind9. -/
import Derived.Test.YtjmpejbciniceaaDoorKCoerceCheck8
import Derived.Test.YtjmpejbciniceaaDoorKCoerceCheck14
import Derived.Test.YtjmpejbciniceaaDoorKCoerceCheck15
namespace Go.Proofs.YtjmpejbciniceaaDoor.X
open Go.RowKit Go.Proofs.YtjmpejbciniceaaDoorW.PrintWords Go.Proofs.YtjmpejbciniceaaDoorW.PrintLast Go.Proofs.YtjmpejbciniceaaDoorW.PrintMore
set_option linter.unusedVariables false
set_option linter.unusedSimpArgs false
theorem depth_le_n (n : Nat) : ∀ t : S43, nodes t < n → depth t ≤ nodes t := by
  induction n with
  | zero => intro t h; omega
  | succ n ih =>
    intro t h
    have e := nodes_eq t
    rw [depth_eq, e]
    have key : ∀ l : List S43, nodesL l < n → depthL l ≤ nodesL l := by
      intro l
      induction l with
      | nil => intro _; simp [depthL]
      | cons x l ihl =>
        intro hl
        simp only [nodesL, depthL] at hl ⊢
        have h1 := ih x (by omega)
        have h2 := ihl (by omega)
        omega
    have := key t.f1 (by omega)
    omega
theorem depth_le (t : S43) : depth t ≤ nodes t := depth_le_n (nodes t + 1) t (by omega)
def HighIH (n : Nat) : Prop := ∀ (t : S43) (q : Addr) (w : World), nodes t < n → nodes t ≤ 8192 → AtT w q t → Calls Tryd.prog 102 #[.pointer (some q)] w (DeepPost (depth t) w)
set_option maxRecDepth 100000 in
set_option maxHeartbeats 1600000 in
theorem high_node (n : Nat) (k : Int) (l : List S43) (A : Option Addr) (c : Nat) (q : Addr) (w : World) (IH : Aside0 (HighIH n)) (HN : Aside0 (nodes ⟨k, l⟩ < n + 1)) (HM : Aside0 (nodes ⟨k, l⟩ ≤ 8192)) (h1 : w.cell? ⟨q.block, q.off + 1, none⟩ = some (.slice A l.length c)) (HR : Aside0 (Kd.C k43 w A l.length l)) (hc : l.length ≤ c) :
    Calls Tryd.prog 102 #[.pointer (some q)] w (DeepPost (depth ⟨k, l⟩) w) := by
  have H1 := Aside0.mk h1
  have HB := Aside0.mk (Below.refl w.heap.size w)
  have hL : l.length ≤ 9223372036854775807 := HR.out.2.1
  have HDL : Aside0 (depth ⟨k, l⟩ = 1 + depthL l) := .mk (depth_eq _)
  have HDN : Aside0 (depthL l ≤ 8192) := .mk (by have := depth_le ⟨k, l⟩; have := HM.out; have := HDL.out; omega)
  go_enter Tryd.func102, Tryd.ntmps102
  go_wp2_with fail
  clear h1
  go_loopw [3, 10] (fun d i wr => ∃ (j : Nat) (acc : Nat), i = .int .i64 j ∧ d = .int .i64 acc ∧ j ≤ l.length ∧ acc ≤ 8192 ∧ max acc (depthL (l.drop j)) = depthL l ∧ Below w.heap.size w wr) (fun _ i _ => l.length - (intOf i).toNat)
  case atStart => exact ⟨0, 0, rfl, rfl, Nat.zero_le _, by omega, by rw [List.drop_zero]; omega, HB.out⟩
  case round =>
    clear HB
    obtain ⟨j, acc, rfl, rfl, hj, ha1, hinv, hB⟩ := hrel
    have HB := Aside0.mk hB
    have HI := Aside0.mk hinv
    clear hB hinv
    have h1 := pw_cell_below HB.out H1.out
    by_cases hlt : j < l.length
    · obtain ⟨ad, rfl, hK⟩ := AtT_kid (Kd.C_below HR.out HB.out) (j : Int) (by omega) (by omega) rfl
      have HK := Aside0.mk hK
      have HDr := Aside0.mk (depthL_drop l j hlt)
      have HN2 : Aside0 (nodes (rd_T43 l (j : Int)) < n) := .mk (by have e1 := nodes_rd_le l j hlt; have e3 := nodes_eq ⟨k, l⟩; have := HN.out; simp only at e3; omega)
      have HN3 : Aside0 (nodes (rd_T43 l (j : Int)) ≤ 8192) := .mk (by have e1 := nodes_rd_le l j hlt; have e3 := nodes_eq ⟨k, l⟩; have := HM.out; simp only at e3; omega)
      clear hK
      generalize rd_T43 l (j : Int) = y at *
      go_wp2_with fail
      clear h1
      refine (IH.out y _ _ HN2.out HN3.out HK.out).mono ?_
      rintro e w5 ⟨rfl, hB⟩
      replace HB := Aside0.mk (below_then HB.out HB.out.size hB)
      clear hB
      have hmx : (if (acc : Int) < (depth y : Int) then (depth y : Int) else (acc : Int)) = ((max acc (depth y) : Nat) : Int) := by split <;> omega
      go_wp2_with fail
      go_roundw
      case rel =>
        refine ⟨j + 1, max acc (depth y), by go_num, ?_, by omega, ?_, ?_, HB.out⟩
        · exact congrArg (Value.int .i64) (by split <;> omega)
        · have := HI.out; have := HDr.out; have := HDN.out; omega
        · have := HI.out; have := HDr.out; omega
      case measure => simp [intOf]; omega
    · obtain rfl : j = l.length := by omega
      have hfin : acc = depthL l := by have e1 := HI.out; rw [List.drop_eq_nil_of_le (Nat.le_refl _), depthL] at e1; omega
      subst hfin
      have hb := HDN.out
      go_wp2_with fail
      go_ret
      exact ⟨congrArg (fun z : Int => Ending.returned (.int .i64 z)) (by have := HDL.out; omega), HB.out⟩
theorem high_all (n : Nat) : HighIH n := by
  induction n with
  | zero => intro t q w h; omega
  | succ n ih =>
    intro t q w hn hm hA
    obtain ⟨k, l⟩ := t
    obtain ⟨A, c, h0, h1, h2, h3⟩ := hA
    exact high_node n k l A c q w ⟨ih⟩ ⟨hn⟩ ⟨hm⟩ h1 ⟨h3⟩ h2
theorem high_calls {t : S43} {q : Addr} {w : World} (h : AtT w q t) (hm : nodes t ≤ 8192) : Calls Tryd.prog 102 #[.pointer (some q)] w (DeepPost (depth t) w) := high_all (nodes t + 1) t q w (by omega) hm h
theorem AtC_type {w : World} {p : Addr} {x : S54} (h : AtC w p x) : AtT w ⟨p.block, p.off + 1, none⟩ x.f1 := by
  obtain ⟨A2, c2, A4, c4, A7, c7, ⟨h0, h1, h2, h3, h4, h5, h6, h7⟩, ⟨B, d, e, l1, l2⟩, -, -, -⟩ := h
  have e' : A2 = B ∧ c2 = d := by simpa using e
  obtain ⟨rfl, rfl⟩ := e'
  exact ⟨A2, c2, h1, h2, l1, l2⟩
def MeasurePost (x : S54) (w : World) (e : Ending) (w' : World) : Prop := e = .returned (.tuple #[.int .i64 (csize x), .int .i64 (chigh x)]) ∧ Below w.heap.size w w'
set_option maxRecDepth 100000 in
set_option maxHeartbeats 1600000 in
theorem measure_leaf {x : S54} {p : Addr} {w : World} (hp : Aside0 (AtC w p x)) (hx : Aside0 ((endsC x).isSome = true)) (hk : Aside0 (leafB x.f0 = true)) (h8 : Aside0 (cnodes x ≤ 8192)) : Calls Tryd.prog 51 #[.pointer (some p)] w (MeasurePost x w) := by
  have HN := Aside0.mk (leaf_nodes hk.out hx.out)
  have HS : Aside0 (csize x = 1) := .mk (by rcases ends_kids hx.out with ⟨_, hl⟩ | ⟨h, _⟩; exact csize_leaf hl; exact absurd hk.out (by rw [h]; decide))
  obtain ⟨A2, c2, A4, c4, A7, c7, hP, hT, hU, hl7, hC⟩ := hp.out
  have HP := Aside0.mk hP
  clear hP hT hU hC
  obtain ⟨k0, k1, k2, k3, k4, k5, k6, k7⟩ := HP.out
  rcases leafB_cases hk.out with h | h | h | h
  · have HH := Aside0.mk (chigh_one (x := x) (.inl h))
    rw [h] at k0
    go_enter Tryd.func51, Tryd.ntmps51
    go_wp2_with fail
    refine bodyPost_ret (results_list (rs := [.tmp 2, .tmp 3]) rfl (by simp) (.tmp (.tmp .nil))) rfl ?_
    exact ⟨by rw [HS.out, HH.out]; rfl, Below.refl _ _⟩
  · have HH := Aside0.mk (chigh_one (x := x) (.inr h))
    rw [h] at k0
    go_enter Tryd.func51, Tryd.ntmps51
    go_wp2_with fail
    refine bodyPost_ret (results_list (rs := [.tmp 2, .tmp 3]) rfl (by simp) (.tmp (.tmp .nil))) rfl ?_
    exact ⟨by rw [HS.out, HH.out]; rfl, Below.refl _ _⟩
  all_goals
    have HH : Aside0 (chigh x = depth x.f1) := .mk (chigh_in (x := x) (by omega))
    rw [h] at k0
    go_enter Tryd.func51, Tryd.ntmps51
    go_wp2_with fail
    clear k0 k1 k2 k3 k4 k5 k6 k7
    refine (high_calls (AtC_type hp.out) (by have := HN.out.1; have := h8.out; omega)).mono ?_
    rintro e w1 ⟨rfl, hB⟩
    go_wp2_with fail
    refine bodyPost_ret (results_list (rs := [.tmp 2, .tmp 3]) rfl (by simp) (.tmp (.tmp .nil))) rfl ?_
    exact ⟨by rw [HS.out, HH.out]; rfl, hB⟩
set_option maxRecDepth 100000 in
set_option maxHeartbeats 1600000 in
theorem measure_two {x p1 p2 : S54} {p : Addr} {w : World} (hp : Aside0 (AtC w p x)) (hx : Aside0 ((endsC x).isSome = true)) (hk : Aside0 (leafB x.f0 = false)) (hl : Aside0 (x.f5 = [p1, p2])) (h8 : Aside0 (cnodes x ≤ 8192)) (HL1 : Aside0 (csize p1 ≤ 8192 ∧ chigh p1 ≤ 8392)) (HL2 : Aside0 (csize p2 ≤ 8192 ∧ chigh p2 ≤ 8392))
    (HP1 : Aside0 (∀ (q : Addr) (w : World), AtC w q p1 → Calls Tryd.prog 51 #[.pointer (some q)] w (MeasurePost p1 w))) (HP2 : Aside0 (∀ (q : Addr) (w : World), AtC w q p2 → Calls Tryd.prog 51 #[.pointer (some q)] w (MeasurePost p2 w))) : Calls Tryd.prog 51 #[.pointer (some p)] w (MeasurePost x w) := by
  have HS := Aside0.mk (csize_two hl.out)
  have HH := Aside0.mk (chigh_two hk.out hl.out)
  have hn := leafB_not hk.out
  have g0 : (x.f0 == 0) = false := beq_eq_false_iff_ne.mpr hn.1
  have g1 : (x.f0 == 1) = false := beq_eq_false_iff_ne.mpr hn.2.1
  have g2 : (x.f0 == 2) = false := beq_eq_false_iff_ne.mpr hn.2.2.1
  have g3 : (x.f0 == 3) = false := beq_eq_false_iff_ne.mpr hn.2.2.2
  clear hn
  obtain ⟨A2, c2, A4, c4, A7, c7, hP, hT, hU, hl7, hC⟩ := hp.out
  have HP := Aside0.mk hP
  have HC := Aside0.mk hC
  clear hP hT hU hC
  have hlen : Aside0 (x.f5.length = 2) := .mk (by rw [hl.out]; rfl)
  obtain ⟨ad, rfl, hq1⟩ := AtC_kid HC.out 0 (by omega) (by have := hlen.out; omega) (x := p1) (by rw [hl.out]; rfl)
  obtain ⟨ad', e', hq2⟩ := AtC_kid HC.out 1 (by omega) (by have := hlen.out; omega) (x := p2) (by rw [hl.out]; rfl)
  cases e'
  have HQ1 := Aside0.mk hq1
  have HQ2 := Aside0.mk hq2
  clear hq1 hq2 HC
  have HW := Aside0.mk (Below.refl w.heap.size w)
  obtain ⟨k0, k1, k2, k3, k4, k5, k6, k7⟩ := HP.out.below HW.out (Nat.le_refl _)
  rw [hlen.out] at k7
  go_enter Tryd.func51, Tryd.ntmps51
  go_wp2_with fail
  clear k0 k1 k2 k3 k4 k5 k6 k7
  refine (HP1.out _ _ (by simpa [Addr.add] using HQ1.out.below HW.out)).mono ?_
  rintro e w1 ⟨rfl, hB⟩
  replace HW := Aside0.mk (below_then HW.out HW.out.size hB)
  clear hB
  obtain ⟨k0, k1, k2, k3, k4, k5, k6, k7⟩ := HP.out.below HW.out (Nat.le_refl _)
  rw [hlen.out] at k7
  go_wp2_with fail
  clear k0 k1 k2 k3 k4 k5 k6 k7
  refine (HP2.out _ _ (by simpa [Addr.add] using HQ2.out.below HW.out)).mono ?_
  rintro e w2 ⟨rfl, hB⟩
  replace HW := Aside0.mk (below_then HW.out HW.out.size hB)
  clear hB
  obtain ⟨k0, k1, k2, k3, k4, k5, k6, k7⟩ := HP.out.below HW.out (Nat.le_refl _)
  have hb1 := HL1.out
  have hb2 := HL2.out
  have hmx : (if (chigh p1 : Int) < (chigh p2 : Int) then (chigh p2 : Int) else (chigh p1 : Int)) = ((max (chigh p1) (chigh p2) : Nat) : Int) := by split <;> omega
  have hmb : max (chigh p1) (chigh p2) ≤ 8392 := by omega
  by_cases h7 : x.f0 = 7
  · have g7 : (x.f0 != 7) = false := bne_eq_false_iff_eq.mpr h7
    go_wp2_with fail
    all_goals
      refine bodyPost_ret (results_list (rs := [.tmp 2, .tmp 3]) rfl (by simp) (.tmp (.tmp .nil))) rfl ⟨?_, HW.out⟩
      rw [HS.out, HH.out, if_pos h7]
      first | rfl | (simp <;> omega) | (simp <;> split <;> omega)
  · have g7 : (x.f0 != 7) = true := bne_iff_ne.mpr h7
    go_wp2_with fail
    all_goals
      refine bodyPost_ret (results_list (rs := [.tmp 2, .tmp 3]) rfl (by simp) (.tmp (.tmp .nil))) rfl ⟨?_, HW.out⟩
      rw [HS.out, HH.out, if_neg h7]
      first | rfl | (simp <;> omega) | (simp <;> split <;> omega)
theorem measure_all : ∀ (x : S54), (endsC x).isSome = true → cnodes x ≤ 8192 → ∀ (p : Addr) (w : World), AtC w p x → Calls Tryd.prog 51 #[.pointer (some p)] w (MeasurePost x w) :=
  co_ind (P := fun x => cnodes x ≤ 8192 → ∀ (p : Addr) (w : World), AtC w p x → Calls Tryd.prog 51 #[.pointer (some p)] w (MeasurePost x w))
    (fun x hk _ hx h8 p w hp => measure_leaf ⟨hp⟩ ⟨hx⟩ ⟨hk⟩ ⟨h8⟩)
    (fun x a b hk hl hx ha hb h1 h2 h8 p w hp => by
      have hc := cnodes_kids hl
      have s1 := csize_le a ha
      have s2 := csize_le b hb
      have t1 := chigh_le a ha
      have t2 := chigh_le b hb
      exact measure_two ⟨hp⟩ ⟨hx⟩ ⟨hk⟩ ⟨hl⟩ ⟨h8⟩ ⟨by omega⟩ ⟨by omega⟩ ⟨h1 (by omega)⟩ ⟨h2 (by omega)⟩)
theorem measure_calls {x : S54} {p : Addr} {w : World} (h : AtC w p x) (hx : (endsC x).isSome = true) (h8 : cnodes x ≤ 8192) : Calls Tryd.prog 51 #[.pointer (some p)] w (MeasurePost x w) := measure_all x hx h8 p w h
end Go.Proofs.YtjmpejbciniceaaDoor.X
namespace Go.Proofs.YtjmpejbciniceaaDoor.X
open Go.RowKit Go.Proofs.YtjmpejbciniceaaDoorW.PrintWords Go.Proofs.YtjmpejbciniceaaDoorW.PrintLast Go.Proofs.YtjmpejbciniceaaDoorW.PrintMore
set_option linter.unusedVariables false
set_option linter.unusedSimpArgs false
set_option maxRecDepth 100000 in
set_option maxHeartbeats 3200000 in
theorem rsz_leaf {x : S54} {v : Value} {w : World} (hx : IsC w v x) (hl : Aside0 (x.f5 = [])) : Calls Tryd.prog 53 #[v] w (DeepPost (csize x) w) := by
  have HX := Aside0.mk hx
  obtain ⟨A2, c2, A4, c4, A7, c7, rfl, hl2, hC2, hl4, hC4, hl7, hC⟩ := hx
  have HT := Aside0.mk (IsT.mk (k := x.f1.f0) hl2 hC2)
  have HU := Aside0.mk (IsT.mk (k := x.f2.f0) hl4 hC4)
  rw [S43.eta] at HT HU
  clear hl2 hC2 hl4 hC4 hl7
  have hB : Below w.heap.size w (w.alloc (.cells #[.int .i8 x.f0, .int .i8 x.f1.f0, .slice A2 x.f1.f1.length c2, .int .i8 x.f2.f0, .slice A4 x.f2.f1.length c4, .int .i64 x.f3, .bool x.f4, .slice A7 x.f5.length c7] 54)) := (Below.refl _ _).alloc (Nat.le_refl _) _
  have K0 := Aside0.mk (heap_alloc_new w (.cells #[.int .i8 x.f0, .int .i8 x.f1.f0, .slice A2 x.f1.f1.length c2, .int .i8 x.f2.f0, .slice A4 x.f2.f1.length c4, .int .i64 x.f3, .bool x.f4, .slice A7 x.f5.length c7] 54))
  replace HX := Aside0.mk (HX.out.below hB)
  replace HT := Aside0.mk (HT.out.below hB)
  replace HU := Aside0.mk (HU.out.below hB)
  clear hC
  have HW := Aside0.mk hB
  clear hB
  have hz : ((x.f5.length : Int) == 0) = true := by rw [hl.out]; rfl
  go_enter Tryd.func53, Tryd.ntmps53
  go_wp2_with fail
  generalize w.alloc (.cells #[.int .i8 x.f0, .int .i8 x.f1.f0, .slice A2 x.f1.f1.length c2, .int .i8 x.f2.f0, .slice A4 x.f2.f1.length c4, .int .i64 x.f3, .bool x.f4, .slice A7 x.f5.length c7] 54) = w0 at *
  go_ret
  exact ⟨by rw [csize_leaf hl.out]; rfl, HW.out⟩
set_option maxRecDepth 100000 in
set_option maxHeartbeats 3200000 in
theorem rsz_two {x p q : S54} {v : Value} {w : World} (hx : IsC w v x) (hl : Aside0 (x.f5 = [p, q])) (hlo : Aside0 (leafB x.f0 = false)) (hs : Aside0 (csize p ≤ 8392 ∧ csize q ≤ 8392)) (H1 : Aside0 (∀ (v : Value) (w : World), IsC w v p → Calls Tryd.prog 53 #[v] w (DeepPost (csize p) w))) (H2 : Aside0 (∀ (v : Value) (w : World), IsC w v q → Calls Tryd.prog 53 #[v] w (DeepPost (csize q) w))) : Calls Tryd.prog 53 #[v] w (DeepPost (csize x) w) := by
  have HX := Aside0.mk hx
  obtain ⟨A2, c2, A4, c4, A7, c7, rfl, hl2, hC2, hl4, hC4, hl7, hC⟩ := hx
  have hlen : x.f5.length = 2 := by rw [hl.out]; rfl
  rw [hlen] at hC ⊢
  clear hlen
  clear hl2 hC2 hl4 hC4 hl7
  obtain ⟨ad, P2, Pn2, P4, Pn4, P7, Pn7, rfl, hk1, hP⟩ := kid_at hC 0 (by omega) (by omega) (x := p) (by rw [hl.out]; rfl)
  obtain ⟨ad', Q2, Qn2, Q4, Qn4, Q7, Qn7, e', hk2, hQ⟩ := kid_at hC 1 (by omega) (by omega) (x := q) (by rw [hl.out]; rfl)
  cases e'
  simp [Addr.add] at hk1 hk2
  have hB : Below w.heap.size w (w.alloc (.cells #[.int .i8 x.f0, .int .i8 x.f1.f0, .slice A2 x.f1.f1.length c2, .int .i8 x.f2.f0, .slice A4 x.f2.f1.length c4, .int .i64 x.f3, .bool x.f4, .slice (some ad) 2 c7] 54)) := (Below.refl _ _).alloc (Nat.le_refl _) _
  have K0 := Aside0.mk (heap_alloc_new w (.cells #[.int .i8 x.f0, .int .i8 x.f1.f0, .slice A2 x.f1.f1.length c2, .int .i8 x.f2.f0, .slice A4 x.f2.f1.length c4, .int .i64 x.f3, .bool x.f4, .slice (some ad) 2 c7] 54))
  have HP := Aside0.mk (hP.below hB)
  have HQ := Aside0.mk (hQ.below hB)
  have HK1 : Aside0 ((w.alloc (.cells #[.int .i8 x.f0, .int .i8 x.f1.f0, .slice A2 x.f1.f1.length c2, .int .i8 x.f2.f0, .slice A4 x.f2.f1.length c4, .int .i64 x.f3, .bool x.f4, .slice (some ad) 2 c7] 54)).cell? ad = some (.int .i8 p.f0) ∧ (w.alloc (.cells #[.int .i8 x.f0, .int .i8 x.f1.f0, .slice A2 x.f1.f1.length c2, .int .i8 x.f2.f0, .slice A4 x.f2.f1.length c4, .int .i64 x.f3, .bool x.f4, .slice (some ad) 2 c7] 54)).cell? ⟨ad.block, ad.off + 1, none⟩ = some (.int .i8 p.f1.f0) ∧ (w.alloc (.cells #[.int .i8 x.f0, .int .i8 x.f1.f0, .slice A2 x.f1.f1.length c2, .int .i8 x.f2.f0, .slice A4 x.f2.f1.length c4, .int .i64 x.f3, .bool x.f4, .slice (some ad) 2 c7] 54)).cell? ⟨ad.block, ad.off + 2, none⟩ = some (.slice P2 p.f1.f1.length Pn2) ∧ (w.alloc (.cells #[.int .i8 x.f0, .int .i8 x.f1.f0, .slice A2 x.f1.f1.length c2, .int .i8 x.f2.f0, .slice A4 x.f2.f1.length c4, .int .i64 x.f3, .bool x.f4, .slice (some ad) 2 c7] 54)).cell? ⟨ad.block, ad.off + 3, none⟩ = some (.int .i8 p.f2.f0) ∧ (w.alloc (.cells #[.int .i8 x.f0, .int .i8 x.f1.f0, .slice A2 x.f1.f1.length c2, .int .i8 x.f2.f0, .slice A4 x.f2.f1.length c4, .int .i64 x.f3, .bool x.f4, .slice (some ad) 2 c7] 54)).cell? ⟨ad.block, ad.off + 4, none⟩ = some (.slice P4 p.f2.f1.length Pn4) ∧ (w.alloc (.cells #[.int .i8 x.f0, .int .i8 x.f1.f0, .slice A2 x.f1.f1.length c2, .int .i8 x.f2.f0, .slice A4 x.f2.f1.length c4, .int .i64 x.f3, .bool x.f4, .slice (some ad) 2 c7] 54)).cell? ⟨ad.block, ad.off + 5, none⟩ = some (.int .i64 p.f3) ∧ (w.alloc (.cells #[.int .i8 x.f0, .int .i8 x.f1.f0, .slice A2 x.f1.f1.length c2, .int .i8 x.f2.f0, .slice A4 x.f2.f1.length c4, .int .i64 x.f3, .bool x.f4, .slice (some ad) 2 c7] 54)).cell? ⟨ad.block, ad.off + 6, none⟩ = some (.bool p.f4) ∧ (w.alloc (.cells #[.int .i8 x.f0, .int .i8 x.f1.f0, .slice A2 x.f1.f1.length c2, .int .i8 x.f2.f0, .slice A4 x.f2.f1.length c4, .int .i64 x.f3, .bool x.f4, .slice (some ad) 2 c7] 54)).cell? ⟨ad.block, ad.off + 7, none⟩ = some (.slice P7 p.f5.length Pn7)) := .mk ⟨pwc hB hk1.1, pwc hB hk1.2.1, pwc hB hk1.2.2.1, pwc hB hk1.2.2.2.1, pwc hB hk1.2.2.2.2.1, pwc hB hk1.2.2.2.2.2.1, pwc hB hk1.2.2.2.2.2.2.1, pwc hB hk1.2.2.2.2.2.2.2⟩
  have HK2 : Aside0 ((w.alloc (.cells #[.int .i8 x.f0, .int .i8 x.f1.f0, .slice A2 x.f1.f1.length c2, .int .i8 x.f2.f0, .slice A4 x.f2.f1.length c4, .int .i64 x.f3, .bool x.f4, .slice (some ad) 2 c7] 54)).cell? ⟨ad.block, ad.off + 8, none⟩ = some (.int .i8 q.f0) ∧ (w.alloc (.cells #[.int .i8 x.f0, .int .i8 x.f1.f0, .slice A2 x.f1.f1.length c2, .int .i8 x.f2.f0, .slice A4 x.f2.f1.length c4, .int .i64 x.f3, .bool x.f4, .slice (some ad) 2 c7] 54)).cell? ⟨ad.block, ad.off + 8 + 1, none⟩ = some (.int .i8 q.f1.f0) ∧ (w.alloc (.cells #[.int .i8 x.f0, .int .i8 x.f1.f0, .slice A2 x.f1.f1.length c2, .int .i8 x.f2.f0, .slice A4 x.f2.f1.length c4, .int .i64 x.f3, .bool x.f4, .slice (some ad) 2 c7] 54)).cell? ⟨ad.block, ad.off + 8 + 2, none⟩ = some (.slice Q2 q.f1.f1.length Qn2) ∧ (w.alloc (.cells #[.int .i8 x.f0, .int .i8 x.f1.f0, .slice A2 x.f1.f1.length c2, .int .i8 x.f2.f0, .slice A4 x.f2.f1.length c4, .int .i64 x.f3, .bool x.f4, .slice (some ad) 2 c7] 54)).cell? ⟨ad.block, ad.off + 8 + 3, none⟩ = some (.int .i8 q.f2.f0) ∧ (w.alloc (.cells #[.int .i8 x.f0, .int .i8 x.f1.f0, .slice A2 x.f1.f1.length c2, .int .i8 x.f2.f0, .slice A4 x.f2.f1.length c4, .int .i64 x.f3, .bool x.f4, .slice (some ad) 2 c7] 54)).cell? ⟨ad.block, ad.off + 8 + 4, none⟩ = some (.slice Q4 q.f2.f1.length Qn4) ∧ (w.alloc (.cells #[.int .i8 x.f0, .int .i8 x.f1.f0, .slice A2 x.f1.f1.length c2, .int .i8 x.f2.f0, .slice A4 x.f2.f1.length c4, .int .i64 x.f3, .bool x.f4, .slice (some ad) 2 c7] 54)).cell? ⟨ad.block, ad.off + 8 + 5, none⟩ = some (.int .i64 q.f3) ∧ (w.alloc (.cells #[.int .i8 x.f0, .int .i8 x.f1.f0, .slice A2 x.f1.f1.length c2, .int .i8 x.f2.f0, .slice A4 x.f2.f1.length c4, .int .i64 x.f3, .bool x.f4, .slice (some ad) 2 c7] 54)).cell? ⟨ad.block, ad.off + 8 + 6, none⟩ = some (.bool q.f4) ∧ (w.alloc (.cells #[.int .i8 x.f0, .int .i8 x.f1.f0, .slice A2 x.f1.f1.length c2, .int .i8 x.f2.f0, .slice A4 x.f2.f1.length c4, .int .i64 x.f3, .bool x.f4, .slice (some ad) 2 c7] 54)).cell? ⟨ad.block, ad.off + 8 + 7, none⟩ = some (.slice Q7 q.f5.length Qn7)) := .mk ⟨pwc hB hk2.1, pwc hB hk2.2.1, pwc hB hk2.2.2.1, pwc hB hk2.2.2.2.1, pwc hB hk2.2.2.2.2.1, pwc hB hk2.2.2.2.2.2.1, pwc hB hk2.2.2.2.2.2.2.1, pwc hB hk2.2.2.2.2.2.2.2⟩
  clear hk1 hk2 hP hQ hC
  have HW := Aside0.mk hB
  clear hB
  have hb := hs.out
  have HV := Aside0.mk (csize_two hl.out)
  go_enter Tryd.func53, Tryd.ntmps53
  go_wp2_with fail
  generalize w.alloc (.cells #[.int .i8 x.f0, .int .i8 x.f1.f0, .slice A2 x.f1.f1.length c2, .int .i8 x.f2.f0, .slice A4 x.f2.f1.length c4, .int .i64 x.f3, .bool x.f4, .slice (some ad) 2 c7] 54) = w0 at *
  refine wp_region_held_drew (S := fun w' => w'.cell? ⟨w.heap.size, 0, none⟩ = some (.int .i8 x.f0) ∧ w'.cell? ⟨w.heap.size, 7, none⟩ = some (.slice (some ad) 2 c7) ∧ w'.cell? ad = some (.int .i8 p.f0) ∧ w'.cell? ⟨ad.block, ad.off + 1, none⟩ = some (.int .i8 p.f1.f0) ∧ w'.cell? ⟨ad.block, ad.off + 2, none⟩ = some (.slice P2 p.f1.f1.length Pn2) ∧ w'.cell? ⟨ad.block, ad.off + 3, none⟩ = some (.int .i8 p.f2.f0) ∧ w'.cell? ⟨ad.block, ad.off + 4, none⟩ = some (.slice P4 p.f2.f1.length Pn4) ∧ w'.cell? ⟨ad.block, ad.off + 5, none⟩ = some (.int .i64 p.f3) ∧ w'.cell? ⟨ad.block, ad.off + 6, none⟩ = some (.bool p.f4) ∧ w'.cell? ⟨ad.block, ad.off + 7, none⟩ = some (.slice P7 p.f5.length Pn7) ∧ w'.cell? ⟨ad.block, ad.off + 8, none⟩ = some (.int .i8 q.f0) ∧ w'.cell? ⟨ad.block, ad.off + 8 + 1, none⟩ = some (.int .i8 q.f1.f0) ∧ w'.cell? ⟨ad.block, ad.off + 8 + 2, none⟩ = some (.slice Q2 q.f1.f1.length Qn2) ∧ w'.cell? ⟨ad.block, ad.off + 8 + 3, none⟩ = some (.int .i8 q.f2.f0) ∧ w'.cell? ⟨ad.block, ad.off + 8 + 4, none⟩ = some (.slice Q4 q.f2.f1.length Qn4) ∧ w'.cell? ⟨ad.block, ad.off + 8 + 5, none⟩ = some (.int .i64 q.f3) ∧ w'.cell? ⟨ad.block, ad.off + 8 + 6, none⟩ = some (.bool q.f4) ∧ w'.cell? ⟨ad.block, ad.off + 8 + 7, none⟩ = some (.slice Q7 q.f5.length Qn7)) (by kernel_rfl) ⟨bcl K0.out, bcl K0.out, HK1.out.1, HK1.out.2.1, HK1.out.2.2.1, HK1.out.2.2.2.1, HK1.out.2.2.2.2.1, HK1.out.2.2.2.2.2.1, HK1.out.2.2.2.2.2.2.1, HK1.out.2.2.2.2.2.2.2, HK2.out.1, HK2.out.2.1, HK2.out.2.2.1, HK2.out.2.2.2.1, HK2.out.2.2.2.2.1, HK2.out.2.2.2.2.2.1, HK2.out.2.2.2.2.2.2.1, HK2.out.2.2.2.2.2.2.2⟩ (fun hHeld => ?_)
  have HZ := Aside0.mk ((Below.refl w0.heap.size w0).drew)
  replace HW := Aside0.mk (below_then HW.out HW.out.size HZ.out)
  generalize w0.drew = w1 at *
  refine tK 8 0 hHeld ?_
  refine tK 9 1 hHeld ?_
  refine tK 10 2 hHeld ?_
  refine tK 11 3 hHeld ?_
  refine tK 13 5 hHeld ?_
  refine tK 14 6 hHeld ?_
  refine tK 15 7 hHeld ?_
  refine tK 16 8 hHeld ?_
  refine cK 12 4 (H1.out _ _ (HP.out.below HZ.out)) ?_
  rintro e w2 ⟨rfl, hB⟩
  replace HZ := Aside0.mk (below_then HZ.out HZ.out.size hB)
  replace HW := Aside0.mk (below_then HW.out HW.out.size hB)
  refine ⟨_, rfl, ⟨pwc hB hHeld.1, pwc hB hHeld.2.1, pwc hB hHeld.2.2.1, pwc hB hHeld.2.2.2.1, pwc hB hHeld.2.2.2.2.1, pwc hB hHeld.2.2.2.2.2.1, pwc hB hHeld.2.2.2.2.2.2.1, pwc hB hHeld.2.2.2.2.2.2.2.1, pwc hB hHeld.2.2.2.2.2.2.2.2.1, pwc hB hHeld.2.2.2.2.2.2.2.2.2.1, pwc hB hHeld.2.2.2.2.2.2.2.2.2.2.1, pwc hB hHeld.2.2.2.2.2.2.2.2.2.2.2.1, pwc hB hHeld.2.2.2.2.2.2.2.2.2.2.2.2.1, pwc hB hHeld.2.2.2.2.2.2.2.2.2.2.2.2.2.1, pwc hB hHeld.2.2.2.2.2.2.2.2.2.2.2.2.2.2.1, pwc hB hHeld.2.2.2.2.2.2.2.2.2.2.2.2.2.2.2.1, pwc hB hHeld.2.2.2.2.2.2.2.2.2.2.2.2.2.2.2.2.1, pwc hB hHeld.2.2.2.2.2.2.2.2.2.2.2.2.2.2.2.2.2⟩, fun hHeld => nA ?_⟩
  clear hB
  refine cK 17 9 (H2.out _ _ (HQ.out.below HZ.out)) ?_
  rintro e w3 ⟨rfl, hB⟩
  replace HZ := Aside0.mk (below_then HZ.out HZ.out.size hB)
  replace HW := Aside0.mk (below_then HW.out HW.out.size hB)
  refine ⟨_, rfl, ⟨pwc hB hHeld.1, pwc hB hHeld.2.1, pwc hB hHeld.2.2.1, pwc hB hHeld.2.2.2.1, pwc hB hHeld.2.2.2.2.1, pwc hB hHeld.2.2.2.2.2.1, pwc hB hHeld.2.2.2.2.2.2.1, pwc hB hHeld.2.2.2.2.2.2.2.1, pwc hB hHeld.2.2.2.2.2.2.2.2.1, pwc hB hHeld.2.2.2.2.2.2.2.2.2.1, pwc hB hHeld.2.2.2.2.2.2.2.2.2.2.1, pwc hB hHeld.2.2.2.2.2.2.2.2.2.2.2.1, pwc hB hHeld.2.2.2.2.2.2.2.2.2.2.2.2.1, pwc hB hHeld.2.2.2.2.2.2.2.2.2.2.2.2.2.1, pwc hB hHeld.2.2.2.2.2.2.2.2.2.2.2.2.2.2.1, pwc hB hHeld.2.2.2.2.2.2.2.2.2.2.2.2.2.2.2.1, pwc hB hHeld.2.2.2.2.2.2.2.2.2.2.2.2.2.2.2.2.1, pwc hB hHeld.2.2.2.2.2.2.2.2.2.2.2.2.2.2.2.2.2⟩, fun hHeld => nA ?_⟩
  clear hB
  have hwr : IntKind.i64.wrap ((csize p : Int) + (csize q : Int)) = (csize p : Int) + (csize q : Int) := by rw [i64_w, w64 _ (by omega) (by omega)]
  refine tK 18 10 hHeld ?_
  refine tK 3 11 hHeld ?_
  refine wpAnyH_done (by kernel_rfl) ?_ _
  have b0 := hHeld.1
  clear hHeld
  by_cases h7 : x.f0 = 7
  · have g7 : (x.f0 != 7) = false := bne_eq_false_iff_eq.mpr h7
    go_wp2_with fail
    all_goals
      go_ret
      refine ⟨congrArg (fun z : Int => Ending.returned (.int .i64 z)) ?_, HW.out⟩
      rw [HV.out, if_pos h7]
      first | rfl | omega | (simp <;> omega)
  · have g7 : (x.f0 != 7) = true := bne_iff_ne.mpr h7
    go_wp2_with fail
    all_goals
      go_ret
      refine ⟨congrArg (fun z : Int => Ending.returned (.int .i64 z)) ?_, HW.out⟩
      rw [HV.out, if_neg h7]
      first | rfl | omega | (simp <;> omega)
set_option maxRecDepth 100000 in
set_option maxHeartbeats 3200000 in
theorem High_leaf {k : Int} {v : Value} {w : World} (h : IsT w v ⟨k, []⟩) : Calls Tryd.prog 103 #[v] w (DeepPost (depth ⟨k, []⟩) w) := by
  obtain ⟨A, c, rfl, -, -⟩ := h
  have hB : Below w.heap.size w (w.alloc (.cells #[.int .i8 k, .slice A 0 c] 43)) := (Below.refl _ _).alloc (Nat.le_refl _) _
  have HW := Aside0.mk hB
  clear hB
  go_enter Tryd.func103, Tryd.ntmps103
  go_wp2_with fail
  go_ret
  exact ⟨(by simp [depth, depthL]; try rfl), HW.out⟩
set_option maxRecDepth 100000 in
set_option maxHeartbeats 3200000 in
theorem High_two {k : Int} {x y : S43} {v : Value} {w : World} (h : IsT w v ⟨k, [x, y]⟩) (hs : Aside0 (depth x ≤ 8192 ∧ depth y ≤ 8192)) (H1 : Aside0 (∀ (v : Value) (w : World), IsT w v x → Calls Tryd.prog 103 #[v] w (DeepPost (depth x) w))) (H2 : Aside0 (∀ (v : Value) (w : World), IsT w v y → Calls Tryd.prog 103 #[v] w (DeepPost (depth y) w))) : Calls Tryd.prog 103 #[v] w (DeepPost (depth ⟨k, [x, y]⟩) w) := by
  have HV : Aside0 (depth ⟨k, [x, y]⟩ = 1 + max (depth x) (depth y)) := .mk (by simp [depth, depthL])
  have hb := hs.out
  obtain ⟨ad, c, Bx, dx, By, dy, rfl, hF, hX, hY, _⟩ := h.open2
  have hB : Below w.heap.size w (w.alloc (.cells #[.int .i8 k, .slice (some ad) 2 c] 43)) := (Below.refl _ _).alloc (Nat.le_refl _) _
  have K0 := Aside0.mk (heap_alloc_new w (.cells #[.int .i8 k, .slice (some ad) 2 c] 43))
  have HF := Aside0.mk (four_of hF hB)
  have HP := Aside0.mk (hX.below hB)
  have HQ := Aside0.mk (hY.below hB)
  have HW := Aside0.mk hB
  clear hB hF hX hY
  go_enter Tryd.func103, Tryd.ntmps103
  go_wp2_with fail
  generalize w.alloc (.cells #[.int .i8 k, .slice (some ad) 2 c] 43) = w0 at *
  refine wp_region_held_drew (S := fun w' => w'.cell? ⟨w.heap.size, 1, none⟩ = some (.slice (some ad) 2 c) ∧ w'.cell? ad = some (.int .i8 x.f0) ∧ w'.cell? ⟨ad.block, ad.off + 1, none⟩ = some (.slice Bx x.f1.length dx) ∧ w'.cell? ⟨ad.block, ad.off + 2, none⟩ = some (.int .i8 y.f0) ∧ w'.cell? ⟨ad.block, ad.off + 2 + 1, none⟩ = some (.slice By y.f1.length dy)) (by kernel_rfl) ⟨bcl K0.out, HF.out.1, HF.out.2.1, HF.out.2.2.1, HF.out.2.2.2⟩ (fun hHeld => ?_)
  have HZ := Aside0.mk ((Below.refl w0.heap.size w0).drew)
  replace HW := Aside0.mk (below_then HW.out HW.out.size HZ.out)
  generalize w0.drew = w1 at *
  refine tK 7 0 hHeld ?_
  refine tK 8 1 hHeld ?_
  refine tK 9 2 hHeld ?_
  refine tK 10 3 hHeld ?_
  refine tK 12 5 hHeld ?_
  refine tK 13 6 hHeld ?_
  refine tK 14 7 hHeld ?_
  refine tK 15 8 hHeld ?_
  refine cK 11 4 (H1.out _ _ (HP.out.below HZ.out)) ?_
  rintro e w2 ⟨rfl, hB⟩
  replace HZ := Aside0.mk (below_then HZ.out HZ.out.size hB)
  replace HW := Aside0.mk (below_then HW.out HW.out.size hB)
  refine ⟨_, rfl, ⟨pwc hB hHeld.1, pwc hB hHeld.2.1, pwc hB hHeld.2.2.1, pwc hB hHeld.2.2.2.1, pwc hB hHeld.2.2.2.2⟩, fun hHeld => nA ?_⟩
  clear hB
  refine cK 16 9 (H2.out _ _ (HQ.out.below HZ.out)) ?_
  rintro e w3 ⟨rfl, hB⟩
  replace HZ := Aside0.mk (below_then HZ.out HZ.out.size hB)
  replace HW := Aside0.mk (below_then HW.out HW.out.size hB)
  refine ⟨_, rfl, ⟨pwc hB hHeld.1, pwc hB hHeld.2.1, pwc hB hHeld.2.2.1, pwc hB hHeld.2.2.2.1, pwc hB hHeld.2.2.2.2⟩, fun hHeld => nA ?_⟩
  clear hB
  have hmx : (if (depth x : Int) < (depth y : Int) then (depth y : Int) else (depth x : Int)) = ((max (depth x) (depth y) : Nat) : Int) := by split <;> omega
  have hw26 : IntKind.i64.wrap (1 + (depth x : Int)) = 1 + (depth x : Int) := by rw [i64_w, w64 _ (by omega) (by omega)]
  have hw50 : IntKind.i64.wrap (1 + (depth y : Int)) = 1 + (depth y : Int) := by rw [i64_w, w64 _ (by omega) (by omega)]
  have hw74 : IntKind.i64.wrap (1 + ((max (depth x) (depth y) : Nat) : Int)) = 1 + ((max (depth x) (depth y) : Nat) : Int) := by rw [i64_w, w64 _ (by omega) (by omega)]
  refine tK 17 10 hHeld ?_
  refine tK 18 11 hHeld ?_
  refine tK 2 12 hHeld ?_
  refine wpAnyH_done (by kernel_rfl) ?_ _
  go_wp2_with fail
  all_goals
    go_ret
    refine ⟨congrArg (fun z : Int => Ending.returned (.int .i64 z)) ?_, HW.out⟩
    rw [HV.out]
    first | rfl | omega | (simp <;> omega)
theorem High_at (n : Nat) : ∀ (t : S43) (v : Value) (w : World), nodes t < n → nodes t ≤ 8192 → rightB t = true → IsT w v t → Calls Tryd.prog 103 #[v] w (DeepPost (depth t) w) := by
  induction n with
  | zero => intro t v w h; omega
  | succ n ih =>
    intro t v w hn h8 hr hT
    rcases right_cases hr with ⟨k, hk, rfl⟩ | ⟨k, x, y, hk, hx, hy, rfl⟩
    · exact High_leaf hT
    · rw [nodes_two] at hn h8
      have dx := depth_le x
      have dy := depth_le y
      exact High_two hT ⟨by omega⟩ ⟨fun v w h => ih x v w (by omega) (by omega) hx h⟩ ⟨fun v w h => ih y v w (by omega) (by omega) hy h⟩
theorem High_calls {t : S43} {v : Value} {w : World} (h : IsT w v t) (h8 : nodes t ≤ 8192) (hr : rightB t = true) : Calls Tryd.prog 103 #[v] w (DeepPost (depth t) w) := High_at _ t v w (Nat.lt_succ_self _) h8 hr h
set_option maxRecDepth 100000 in
set_option maxHeartbeats 3200000 in
theorem rhi_0 {x : S54} {v : Value} {w : World} (hx : IsC w v x) (hk : Aside0 (x.f0 = 0)) : Calls Tryd.prog 54 #[v] w (DeepPost (chigh x) w) := by
  have HX := Aside0.mk hx
  obtain ⟨A2, c2, A4, c4, A7, c7, rfl, hl2, hC2, hl4, hC4, hl7, hC⟩ := hx
  have HT := Aside0.mk (IsT.mk (k := x.f1.f0) hl2 hC2)
  have HU := Aside0.mk (IsT.mk (k := x.f2.f0) hl4 hC4)
  rw [S43.eta] at HT HU
  clear hl2 hC2 hl4 hC4 hl7
  have hB : Below w.heap.size w (w.alloc (.cells #[.int .i8 x.f0, .int .i8 x.f1.f0, .slice A2 x.f1.f1.length c2, .int .i8 x.f2.f0, .slice A4 x.f2.f1.length c4, .int .i64 x.f3, .bool x.f4, .slice A7 x.f5.length c7] 54)) := (Below.refl _ _).alloc (Nat.le_refl _) _
  have K0 := Aside0.mk (heap_alloc_new w (.cells #[.int .i8 x.f0, .int .i8 x.f1.f0, .slice A2 x.f1.f1.length c2, .int .i8 x.f2.f0, .slice A4 x.f2.f1.length c4, .int .i64 x.f3, .bool x.f4, .slice A7 x.f5.length c7] 54))
  replace HX := Aside0.mk (HX.out.below hB)
  replace HT := Aside0.mk (HT.out.below hB)
  replace HU := Aside0.mk (HU.out.below hB)
  clear hC
  have HW := Aside0.mk hB
  clear hB
  have gk0 : (x.f0 == 0) = true := by rw [hk.out]; rfl
  go_enter Tryd.func54, Tryd.ntmps54
  go_wp2_with fail
  generalize w.alloc (.cells #[.int .i8 x.f0, .int .i8 x.f1.f0, .slice A2 x.f1.f1.length c2, .int .i8 x.f2.f0, .slice A4 x.f2.f1.length c4, .int .i64 x.f3, .bool x.f4, .slice A7 x.f5.length c7] 54) = w0 at *
  go_ret
  exact ⟨by rw [chigh_one (by have := hk.out; omega)]; rfl, HW.out⟩
set_option maxRecDepth 100000 in
set_option maxHeartbeats 3200000 in
theorem rhi_1 {x : S54} {v : Value} {w : World} (hx : IsC w v x) (hk : Aside0 (x.f0 = 1)) : Calls Tryd.prog 54 #[v] w (DeepPost (chigh x) w) := by
  have HX := Aside0.mk hx
  obtain ⟨A2, c2, A4, c4, A7, c7, rfl, hl2, hC2, hl4, hC4, hl7, hC⟩ := hx
  have HT := Aside0.mk (IsT.mk (k := x.f1.f0) hl2 hC2)
  have HU := Aside0.mk (IsT.mk (k := x.f2.f0) hl4 hC4)
  rw [S43.eta] at HT HU
  clear hl2 hC2 hl4 hC4 hl7
  have hB : Below w.heap.size w (w.alloc (.cells #[.int .i8 x.f0, .int .i8 x.f1.f0, .slice A2 x.f1.f1.length c2, .int .i8 x.f2.f0, .slice A4 x.f2.f1.length c4, .int .i64 x.f3, .bool x.f4, .slice A7 x.f5.length c7] 54)) := (Below.refl _ _).alloc (Nat.le_refl _) _
  have K0 := Aside0.mk (heap_alloc_new w (.cells #[.int .i8 x.f0, .int .i8 x.f1.f0, .slice A2 x.f1.f1.length c2, .int .i8 x.f2.f0, .slice A4 x.f2.f1.length c4, .int .i64 x.f3, .bool x.f4, .slice A7 x.f5.length c7] 54))
  replace HX := Aside0.mk (HX.out.below hB)
  replace HT := Aside0.mk (HT.out.below hB)
  replace HU := Aside0.mk (HU.out.below hB)
  clear hC
  have HW := Aside0.mk hB
  clear hB
  have gk0 : (x.f0 == 0) = false := by rw [hk.out]; rfl
  have gk1 : (x.f0 == 1) = true := by rw [hk.out]; rfl
  go_enter Tryd.func54, Tryd.ntmps54
  go_wp2_with fail
  generalize w.alloc (.cells #[.int .i8 x.f0, .int .i8 x.f1.f0, .slice A2 x.f1.f1.length c2, .int .i8 x.f2.f0, .slice A4 x.f2.f1.length c4, .int .i64 x.f3, .bool x.f4, .slice A7 x.f5.length c7] 54) = w0 at *
  go_ret
  exact ⟨by rw [chigh_one (by have := hk.out; omega)]; rfl, HW.out⟩
set_option maxRecDepth 100000 in
set_option maxHeartbeats 3200000 in
theorem rhi_2 {x : S54} {v : Value} {w : World} (hx : IsC w v x) (hk : Aside0 (x.f0 = 2)) (h8 : Aside0 (nodes x.f1 ≤ 8192)) (hr : Aside0 (rightB x.f1 = true)) : Calls Tryd.prog 54 #[v] w (DeepPost (chigh x) w) := by
  have HX := Aside0.mk hx
  obtain ⟨A2, c2, A4, c4, A7, c7, rfl, hl2, hC2, hl4, hC4, hl7, hC⟩ := hx
  have HT := Aside0.mk (IsT.mk (k := x.f1.f0) hl2 hC2)
  have HU := Aside0.mk (IsT.mk (k := x.f2.f0) hl4 hC4)
  rw [S43.eta] at HT HU
  clear hl2 hC2 hl4 hC4 hl7
  have hB : Below w.heap.size w (w.alloc (.cells #[.int .i8 x.f0, .int .i8 x.f1.f0, .slice A2 x.f1.f1.length c2, .int .i8 x.f2.f0, .slice A4 x.f2.f1.length c4, .int .i64 x.f3, .bool x.f4, .slice A7 x.f5.length c7] 54)) := (Below.refl _ _).alloc (Nat.le_refl _) _
  have K0 := Aside0.mk (heap_alloc_new w (.cells #[.int .i8 x.f0, .int .i8 x.f1.f0, .slice A2 x.f1.f1.length c2, .int .i8 x.f2.f0, .slice A4 x.f2.f1.length c4, .int .i64 x.f3, .bool x.f4, .slice A7 x.f5.length c7] 54))
  replace HX := Aside0.mk (HX.out.below hB)
  replace HT := Aside0.mk (HT.out.below hB)
  replace HU := Aside0.mk (HU.out.below hB)
  clear hC
  have HW := Aside0.mk hB
  clear hB
  have gk0 : (x.f0 == 0) = false := by rw [hk.out]; rfl
  have gk1 : (x.f0 == 1) = false := by rw [hk.out]; rfl
  have gk2 : (x.f0 == 2) = true := by rw [hk.out]; rfl
  go_enter Tryd.func54, Tryd.ntmps54
  go_wp2_with fail
  generalize w.alloc (.cells #[.int .i8 x.f0, .int .i8 x.f1.f0, .slice A2 x.f1.f1.length c2, .int .i8 x.f2.f0, .slice A4 x.f2.f1.length c4, .int .i64 x.f3, .bool x.f4, .slice A7 x.f5.length c7] 54) = w0 at *
  refine (High_calls HT.out h8.out hr.out).mono ?_
  rintro e w1 ⟨rfl, hB⟩
  replace HW := Aside0.mk (below_then HW.out HW.out.size hB)
  clear hB
  go_wp2_with fail
  go_ret
  exact ⟨by rw [chigh_in (by have := hk.out; omega)]; rfl, HW.out⟩
set_option maxRecDepth 100000 in
set_option maxHeartbeats 3200000 in
theorem rhi_3 {x : S54} {v : Value} {w : World} (hx : IsC w v x) (hk : Aside0 (x.f0 = 3)) (h8 : Aside0 (nodes x.f1 ≤ 8192)) (hr : Aside0 (rightB x.f1 = true)) : Calls Tryd.prog 54 #[v] w (DeepPost (chigh x) w) := by
  have HX := Aside0.mk hx
  obtain ⟨A2, c2, A4, c4, A7, c7, rfl, hl2, hC2, hl4, hC4, hl7, hC⟩ := hx
  have HT := Aside0.mk (IsT.mk (k := x.f1.f0) hl2 hC2)
  have HU := Aside0.mk (IsT.mk (k := x.f2.f0) hl4 hC4)
  rw [S43.eta] at HT HU
  clear hl2 hC2 hl4 hC4 hl7
  have hB : Below w.heap.size w (w.alloc (.cells #[.int .i8 x.f0, .int .i8 x.f1.f0, .slice A2 x.f1.f1.length c2, .int .i8 x.f2.f0, .slice A4 x.f2.f1.length c4, .int .i64 x.f3, .bool x.f4, .slice A7 x.f5.length c7] 54)) := (Below.refl _ _).alloc (Nat.le_refl _) _
  have K0 := Aside0.mk (heap_alloc_new w (.cells #[.int .i8 x.f0, .int .i8 x.f1.f0, .slice A2 x.f1.f1.length c2, .int .i8 x.f2.f0, .slice A4 x.f2.f1.length c4, .int .i64 x.f3, .bool x.f4, .slice A7 x.f5.length c7] 54))
  replace HX := Aside0.mk (HX.out.below hB)
  replace HT := Aside0.mk (HT.out.below hB)
  replace HU := Aside0.mk (HU.out.below hB)
  clear hC
  have HW := Aside0.mk hB
  clear hB
  have gk0 : (x.f0 == 0) = false := by rw [hk.out]; rfl
  have gk1 : (x.f0 == 1) = false := by rw [hk.out]; rfl
  have gk2 : (x.f0 == 2) = false := by rw [hk.out]; rfl
  have gk3 : (x.f0 == 3) = true := by rw [hk.out]; rfl
  go_enter Tryd.func54, Tryd.ntmps54
  go_wp2_with fail
  generalize w.alloc (.cells #[.int .i8 x.f0, .int .i8 x.f1.f0, .slice A2 x.f1.f1.length c2, .int .i8 x.f2.f0, .slice A4 x.f2.f1.length c4, .int .i64 x.f3, .bool x.f4, .slice A7 x.f5.length c7] 54) = w0 at *
  refine (High_calls HT.out h8.out hr.out).mono ?_
  rintro e w1 ⟨rfl, hB⟩
  replace HW := Aside0.mk (below_then HW.out HW.out.size hB)
  clear hB
  go_wp2_with fail
  go_ret
  exact ⟨by rw [chigh_in (by have := hk.out; omega)]; rfl, HW.out⟩
set_option maxRecDepth 100000 in
set_option maxHeartbeats 3200000 in
theorem rhi_two {x p q : S54} {v : Value} {w : World} (hx : IsC w v x) (hl : Aside0 (x.f5 = [p, q])) (hlo : Aside0 (leafB x.f0 = false)) (hs : Aside0 (chigh p ≤ 8392 ∧ chigh q ≤ 8392)) (H1 : Aside0 (∀ (v : Value) (w : World), IsC w v p → Calls Tryd.prog 54 #[v] w (DeepPost (chigh p) w))) (H2 : Aside0 (∀ (v : Value) (w : World), IsC w v q → Calls Tryd.prog 54 #[v] w (DeepPost (chigh q) w))) : Calls Tryd.prog 54 #[v] w (DeepPost (chigh x) w) := by
  have HX := Aside0.mk hx
  obtain ⟨A2, c2, A4, c4, A7, c7, rfl, hl2, hC2, hl4, hC4, hl7, hC⟩ := hx
  have hlen : x.f5.length = 2 := by rw [hl.out]; rfl
  rw [hlen] at hC ⊢
  clear hlen
  clear hl2 hC2 hl4 hC4 hl7
  obtain ⟨ad, P2, Pn2, P4, Pn4, P7, Pn7, rfl, hk1, hP⟩ := kid_at hC 0 (by omega) (by omega) (x := p) (by rw [hl.out]; rfl)
  obtain ⟨ad', Q2, Qn2, Q4, Qn4, Q7, Qn7, e', hk2, hQ⟩ := kid_at hC 1 (by omega) (by omega) (x := q) (by rw [hl.out]; rfl)
  cases e'
  simp [Addr.add] at hk1 hk2
  have hB : Below w.heap.size w (w.alloc (.cells #[.int .i8 x.f0, .int .i8 x.f1.f0, .slice A2 x.f1.f1.length c2, .int .i8 x.f2.f0, .slice A4 x.f2.f1.length c4, .int .i64 x.f3, .bool x.f4, .slice (some ad) 2 c7] 54)) := (Below.refl _ _).alloc (Nat.le_refl _) _
  have K0 := Aside0.mk (heap_alloc_new w (.cells #[.int .i8 x.f0, .int .i8 x.f1.f0, .slice A2 x.f1.f1.length c2, .int .i8 x.f2.f0, .slice A4 x.f2.f1.length c4, .int .i64 x.f3, .bool x.f4, .slice (some ad) 2 c7] 54))
  have HP := Aside0.mk (hP.below hB)
  have HQ := Aside0.mk (hQ.below hB)
  have HK1 : Aside0 ((w.alloc (.cells #[.int .i8 x.f0, .int .i8 x.f1.f0, .slice A2 x.f1.f1.length c2, .int .i8 x.f2.f0, .slice A4 x.f2.f1.length c4, .int .i64 x.f3, .bool x.f4, .slice (some ad) 2 c7] 54)).cell? ad = some (.int .i8 p.f0) ∧ (w.alloc (.cells #[.int .i8 x.f0, .int .i8 x.f1.f0, .slice A2 x.f1.f1.length c2, .int .i8 x.f2.f0, .slice A4 x.f2.f1.length c4, .int .i64 x.f3, .bool x.f4, .slice (some ad) 2 c7] 54)).cell? ⟨ad.block, ad.off + 1, none⟩ = some (.int .i8 p.f1.f0) ∧ (w.alloc (.cells #[.int .i8 x.f0, .int .i8 x.f1.f0, .slice A2 x.f1.f1.length c2, .int .i8 x.f2.f0, .slice A4 x.f2.f1.length c4, .int .i64 x.f3, .bool x.f4, .slice (some ad) 2 c7] 54)).cell? ⟨ad.block, ad.off + 2, none⟩ = some (.slice P2 p.f1.f1.length Pn2) ∧ (w.alloc (.cells #[.int .i8 x.f0, .int .i8 x.f1.f0, .slice A2 x.f1.f1.length c2, .int .i8 x.f2.f0, .slice A4 x.f2.f1.length c4, .int .i64 x.f3, .bool x.f4, .slice (some ad) 2 c7] 54)).cell? ⟨ad.block, ad.off + 3, none⟩ = some (.int .i8 p.f2.f0) ∧ (w.alloc (.cells #[.int .i8 x.f0, .int .i8 x.f1.f0, .slice A2 x.f1.f1.length c2, .int .i8 x.f2.f0, .slice A4 x.f2.f1.length c4, .int .i64 x.f3, .bool x.f4, .slice (some ad) 2 c7] 54)).cell? ⟨ad.block, ad.off + 4, none⟩ = some (.slice P4 p.f2.f1.length Pn4) ∧ (w.alloc (.cells #[.int .i8 x.f0, .int .i8 x.f1.f0, .slice A2 x.f1.f1.length c2, .int .i8 x.f2.f0, .slice A4 x.f2.f1.length c4, .int .i64 x.f3, .bool x.f4, .slice (some ad) 2 c7] 54)).cell? ⟨ad.block, ad.off + 5, none⟩ = some (.int .i64 p.f3) ∧ (w.alloc (.cells #[.int .i8 x.f0, .int .i8 x.f1.f0, .slice A2 x.f1.f1.length c2, .int .i8 x.f2.f0, .slice A4 x.f2.f1.length c4, .int .i64 x.f3, .bool x.f4, .slice (some ad) 2 c7] 54)).cell? ⟨ad.block, ad.off + 6, none⟩ = some (.bool p.f4) ∧ (w.alloc (.cells #[.int .i8 x.f0, .int .i8 x.f1.f0, .slice A2 x.f1.f1.length c2, .int .i8 x.f2.f0, .slice A4 x.f2.f1.length c4, .int .i64 x.f3, .bool x.f4, .slice (some ad) 2 c7] 54)).cell? ⟨ad.block, ad.off + 7, none⟩ = some (.slice P7 p.f5.length Pn7)) := .mk ⟨pwc hB hk1.1, pwc hB hk1.2.1, pwc hB hk1.2.2.1, pwc hB hk1.2.2.2.1, pwc hB hk1.2.2.2.2.1, pwc hB hk1.2.2.2.2.2.1, pwc hB hk1.2.2.2.2.2.2.1, pwc hB hk1.2.2.2.2.2.2.2⟩
  have HK2 : Aside0 ((w.alloc (.cells #[.int .i8 x.f0, .int .i8 x.f1.f0, .slice A2 x.f1.f1.length c2, .int .i8 x.f2.f0, .slice A4 x.f2.f1.length c4, .int .i64 x.f3, .bool x.f4, .slice (some ad) 2 c7] 54)).cell? ⟨ad.block, ad.off + 8, none⟩ = some (.int .i8 q.f0) ∧ (w.alloc (.cells #[.int .i8 x.f0, .int .i8 x.f1.f0, .slice A2 x.f1.f1.length c2, .int .i8 x.f2.f0, .slice A4 x.f2.f1.length c4, .int .i64 x.f3, .bool x.f4, .slice (some ad) 2 c7] 54)).cell? ⟨ad.block, ad.off + 8 + 1, none⟩ = some (.int .i8 q.f1.f0) ∧ (w.alloc (.cells #[.int .i8 x.f0, .int .i8 x.f1.f0, .slice A2 x.f1.f1.length c2, .int .i8 x.f2.f0, .slice A4 x.f2.f1.length c4, .int .i64 x.f3, .bool x.f4, .slice (some ad) 2 c7] 54)).cell? ⟨ad.block, ad.off + 8 + 2, none⟩ = some (.slice Q2 q.f1.f1.length Qn2) ∧ (w.alloc (.cells #[.int .i8 x.f0, .int .i8 x.f1.f0, .slice A2 x.f1.f1.length c2, .int .i8 x.f2.f0, .slice A4 x.f2.f1.length c4, .int .i64 x.f3, .bool x.f4, .slice (some ad) 2 c7] 54)).cell? ⟨ad.block, ad.off + 8 + 3, none⟩ = some (.int .i8 q.f2.f0) ∧ (w.alloc (.cells #[.int .i8 x.f0, .int .i8 x.f1.f0, .slice A2 x.f1.f1.length c2, .int .i8 x.f2.f0, .slice A4 x.f2.f1.length c4, .int .i64 x.f3, .bool x.f4, .slice (some ad) 2 c7] 54)).cell? ⟨ad.block, ad.off + 8 + 4, none⟩ = some (.slice Q4 q.f2.f1.length Qn4) ∧ (w.alloc (.cells #[.int .i8 x.f0, .int .i8 x.f1.f0, .slice A2 x.f1.f1.length c2, .int .i8 x.f2.f0, .slice A4 x.f2.f1.length c4, .int .i64 x.f3, .bool x.f4, .slice (some ad) 2 c7] 54)).cell? ⟨ad.block, ad.off + 8 + 5, none⟩ = some (.int .i64 q.f3) ∧ (w.alloc (.cells #[.int .i8 x.f0, .int .i8 x.f1.f0, .slice A2 x.f1.f1.length c2, .int .i8 x.f2.f0, .slice A4 x.f2.f1.length c4, .int .i64 x.f3, .bool x.f4, .slice (some ad) 2 c7] 54)).cell? ⟨ad.block, ad.off + 8 + 6, none⟩ = some (.bool q.f4) ∧ (w.alloc (.cells #[.int .i8 x.f0, .int .i8 x.f1.f0, .slice A2 x.f1.f1.length c2, .int .i8 x.f2.f0, .slice A4 x.f2.f1.length c4, .int .i64 x.f3, .bool x.f4, .slice (some ad) 2 c7] 54)).cell? ⟨ad.block, ad.off + 8 + 7, none⟩ = some (.slice Q7 q.f5.length Qn7)) := .mk ⟨pwc hB hk2.1, pwc hB hk2.2.1, pwc hB hk2.2.2.1, pwc hB hk2.2.2.2.1, pwc hB hk2.2.2.2.2.1, pwc hB hk2.2.2.2.2.2.1, pwc hB hk2.2.2.2.2.2.2.1, pwc hB hk2.2.2.2.2.2.2.2⟩
  clear hk1 hk2 hP hQ hC
  have HW := Aside0.mk hB
  clear hB
  have gk0 : (x.f0 == 0) = false := beq_eq_false_iff_ne.mpr (by have := leafB_not hlo.out; omega)
  have gk1 : (x.f0 == 1) = false := beq_eq_false_iff_ne.mpr (by have := leafB_not hlo.out; omega)
  have gk2 : (x.f0 == 2) = false := beq_eq_false_iff_ne.mpr (by have := leafB_not hlo.out; omega)
  have gk3 : (x.f0 == 3) = false := beq_eq_false_iff_ne.mpr (by have := leafB_not hlo.out; omega)
  have hb := hs.out
  have hmx : (if (chigh p : Int) < (chigh q : Int) then (chigh q : Int) else (chigh p : Int)) = ((max (chigh p) (chigh q) : Nat) : Int) := by split <;> omega
  have hmb : max (chigh p) (chigh q) ≤ 8392 := by omega
  have HV := Aside0.mk (chigh_two hlo.out hl.out)
  go_enter Tryd.func54, Tryd.ntmps54
  go_wp2_with fail
  generalize w.alloc (.cells #[.int .i8 x.f0, .int .i8 x.f1.f0, .slice A2 x.f1.f1.length c2, .int .i8 x.f2.f0, .slice A4 x.f2.f1.length c4, .int .i64 x.f3, .bool x.f4, .slice (some ad) 2 c7] 54) = w0 at *
  refine wp_region_held_drew (S := fun w' => w'.cell? ⟨w.heap.size, 0, none⟩ = some (.int .i8 x.f0) ∧ w'.cell? ⟨w.heap.size, 7, none⟩ = some (.slice (some ad) 2 c7) ∧ w'.cell? ad = some (.int .i8 p.f0) ∧ w'.cell? ⟨ad.block, ad.off + 1, none⟩ = some (.int .i8 p.f1.f0) ∧ w'.cell? ⟨ad.block, ad.off + 2, none⟩ = some (.slice P2 p.f1.f1.length Pn2) ∧ w'.cell? ⟨ad.block, ad.off + 3, none⟩ = some (.int .i8 p.f2.f0) ∧ w'.cell? ⟨ad.block, ad.off + 4, none⟩ = some (.slice P4 p.f2.f1.length Pn4) ∧ w'.cell? ⟨ad.block, ad.off + 5, none⟩ = some (.int .i64 p.f3) ∧ w'.cell? ⟨ad.block, ad.off + 6, none⟩ = some (.bool p.f4) ∧ w'.cell? ⟨ad.block, ad.off + 7, none⟩ = some (.slice P7 p.f5.length Pn7) ∧ w'.cell? ⟨ad.block, ad.off + 8, none⟩ = some (.int .i8 q.f0) ∧ w'.cell? ⟨ad.block, ad.off + 8 + 1, none⟩ = some (.int .i8 q.f1.f0) ∧ w'.cell? ⟨ad.block, ad.off + 8 + 2, none⟩ = some (.slice Q2 q.f1.f1.length Qn2) ∧ w'.cell? ⟨ad.block, ad.off + 8 + 3, none⟩ = some (.int .i8 q.f2.f0) ∧ w'.cell? ⟨ad.block, ad.off + 8 + 4, none⟩ = some (.slice Q4 q.f2.f1.length Qn4) ∧ w'.cell? ⟨ad.block, ad.off + 8 + 5, none⟩ = some (.int .i64 q.f3) ∧ w'.cell? ⟨ad.block, ad.off + 8 + 6, none⟩ = some (.bool q.f4) ∧ w'.cell? ⟨ad.block, ad.off + 8 + 7, none⟩ = some (.slice Q7 q.f5.length Qn7)) (by kernel_rfl) ⟨bcl K0.out, bcl K0.out, HK1.out.1, HK1.out.2.1, HK1.out.2.2.1, HK1.out.2.2.2.1, HK1.out.2.2.2.2.1, HK1.out.2.2.2.2.2.1, HK1.out.2.2.2.2.2.2.1, HK1.out.2.2.2.2.2.2.2, HK2.out.1, HK2.out.2.1, HK2.out.2.2.1, HK2.out.2.2.2.1, HK2.out.2.2.2.2.1, HK2.out.2.2.2.2.2.1, HK2.out.2.2.2.2.2.2.1, HK2.out.2.2.2.2.2.2.2⟩ (fun hHeld => ?_)
  have HZ := Aside0.mk ((Below.refl w0.heap.size w0).drew)
  replace HW := Aside0.mk (below_then HW.out HW.out.size HZ.out)
  generalize w0.drew = w1 at *
  refine tK 15 0 hHeld ?_
  refine tK 16 1 hHeld ?_
  refine tK 17 2 hHeld ?_
  refine tK 18 3 hHeld ?_
  refine tK 20 5 hHeld ?_
  refine tK 21 6 hHeld ?_
  refine tK 22 7 hHeld ?_
  refine tK 23 8 hHeld ?_
  refine cK 19 4 (H1.out _ _ (HP.out.below HZ.out)) ?_
  rintro e w2 ⟨rfl, hB⟩
  replace HZ := Aside0.mk (below_then HZ.out HZ.out.size hB)
  replace HW := Aside0.mk (below_then HW.out HW.out.size hB)
  refine ⟨_, rfl, ⟨pwc hB hHeld.1, pwc hB hHeld.2.1, pwc hB hHeld.2.2.1, pwc hB hHeld.2.2.2.1, pwc hB hHeld.2.2.2.2.1, pwc hB hHeld.2.2.2.2.2.1, pwc hB hHeld.2.2.2.2.2.2.1, pwc hB hHeld.2.2.2.2.2.2.2.1, pwc hB hHeld.2.2.2.2.2.2.2.2.1, pwc hB hHeld.2.2.2.2.2.2.2.2.2.1, pwc hB hHeld.2.2.2.2.2.2.2.2.2.2.1, pwc hB hHeld.2.2.2.2.2.2.2.2.2.2.2.1, pwc hB hHeld.2.2.2.2.2.2.2.2.2.2.2.2.1, pwc hB hHeld.2.2.2.2.2.2.2.2.2.2.2.2.2.1, pwc hB hHeld.2.2.2.2.2.2.2.2.2.2.2.2.2.2.1, pwc hB hHeld.2.2.2.2.2.2.2.2.2.2.2.2.2.2.2.1, pwc hB hHeld.2.2.2.2.2.2.2.2.2.2.2.2.2.2.2.2.1, pwc hB hHeld.2.2.2.2.2.2.2.2.2.2.2.2.2.2.2.2.2⟩, fun hHeld => nA ?_⟩
  clear hB
  refine cK 24 9 (H2.out _ _ (HQ.out.below HZ.out)) ?_
  rintro e w3 ⟨rfl, hB⟩
  replace HZ := Aside0.mk (below_then HZ.out HZ.out.size hB)
  replace HW := Aside0.mk (below_then HW.out HW.out.size hB)
  refine ⟨_, rfl, ⟨pwc hB hHeld.1, pwc hB hHeld.2.1, pwc hB hHeld.2.2.1, pwc hB hHeld.2.2.2.1, pwc hB hHeld.2.2.2.2.1, pwc hB hHeld.2.2.2.2.2.1, pwc hB hHeld.2.2.2.2.2.2.1, pwc hB hHeld.2.2.2.2.2.2.2.1, pwc hB hHeld.2.2.2.2.2.2.2.2.1, pwc hB hHeld.2.2.2.2.2.2.2.2.2.1, pwc hB hHeld.2.2.2.2.2.2.2.2.2.2.1, pwc hB hHeld.2.2.2.2.2.2.2.2.2.2.2.1, pwc hB hHeld.2.2.2.2.2.2.2.2.2.2.2.2.1, pwc hB hHeld.2.2.2.2.2.2.2.2.2.2.2.2.2.1, pwc hB hHeld.2.2.2.2.2.2.2.2.2.2.2.2.2.2.1, pwc hB hHeld.2.2.2.2.2.2.2.2.2.2.2.2.2.2.2.1, pwc hB hHeld.2.2.2.2.2.2.2.2.2.2.2.2.2.2.2.2.1, pwc hB hHeld.2.2.2.2.2.2.2.2.2.2.2.2.2.2.2.2.2⟩, fun hHeld => nA ?_⟩
  clear hB
  refine tK 25 10 hHeld ?_
  refine tK 3 11 hHeld ?_
  refine wpAnyH_done (by kernel_rfl) ?_ _
  have b0 := hHeld.1
  clear hHeld
  by_cases h7 : x.f0 = 7
  · have g7 : (x.f0 != 7) = false := bne_eq_false_iff_eq.mpr h7
    go_wp2_with fail
    all_goals
      go_ret
      refine ⟨congrArg (fun z : Int => Ending.returned (.int .i64 z)) ?_, HW.out⟩
      rw [HV.out, if_pos h7]
      first | rfl | omega | (simp <;> omega)
  · have g7 : (x.f0 != 7) = true := bne_iff_ne.mpr h7
    go_wp2_with fail
    all_goals
      go_ret
      refine ⟨congrArg (fun z : Int => Ending.returned (.int .i64 z)) ?_, HW.out⟩
      rw [HV.out, if_neg h7]
      first | rfl | omega | (simp <;> omega)
theorem rsize_all : ∀ (x : S54), (endsC x).isSome = true → cnodes x ≤ 8192 → ∀ (v : Value) (w : World), IsC w v x → Calls Tryd.prog 53 #[v] w (DeepPost (csize x) w) :=
  co_ind (P := fun x => cnodes x ≤ 8192 → ∀ (v : Value) (w : World), IsC w v x → Calls Tryd.prog 53 #[v] w (DeepPost (csize x) w))
    (fun x hk hl hx h8 v w h => rsz_leaf h ⟨hl⟩)
    (fun x p q hk hl hx hp hq h1 h2 h8 v w h => by
      have hc := cnodes_kids hl
      have s1 := csize_le p hp
      have s2 := csize_le q hq
      exact rsz_two h ⟨hl⟩ ⟨hk⟩ ⟨by omega⟩ ⟨h1 (by omega)⟩ ⟨h2 (by omega)⟩)
theorem rheight_all : ∀ (x : S54), (endsC x).isSome = true → cnodes x ≤ 8192 → ∀ (v : Value) (w : World), IsC w v x → Calls Tryd.prog 54 #[v] w (DeepPost (chigh x) w) :=
  co_ind (P := fun x => cnodes x ≤ 8192 → ∀ (v : Value) (w : World), IsC w v x → Calls Tryd.prog 54 #[v] w (DeepPost (chigh x) w))
    (fun x hk hl hx h8 v w h => by
      have hn := leaf_nodes hk hx
      rcases leafB_cases hk with e | e | e | e
      · exact rhi_0 h ⟨e⟩
      · exact rhi_1 h ⟨e⟩
      · exact rhi_2 h ⟨e⟩ ⟨by omega⟩ ⟨hn.2.1⟩
      · exact rhi_3 h ⟨e⟩ ⟨by omega⟩ ⟨hn.2.1⟩)
    (fun x p q hk hl hx hp hq h1 h2 h8 v w h => by
      have hc := cnodes_kids hl
      have s1 := chigh_le p hp
      have s2 := chigh_le q hq
      exact rhi_two h ⟨hl⟩ ⟨hk⟩ ⟨by omega⟩ ⟨h1 (by omega)⟩ ⟨h2 (by omega)⟩)
theorem rsize_calls {x : S54} {v : Value} {w : World} (h : IsC w v x) (hx : (endsC x).isSome = true) (h8 : cnodes x ≤ 8192) : Calls Tryd.prog 53 #[v] w (DeepPost (csize x) w) := rsize_all x hx h8 v w h
theorem rheight_calls {x : S54} {v : Value} {w : World} (h : IsC w v x) (hx : (endsC x).isSome = true) (h8 : cnodes x ≤ 8192) : Calls Tryd.prog 54 #[v] w (DeepPost (chigh x) w) := rheight_all x hx h8 v w h
end Go.Proofs.YtjmpejbciniceaaDoor.X
namespace Go.Proofs.YtjmpejbciniceaaDoor.X
open Go.RowKit Go.Proofs.YtjmpejbciniceaaDoorW.PrintWords Go.Proofs.YtjmpejbciniceaaDoorW.PrintLast Go.Proofs.YtjmpejbciniceaaDoorW.PrintMore
set_option linter.unusedVariables false
set_option linter.unusedSimpArgs false
def KindIH (n : Nat) : Prop := ∀ (t : S43) (va vb : Value) (w : World), nodes t < n → nodes t ≤ 8192 → IsT w va t → IsT w vb t → Calls Tryd.prog 18 #[va, vb] w (SaysB true w)
set_option maxRecDepth 100000 in
set_option maxHeartbeats 3200000 in
theorem Kind_node (n : Nat) (k : Int) (l : List S43) (A B : Option Addr) (c d : Nat) (w : World) (IH : Aside0 (KindIH n)) (HN : Aside0 (nodes ⟨k, l⟩ < n + 1)) (HM : Aside0 (nodes ⟨k, l⟩ ≤ 8192)) (hA : Kd.C k43 w A l.length l) (hB0 : Kd.C k43 w B l.length l) :
    Calls Tryd.prog 18 #[.agg #[.int .i8 k, .slice A l.length c], .agg #[.int .i8 k, .slice B l.length d]] w (SaysB true w) := by
  have hL : l.length ≤ 9223372036854775807 := hA.2.1
  obtain ⟨q0, q1, hB⟩ := two_ w (.cells #[.int .i8 k, .slice A l.length c] 43) (.cells #[.int .i8 k, .slice B l.length d] 43)
  have HK0 := Aside0.mk q0
  have HK1 := Aside0.mk q1
  have HA := Aside0.mk (Kd.C_below hA hB)
  have HB := Aside0.mk (Kd.C_below hB0 hB)
  have HW := Aside0.mk hB
  clear q0 q1 hA hB0 hB
  go_enter Tryd.func18, Tryd.ntmps18
  go_wp2_with fail
  generalize (w.alloc (.cells #[.int .i8 k, .slice A l.length c] 43)).alloc (.cells #[.int .i8 k, .slice B l.length d] 43) = w0 at *
  go_loopw [23] (fun i wr => ∃ j : Nat, i = .int .i64 j ∧ j ≤ l.length ∧ Below w0.heap.size w0 wr) (fun i _ => l.length - (intOf i).toNat)
  case atStart => exact ⟨0, rfl, Nat.zero_le _, Below.refl _ _⟩
  case round =>
    obtain ⟨j, rfl, hj, hB⟩ := hrel
    have HY := Aside0.mk hB
    clear hB
    have K0 := Aside0.mk (blk_below HK0.out HY.out)
    have K1 := Aside0.mk (blk_below HK1.out HY.out)
    by_cases hlt : j < l.length
    · obtain ⟨ad, P2, Pn2, rfl, ha0, ha1, la1, la2⟩ := at_T43 (Kd.C_below HA.out HY.out) (j : Int) (by omega) (by omega)
      obtain ⟨ae, Q2, Qn2, rfl, hb0, hb1, lb1, lb2⟩ := at_T43 (Kd.C_below HB.out HY.out) (j : Int) (by omega) (by omega)
      have HKa : Aside0 (IsT wr (.agg #[.int .i8 (rd_T43 l (j : Int)).f0, .slice P2 (rd_T43 l (j : Int)).f1.length Pn2]) (rd_T43 l (j : Int))) := .mk ⟨P2, Pn2, rfl, la1, la2⟩
      have HKb : Aside0 (IsT wr (.agg #[.int .i8 (rd_T43 l (j : Int)).f0, .slice Q2 (rd_T43 l (j : Int)).f1.length Qn2]) (rd_T43 l (j : Int))) := .mk ⟨Q2, Qn2, rfl, lb1, lb2⟩
      have HN2 : Aside0 (nodes (rd_T43 l (j : Int)) < n ∧ nodes (rd_T43 l (j : Int)) ≤ 8192) := .mk (by have e1 := nodes_rd_le l j hlt; have e3 := nodes_eq ⟨k, l⟩; have := HN.out; have := HM.out; simp only at e3; omega)
      clear la1 la2 lb1 lb2
      generalize rd_T43 l (j : Int) = y at *
      have HDa := Aside0.mk ha0
      have HDb := Aside0.mk ha1
      have HDc := Aside0.mk hb0
      have HDd := Aside0.mk hb1
      clear ha0 ha1 hb0 hb1
      obtain ⟨a0, a1, -, -⟩ := cells2 K0.out
      go_wp2_with fail
      clear a0 a1
      have hda := HDa.out
      have hdb := HDb.out
      have hdc := HDc.out
      have hdd := HDd.out
      simp only [Int.toNat_natCast] at hda hdb hdc hdd
      refine wp_region_held_drew (S := fun w' => w'.cell? ⟨w.heap.size, 1, none⟩ = some (.slice (some ad) l.length c) ∧ w'.cell? ⟨w.heap.size + 1, 1, none⟩ = some (.slice (some ae) l.length d) ∧ w'.cell? (ad.add (j * 2)) = some (.int .i8 y.f0) ∧ w'.cell? ⟨(ad.add (j * 2)).block, (ad.add (j * 2)).off + 1, none⟩ = some (.slice P2 y.f1.length Pn2) ∧ w'.cell? (ae.add (j * 2)) = some (.int .i8 y.f0) ∧ w'.cell? ⟨(ae.add (j * 2)).block, (ae.add (j * 2)).off + 1, none⟩ = some (.slice Q2 y.f1.length Qn2)) (by kernel_rfl) ⟨bcl K0.out, bcl K1.out, hda, hdb, hdc, hdd⟩ (fun hHeld => ?_)
      clear hda hdb hdc hdd
      have hB := (Below.refl wr.heap.size wr).drew
      replace HY := Aside0.mk (below_then HY.out HY.out.size hB)
      replace HKa := Aside0.mk (HKa.out.below hB)
      replace HKb := Aside0.mk (HKb.out.below hB)
      clear hB
      generalize wr.drew = wd at *
      refine tK 26 0 hHeld ?_
      refine tK 27 1 hHeld ?_
      refine tK 28 2 hHeld ?_
      refine tK 29 3 hHeld ?_
      refine tK 30 4 hHeld ?_
      refine tK 31 5 hHeld ?_
      refine tK 32 6 hHeld ?_
      refine tK 33 7 hHeld ?_
      refine tK 34 8 hHeld ?_
      refine tK 35 9 hHeld ?_
      refine cK 36 10 (IH.out y _ _ _ HN2.out.1 HN2.out.2 HKa.out HKb.out) ?_
      rintro e we ⟨rfl, hB⟩
      replace HY := Aside0.mk (below_then HY.out HY.out.size hB)
      refine ⟨_, rfl, ⟨pwc hB hHeld.1, pwc hB hHeld.2.1, pwc hB hHeld.2.2.1, pwc hB hHeld.2.2.2.1, pwc hB hHeld.2.2.2.2.1, pwc hB hHeld.2.2.2.2.2⟩, fun hHeld => nA ?_⟩
      clear hB
      refine tK 37 11 hHeld ?_
      refine wpAnyH_done (by kernel_rfl) ?_ _
      go_wp2_with fail
      go_roundw
      case rel => exact ⟨j + 1, by go_num, by omega, HY.out⟩
      case measure => simp [intOf]; omega
    · obtain rfl : j = l.length := by omega
      go_wp2_with fail
      go_ret
      exact ⟨rfl, below_then HW.out HW.out.size HY.out⟩
theorem Kind_all (n : Nat) : KindIH n := by
  induction n with
  | zero => intro t va vb w h; omega
  | succ n ih =>
    intro t va vb w hn h8 ha hb
    obtain ⟨k, l⟩ := t
    obtain ⟨A, c, rfl, h1, h2⟩ := ha
    obtain ⟨B, d, rfl, h3, h4⟩ := hb
    exact Kind_node n k l A B c d w ⟨ih⟩ ⟨hn⟩ ⟨h8⟩ h2 h4
theorem Kind_calls {t : S43} {va vb : Value} {w : World} (ha : IsT w va t) (hb : IsT w vb t) (h8 : nodes t ≤ 8192) : Calls Tryd.prog 18 #[va, vb] w (SaysB true w) := Kind_all _ t va vb w (Nat.lt_succ_self _) h8 ha hb
end Go.Proofs.YtjmpejbciniceaaDoor.X
