/- Texts of this claim, joined: HWds3, HCsz, WkCoerceCheck, HCArgL. -/
import Derived.OpenShut
import Derived.Test.YtjmpejbciniceaaDoorKCoerceCheck7
import Derived.Test.YtjmpejbciniceaaDoorKCoerceCheck11
import Derived.Test.YtjmpejbciniceaaDoorKCoerceCheck14
import Derived.Test.YtjmpejbciniceaaDoorKCoerceCheck15
import Derived.Test.YtjmpejbciniceaaDoorKCoerceCheck16
import Derived.Test.YtjmpejbciniceaaDoorKCoerceCheck17
namespace Go.Proofs.YtjmpejbciniceaaDoor.X
open Go.RowKit Go.Proofs.YtjmpejbciniceaaDoorW.PrintWords Go.Proofs.YtjmpejbciniceaaDoorW.PrintLast Go.Proofs.YtjmpejbciniceaaDoorW.PrintMore
set_option linter.unusedVariables false
set_option linter.unusedSimpArgs false
theorem sgn_field (s : ByteArray) (w : World) : (Instr.field 145 (.agg #[.string s]) 0).run Tryd.prog w = .ok (.string s) w := by kernel_rfl
set_option maxRecDepth 100000 in
set_option maxHeartbeats 6400000 in
theorem words_7 {x x1 x2 : S54} {p : Addr} {A : Option Addr} {n c : Nat} {l : List ByteArray} {W0 w : World} (hp : Aside0 (AtC W0 p x)) (hO : OwnW W0 (.slice A n c) l w) (htab : Aside0 (HasTab W0)) (hlab : Aside0 (-9223372036854775808 ≤ x.f3 ∧ x.f3 ≤ 9223372036854775807)) (hlen : l.length + 8 * cnodes x ≤ 1000000) (hk : Aside0 (x.f0 = 7)) (hl : Aside0 (x.f5 = [x1, x2])) (hLB : Aside0 (leafB x.f0 = false)) (HN : Aside0 (cnodes x1 + cnodes x2 + 1 ≤ cnodes x ∧ (wordsS x1).length ≤ 8 * cnodes x1 ∧ (wordsS x2).length ≤ 8 * cnodes x2)) (H1 : Aside0 (∀ (q : Addr) (v : Value) (l : List ByteArray) (w : World), AtC W0 q x1 → OwnW W0 v l w → l.length + 8 * cnodes x1 ≤ 1000000 → Calls Tryd.prog 56 #[v, .pointer (some q)] w (WordsPost W0 v w (l ++ wordsS x1)))) (H2 : Aside0 (∀ (q : Addr) (v : Value) (l : List ByteArray) (w : World), AtC W0 q x2 → OwnW W0 v l w → l.length + 8 * cnodes x2 ≤ 1000000 → Calls Tryd.prog 56 #[v, .pointer (some q)] w (WordsPost W0 v w (l ++ wordsS x2)))) : Calls Tryd.prog 56 #[(.slice A n c), .pointer (some p)] w (WordsPost W0 (.slice A n c) w (l ++ wordsS x)) := by
  obtain ⟨A2, c2, A4, c4, A7, c7, hP, hT, hU, hl7, hC⟩ := hp.out
  have HP := Aside0.mk hP
  have HT := Aside0.mk hT
  have HU := Aside0.mk hU
  have HC := Aside0.mk hC
  clear hP hT hU hC
  have hlen2 : Aside0 (x.f5.length = 2) := .mk (by rw [hl.out]; rfl)
  obtain ⟨ad, rfl, hq1⟩ := AtC_kid HC.out 0 (by omega) (by have := hlen2.out; omega) (x := x1) (by rw [hl.out]; rfl)
  obtain ⟨ad', e', hq2⟩ := AtC_kid HC.out 1 (by omega) (by have := hlen2.out; omega) (x := x2) (by rw [hl.out]; rfl)
  cases e'
  have HQ1 := Aside0.mk hq1
  have HQ2 := Aside0.mk hq2
  clear hq1 hq2
  have hmf : ∀ (fn : Fn) (first cap : Array Value) (w : World), (Instr.makeFunc fn first cap).run Tryd.prog w = .ok (.func fn first cap) w := fun _ _ _ _ => rfl
  have HG := Aside0.mk hO.below.size
  have hb : Below w.heap.size w (w.alloc (.cells #[(.slice A n c)] 100)) := (Below.refl _ _).alloc (Nat.le_refl _) _
  have HR : Aside0 (RSt W0 w (.slice A n c) w.heap.size (.slice A n c) (.slice A n c) l (w.alloc (.cells #[(.slice A n c)] 100))) := .mk ⟨hO.after hb, Grew.below hb, heap_alloc_new w _, hO.ne⟩
  clear hb hO
  obtain ⟨k0, k1, k2, k3, k4, k5, k6, k7⟩ := HP.out.below HR.out.own.below (Nat.le_refl _)
  have gk0 : (x.f0 == 0) = false := by rw [hk.out]; rfl
  have gk1 : (x.f0 == 1) = false := by rw [hk.out]; rfl
  have gk2 : (x.f0 == 2) = false := by rw [hk.out]; rfl
  have gk3 : (x.f0 == 3) = false := by rw [hk.out]; rfl
  have gk7 : (x.f0 == 7) = true := by rw [hk.out]; rfl
  go_enter Tryd.func56, Tryd.ntmps56
  go_wp2_with fail
  clear k0 k1 k2 k3 k4 k5 k6 k7
  generalize w.alloc (.cells #[(.slice A n c)] 100) = w1 at *
  refine (itoa_calls x.f3 w1 hlab.out.1 hlab.out.2 (htab.out.below HR.out.own.below)).mono ?_
  rintro e w2 ⟨rfl, hB⟩
  replace HR := Aside0.mk (HR.out.next hB)
  clear hB
  obtain ⟨k0, k1, k2, k3, k4, k5, k6, k7⟩ := HP.out.below HR.out.own.below (Nat.le_refl _)
  go_upto_if 17 with fail
  go_cut [6] (fun sv wx => sv = .string (bS (sideC x.f3 x.f4)) ∧ RSt W0 w (.slice A n c) w.heap.size (.slice A n c) (.slice A n c) l wx)
  case first =>
    have q0 : ¬ (9223372036854775807 < 1 + (bS (Lib.itoa x.f3)).size) := by rw [bS_size]; have := itoa_len' x.f3 hlab.out.1 hlab.out.2; omega
    cases hn : x.f4 with
    | true =>
      rw [hn] at k6
      go_wp2_with fail
      go_meet
      refine ⟨congrArg Value.string ?_, HR.out⟩
      rw [show (⟨#[45]⟩ : ByteArray) = bS [45] from rfl, bS_app]
      simp [sideC, hn]
    | false =>
      rw [hn] at k6
      go_wp2_with fail
      go_meet
      refine ⟨congrArg Value.string ?_, HR.out⟩
      simp [sideC, hn]
  case rest =>
  obtain ⟨rfl, hr⟩ := hcut
  replace HR := Aside0.mk hr
  clear hr k0 k1 k2 k3 k4 k5 k6 k7
  have P7 := Aside0.mk (fun w' (hb : Below W0.heap.size W0 w') => (show w'.cell? ⟨p.block, p.off + 7, none⟩ = some (.slice (some ad) 2 c7) by have := (HP.out.below hb (Nat.le_refl _)).2.2.2.2.2.2.2; rw [hlen2.out] at this; exact this))
  obtain ⟨k0, -⟩ := HP.out.below HR.out.own.below (Nat.le_refl _)
  go_wp2_with fail
  clear k0
  have HRd := Aside0.mk (HR.out.next (Below.refl _ _).drew)
  refine wp_region_held_drew (S := fun w' => w'.cell? ⟨w.heap.size, 0, none⟩ = some (.slice A n c) ∧ w'.cell? ⟨p.block, p.off + 7, none⟩ = some (.slice (some ad) 2 c7)) (by kernel_rfl) ⟨bcl HRd.out.cell, P7.out _ HRd.out.own.below⟩ (fun hHeld => ?_)
  replace HR := HRd
  clear HRd
  generalize wc.drew = wd at *
  refine tK 82 0 hHeld ?_
  refine tK 83 1 hHeld ?_
  refine tK 84 2 hHeld ?_
  refine tK 85 3 hHeld ?_
  refine tK 86 4 hHeld ?_
  refine tK 87 5 hHeld ?_
  refine tK 91 9 hHeld ?_
  refine tK 92 10 hHeld ?_
  refine tK 93 11 hHeld ?_
  refine tK 94 12 hHeld ?_
  refine tK 95 13 hHeld ?_
  refine wpAnyH_ready (rs := [6, 7]) (by kernel_rfl) (by simp) ?_
  refine AllReadyH.cons rfl (fun K hK => ?_) (AllReadyH.cons rfl (fun K hK => ?_) AllReadyH.nil)
  · refine callK (by rfl) (by kernel_rfl) (H1.out ad (.slice A n c) _ wd (by simpa [Addr.add] using HQ1.out) HR.out.own (by have := HN.out; (try simp only [List.length_append, List.length_cons, List.length_nil]); omega)) ?_
    rintro e wk1 ⟨vv, rfl, ho, hgr⟩
    obtain ⟨A1, n1, m1, rfl⟩ := ho.slice
    replace HR := Aside0.mk (HR.out.grow ho hgr)
    clear ho hgr
    refine ⟨_, rfl, ?_⟩
    refine hK.out _ _ ⟨bcl HR.out.cell, P7.out _ HR.out.own.below⟩ (fun hHeld => ?_)
    clear hK K
    try simp only [Act.put, List.setIfInBounds_toArray, List.set_cons_zero, List.set_cons_succ]
    refine wpAnyH_ready (rs := [7]) (by kernel_rfl) (by simp) ?_
    refine AllReadyH.cons rfl (fun K hK => ?_) AllReadyH.nil
    go_simp
    have hB : Below wk1.heap.size wk1 (wk1.alloc (.cells #[.string ⟨#[59]⟩] 9)) := (Below.refl _ _).alloc (Nat.le_refl _) _
    have B7 := Aside0.mk (heap_alloc_new wk1 (.cells #[.string ⟨#[59]⟩] 9))
    have N7 := Aside0.mk HR.out.own.ne
    replace HR := Aside0.mk (HR.out.next hB)
    refine hK.out _ _ ⟨bcl HR.out.cell, P7.out _ HR.out.own.below⟩ (fun hHeld => ?_)
    clear hK K
    try simp only [Act.put, List.setIfInBounds_toArray, List.set_cons_zero, List.set_cons_succ]
    clear hB
    generalize wk1.heap.size = g7 at *
    generalize wk1.alloc (.cells #[.string ⟨#[59]⟩] 9) = wb2 at *
    refine wpAnyH_ready (rs := [8]) (by kernel_rfl) (by simp) ?_
    refine AllReadyH.cons rfl (fun K hK => ?_) AllReadyH.nil
    rw [if_pos (by rfl)]
    refine wp_strs (.tmp 88) (.tmp 89) (d := some 90) rfl rfl (by rfl) HR.out.own g7 [bS [59]] 1 rfl rfl (by rfl) B7.out (by have := HN.out; (try simp only [List.length_append, List.length_cons, List.length_nil]); omega) ?_
    intro vv wk3 ho hgr
    obtain ⟨A3, n3, m3, rfl⟩ := ho.slice
    clear B7 N7
    replace HR := Aside0.mk (HR.out.grow ho hgr)
    clear ho hgr
    refine hK.out _ _ ⟨bcl HR.out.cell, P7.out _ HR.out.own.below⟩ (fun hHeld => ?_)
    clear hK K
    try simp only [Act.put, List.setIfInBounds_toArray, List.set_cons_zero, List.set_cons_succ]
    refine cK 96 14 (H2.out ⟨ad.block, ad.off + 8, none⟩ (.slice A3 n3 m3) _ wk3 (by simpa [Addr.add] using HQ2.out) HR.out.own (by have := HN.out; (try simp only [List.length_append, List.length_cons, List.length_nil]); omega)) ?_
    rintro e wk4 ⟨vv, rfl, ho, hgr⟩
    obtain ⟨A4, n4, m4, rfl⟩ := ho.slice
    replace HR := Aside0.mk (HR.out.grow ho hgr)
    clear ho hgr
    refine ⟨_, rfl, ⟨bcl HR.out.cell, P7.out _ HR.out.own.below⟩, fun hHeld => nA ?_⟩
    refine tK 4 15 hHeld ?_
    refine wpAnyH_done (by kernel_rfl) ?_ _
    go_wp2_with fail
    go_ret
    refine ⟨_, rfl, ?_, HR.out.grew⟩
    have hh := HR.out.own
    simpa [wordsS, cwords_two hLB.out hl.out, joinWordsC, hk.out] using hh
  · go_simp
    have hB : Below wd.heap.size wd (wd.alloc (.cells #[.string ⟨#[59]⟩] 9)) := (Below.refl _ _).alloc (Nat.le_refl _) _
    have B7 := Aside0.mk (heap_alloc_new wd (.cells #[.string ⟨#[59]⟩] 9))
    have N7 := Aside0.mk HR.out.own.ne
    replace HR := Aside0.mk (HR.out.next hB)
    refine hK.out _ _ ⟨bcl HR.out.cell, P7.out _ HR.out.own.below⟩ (fun hHeld => ?_)
    clear hK K
    try simp only [Act.put, List.setIfInBounds_toArray, List.set_cons_zero, List.set_cons_succ]
    clear hB
    generalize wd.heap.size = g7 at *
    generalize wd.alloc (.cells #[.string ⟨#[59]⟩] 9) = wb1 at *
    refine cK 88 6 (H1.out ad (.slice A n c) _ wb1 (by simpa [Addr.add] using HQ1.out) HR.out.own (by have := HN.out; (try simp only [List.length_append, List.length_cons, List.length_nil]); omega)) ?_
    rintro e wk2 ⟨vv, rfl, ho, hgr⟩
    obtain ⟨A2, n2, m2, rfl⟩ := ho.slice
    have hk := hgr.keep B7.out N7.out
    replace B7 := Aside0.mk hk.1
    replace N7 := Aside0.mk hk.2
    clear hk
    replace HR := Aside0.mk (HR.out.grow ho hgr)
    clear ho hgr
    refine ⟨_, rfl, ⟨bcl HR.out.cell, P7.out _ HR.out.own.below⟩, fun hHeld => nA ?_⟩
    refine wpAnyH_ready (rs := [8]) (by kernel_rfl) (by simp) ?_
    refine AllReadyH.cons rfl (fun K hK => ?_) AllReadyH.nil
    rw [if_pos (by rfl)]
    refine wp_strs (.tmp 88) (.tmp 89) (d := some 90) rfl rfl (by rfl) HR.out.own g7 [bS [59]] 1 rfl rfl (by rfl) B7.out (by have := HN.out; (try simp only [List.length_append, List.length_cons, List.length_nil]); omega) ?_
    intro vv wk3 ho hgr
    obtain ⟨A3, n3, m3, rfl⟩ := ho.slice
    clear B7 N7
    replace HR := Aside0.mk (HR.out.grow ho hgr)
    clear ho hgr
    refine hK.out _ _ ⟨bcl HR.out.cell, P7.out _ HR.out.own.below⟩ (fun hHeld => ?_)
    clear hK K
    try simp only [Act.put, List.setIfInBounds_toArray, List.set_cons_zero, List.set_cons_succ]
    refine cK 96 14 (H2.out ⟨ad.block, ad.off + 8, none⟩ (.slice A3 n3 m3) _ wk3 (by simpa [Addr.add] using HQ2.out) HR.out.own (by have := HN.out; (try simp only [List.length_append, List.length_cons, List.length_nil]); omega)) ?_
    rintro e wk4 ⟨vv, rfl, ho, hgr⟩
    obtain ⟨A4, n4, m4, rfl⟩ := ho.slice
    replace HR := Aside0.mk (HR.out.grow ho hgr)
    clear ho hgr
    refine ⟨_, rfl, ⟨bcl HR.out.cell, P7.out _ HR.out.own.below⟩, fun hHeld => nA ?_⟩
    refine tK 4 15 hHeld ?_
    refine wpAnyH_done (by kernel_rfl) ?_ _
    go_wp2_with fail
    go_ret
    refine ⟨_, rfl, ?_, HR.out.grew⟩
    have hh := HR.out.own
    simpa [wordsS, cwords_two hLB.out hl.out, joinWordsC, hk.out] using hh
set_option maxRecDepth 100000 in
set_option maxHeartbeats 6400000 in
theorem words_n {x x1 x2 : S54} {p : Addr} {A : Option Addr} {n c : Nat} {l : List ByteArray} {W0 w : World} (hp : Aside0 (AtC W0 p x)) (hO : OwnW W0 (.slice A n c) l w) (htab : Aside0 (HasTab W0)) (hlab : Aside0 (-9223372036854775808 ≤ x.f3 ∧ x.f3 ≤ 9223372036854775807)) (hlen : l.length + 8 * cnodes x ≤ 1000000) (hk : Aside0 (x.f0 = 4 ∨ x.f0 = 5 ∨ x.f0 = 6)) (hl : Aside0 (x.f5 = [x1, x2])) (hLB : Aside0 (leafB x.f0 = false)) (HN : Aside0 (cnodes x1 + cnodes x2 + 1 ≤ cnodes x ∧ (wordsS x1).length ≤ 8 * cnodes x1 ∧ (wordsS x2).length ≤ 8 * cnodes x2)) (H1 : Aside0 (∀ (q : Addr) (v : Value) (l : List ByteArray) (w : World), AtC W0 q x1 → OwnW W0 v l w → l.length + 8 * cnodes x1 ≤ 1000000 → Calls Tryd.prog 56 #[v, .pointer (some q)] w (WordsPost W0 v w (l ++ wordsS x1)))) (H2 : Aside0 (∀ (q : Addr) (v : Value) (l : List ByteArray) (w : World), AtC W0 q x2 → OwnW W0 v l w → l.length + 8 * cnodes x2 ≤ 1000000 → Calls Tryd.prog 56 #[v, .pointer (some q)] w (WordsPost W0 v w (l ++ wordsS x2)))) : Calls Tryd.prog 56 #[(.slice A n c), .pointer (some p)] w (WordsPost W0 (.slice A n c) w (l ++ wordsS x)) := by
  obtain ⟨A2, c2, A4, c4, A7, c7, hP, hT, hU, hl7, hC⟩ := hp.out
  have HP := Aside0.mk hP
  have HT := Aside0.mk hT
  have HU := Aside0.mk hU
  have HC := Aside0.mk hC
  clear hP hT hU hC
  have hlen2 : Aside0 (x.f5.length = 2) := .mk (by rw [hl.out]; rfl)
  obtain ⟨ad, rfl, hq1⟩ := AtC_kid HC.out 0 (by omega) (by have := hlen2.out; omega) (x := x1) (by rw [hl.out]; rfl)
  obtain ⟨ad', e', hq2⟩ := AtC_kid HC.out 1 (by omega) (by have := hlen2.out; omega) (x := x2) (by rw [hl.out]; rfl)
  cases e'
  have HQ1 := Aside0.mk hq1
  have HQ2 := Aside0.mk hq2
  clear hq1 hq2
  have hmf : ∀ (fn : Fn) (first cap : Array Value) (w : World), (Instr.makeFunc fn first cap).run Tryd.prog w = .ok (.func fn first cap) w := fun _ _ _ _ => rfl
  have HG := Aside0.mk hO.below.size
  have hb : Below w.heap.size w (w.alloc (.cells #[(.slice A n c)] 100)) := (Below.refl _ _).alloc (Nat.le_refl _) _
  have HR : Aside0 (RSt W0 w (.slice A n c) w.heap.size (.slice A n c) (.slice A n c) l (w.alloc (.cells #[(.slice A n c)] 100))) := .mk ⟨hO.after hb, Grew.below hb, heap_alloc_new w _, hO.ne⟩
  clear hb hO
  obtain ⟨k0, k1, k2, k3, k4, k5, k6, k7⟩ := HP.out.below HR.out.own.below (Nat.le_refl _)
  have gk0 : (x.f0 == 0) = false := beq_eq_false_iff_ne.mpr (by have := hk.out; omega)
  have gk1 : (x.f0 == 1) = false := beq_eq_false_iff_ne.mpr (by have := hk.out; omega)
  have gk2 : (x.f0 == 2) = false := beq_eq_false_iff_ne.mpr (by have := hk.out; omega)
  have gk3 : (x.f0 == 3) = false := beq_eq_false_iff_ne.mpr (by have := hk.out; omega)
  have gk7 : (x.f0 == 7) = false := beq_eq_false_iff_ne.mpr (by have := hk.out; omega)
  go_enter Tryd.func56, Tryd.ntmps56
  go_wp2_with fail
  clear k0 k1 k2 k3 k4 k5 k6 k7
  generalize w.alloc (.cells #[(.slice A n c)] 100) = w1 at *
  refine (itoa_calls x.f3 w1 hlab.out.1 hlab.out.2 (htab.out.below HR.out.own.below)).mono ?_
  rintro e w2 ⟨rfl, hB⟩
  replace HR := Aside0.mk (HR.out.next hB)
  clear hB
  obtain ⟨k0, k1, k2, k3, k4, k5, k6, k7⟩ := HP.out.below HR.out.own.below (Nat.le_refl _)
  go_upto_if 17 with fail
  go_cut [6] (fun sv wx => sv = .string (bS (sideC x.f3 x.f4)) ∧ RSt W0 w (.slice A n c) w.heap.size (.slice A n c) (.slice A n c) l wx)
  case first =>
    have q0 : ¬ (9223372036854775807 < 1 + (bS (Lib.itoa x.f3)).size) := by rw [bS_size]; have := itoa_len' x.f3 hlab.out.1 hlab.out.2; omega
    cases hn : x.f4 with
    | true =>
      rw [hn] at k6
      go_wp2_with fail
      go_meet
      refine ⟨congrArg Value.string ?_, HR.out⟩
      rw [show (⟨#[45]⟩ : ByteArray) = bS [45] from rfl, bS_app]
      simp [sideC, hn]
    | false =>
      rw [hn] at k6
      go_wp2_with fail
      go_meet
      refine ⟨congrArg Value.string ?_, HR.out⟩
      simp [sideC, hn]
  case rest =>
  obtain ⟨rfl, hr⟩ := hcut
  replace HR := Aside0.mk hr
  clear hr k0 k1 k2 k3 k4 k5 k6 k7
  have P7 := Aside0.mk (fun w' (hb : Below W0.heap.size W0 w') => (show w'.cell? ⟨p.block, p.off + 7, none⟩ = some (.slice (some ad) 2 c7) by have := (HP.out.below hb (Nat.le_refl _)).2.2.2.2.2.2.2; rw [hlen2.out] at this; exact this))
  obtain ⟨k0, -⟩ := HP.out.below HR.out.own.below (Nat.le_refl _)
  have hmm := @run_makeMap Tryd.prog
  have hfd := sgn_field
  obtain ⟨y1, y2, y3, i1, i2, i3, il, hB⟩ := map_lit wc x.f0 hk.out
  have HR3 := Aside0.mk (HR.out.next hB)
  obtain ⟨j0, -⟩ := HP.out.below HR3.out.own.below (Nat.le_refl _)
  clear hB
  go_upto_region 24 with fail
  replace HR := HR3
  clear HR3 i1 i2 i3 il k0 j0 hmm hfd
  go_cut [116] (fun sv wx => ∃ (A9 : Option Addr) (n9 c9 : Nat), RSt W0 w (.slice A n c) w.heap.size (.slice A9 n9 c9) (.slice A9 n9 c9) (l ++ [bS [40]] ++ wordsS x1) wx)
  case first =>
    have HRd := Aside0.mk (HR.out.next (Below.refl _ _).drew)
    refine wp_region_held_drew (S := fun w' => w'.cell? ⟨p.block, p.off + 7, none⟩ = some (.slice (some ad) 2 c7)) (by kernel_rfl) (P7.out _ HRd.out.own.below) (fun hHeld => ?_)
    replace HR := HRd
    clear HRd
    generalize y3.drew = wd at *
    refine tK 111 3 hHeld ?_
    refine tK 112 4 hHeld ?_
    refine tK 113 5 hHeld ?_
    refine tK 114 6 hHeld ?_
    refine tK 115 7 hHeld ?_
    refine wpAnyH_ready (rs := [0, 1]) (by kernel_rfl) (by simp) ?_
    refine AllReadyH.cons rfl (fun K hK => ?_) (AllReadyH.cons rfl (fun K hK => ?_) AllReadyH.nil)
    · have c0 := bcl (i := 0) (v := (.slice A n c)) HR.out.cell
      go_simp
      refine hK.out _ _ (P7.out _ HR.out.own.below) (fun hHeld => ?_)
      clear hK K
      try simp only [Act.put, List.setIfInBounds_toArray, List.set_cons_zero, List.set_cons_succ]
      clear c0
      refine wpAnyH_ready (rs := [1]) (by kernel_rfl) (by simp) ?_
      refine AllReadyH.cons rfl (fun K hK => ?_) AllReadyH.nil
      go_simp
      have hB : Below wd.heap.size wd (wd.alloc (.cells #[.string ⟨#[40]⟩] 9)) := (Below.refl _ _).alloc (Nat.le_refl _) _
      have B1 := Aside0.mk (heap_alloc_new wd (.cells #[.string ⟨#[40]⟩] 9))
      have N1 := Aside0.mk HR.out.own.ne
      replace HR := Aside0.mk (HR.out.next hB)
      refine hK.out _ _ (P7.out _ HR.out.own.below) (fun hHeld => ?_)
      clear hK K
      try simp only [Act.put, List.setIfInBounds_toArray, List.set_cons_zero, List.set_cons_succ]
      clear hB
      generalize wd.heap.size = g1 at *
      generalize wd.alloc (.cells #[.string ⟨#[40]⟩] 9) = wb1 at *
      refine wpAnyH_ready (rs := [2]) (by kernel_rfl) (by simp) ?_
      refine AllReadyH.cons rfl (fun K hK => ?_) AllReadyH.nil
      rw [if_pos (by rfl)]
      refine wp_strs (.tmp 108) (.tmp 109) (d := some 110) rfl rfl (by rfl) HR.out.own g1 [bS [40]] 1 rfl rfl (by rfl) B1.out (by have := HN.out; (try simp only [List.length_append, List.length_cons, List.length_nil]); omega) ?_
      intro vv wk2 ho hgr
      obtain ⟨A2, n2, m2, rfl⟩ := ho.slice
      clear B1 N1
      replace HR := Aside0.mk (HR.out.grow ho hgr)
      clear ho hgr
      refine hK.out _ _ (P7.out _ HR.out.own.below) (fun hHeld => ?_)
      clear hK K
      try simp only [Act.put, List.setIfInBounds_toArray, List.set_cons_zero, List.set_cons_succ]
      refine cK 116 8 (H1.out ad (.slice A2 n2 m2) _ wk2 (by simpa [Addr.add] using HQ1.out) HR.out.own (by have := HN.out; (try simp only [List.length_append, List.length_cons, List.length_nil]); omega)) ?_
      rintro e wk3 ⟨vv, rfl, ho, hgr⟩
      obtain ⟨A3, n3, m3, rfl⟩ := ho.slice
      replace HR := Aside0.mk (HR.out.grow ho hgr)
      clear ho hgr
      refine ⟨_, rfl, (P7.out _ HR.out.own.below), fun hHeld => nA ?_⟩
      refine wpAnyH_ready (rs := [9]) (by kernel_rfl) (by simp) ?_
      refine AllReadyH.cons rfl (fun K hK => ?_) AllReadyH.nil
      have e0 := bcl (i := 0) (v := (.slice A n c)) HR.out.cell
      have f0 := blk_frozen HR.out.cell 0
      go_simp
      clear e0 f0
      replace HR := Aside0.mk (HR.out.store (Nat.le_refl _) HG.out)
      refine hK.out _ _ (P7.out _ HR.out.own.below) (fun hHeld => ?_)
      clear hK K
      try simp only [Act.put, List.setIfInBounds_toArray, List.set_cons_zero, List.set_cons_succ]
      refine wpAnyH_done (by kernel_rfl) ?_ _
      go_wp2_with fail
      go_meet
      exact ⟨_, _, _, HR.out⟩
    · go_simp
      have hB : Below wd.heap.size wd (wd.alloc (.cells #[.string ⟨#[40]⟩] 9)) := (Below.refl _ _).alloc (Nat.le_refl _) _
      have B1 := Aside0.mk (heap_alloc_new wd (.cells #[.string ⟨#[40]⟩] 9))
      have N1 := Aside0.mk HR.out.own.ne
      replace HR := Aside0.mk (HR.out.next hB)
      refine hK.out _ _ (P7.out _ HR.out.own.below) (fun hHeld => ?_)
      clear hK K
      try simp only [Act.put, List.setIfInBounds_toArray, List.set_cons_zero, List.set_cons_succ]
      clear hB
      generalize wd.heap.size = g1 at *
      generalize wd.alloc (.cells #[.string ⟨#[40]⟩] 9) = wb1 at *
      refine wpAnyH_ready (rs := [0]) (by kernel_rfl) (by simp) ?_
      refine AllReadyH.cons rfl (fun K hK => ?_) AllReadyH.nil
      have c0 := bcl (i := 0) (v := (.slice A n c)) HR.out.cell
      go_simp
      refine hK.out _ _ (P7.out _ HR.out.own.below) (fun hHeld => ?_)
      clear hK K
      try simp only [Act.put, List.setIfInBounds_toArray, List.set_cons_zero, List.set_cons_succ]
      clear c0
      refine wpAnyH_ready (rs := [2]) (by kernel_rfl) (by simp) ?_
      refine AllReadyH.cons rfl (fun K hK => ?_) AllReadyH.nil
      rw [if_pos (by rfl)]
      refine wp_strs (.tmp 108) (.tmp 109) (d := some 110) rfl rfl (by rfl) HR.out.own g1 [bS [40]] 1 rfl rfl (by rfl) B1.out (by have := HN.out; (try simp only [List.length_append, List.length_cons, List.length_nil]); omega) ?_
      intro vv wk2 ho hgr
      obtain ⟨A2, n2, m2, rfl⟩ := ho.slice
      clear B1 N1
      replace HR := Aside0.mk (HR.out.grow ho hgr)
      clear ho hgr
      refine hK.out _ _ (P7.out _ HR.out.own.below) (fun hHeld => ?_)
      clear hK K
      try simp only [Act.put, List.setIfInBounds_toArray, List.set_cons_zero, List.set_cons_succ]
      refine cK 116 8 (H1.out ad (.slice A2 n2 m2) _ wk2 (by simpa [Addr.add] using HQ1.out) HR.out.own (by have := HN.out; (try simp only [List.length_append, List.length_cons, List.length_nil]); omega)) ?_
      rintro e wk3 ⟨vv, rfl, ho, hgr⟩
      obtain ⟨A3, n3, m3, rfl⟩ := ho.slice
      replace HR := Aside0.mk (HR.out.grow ho hgr)
      clear ho hgr
      refine ⟨_, rfl, (P7.out _ HR.out.own.below), fun hHeld => nA ?_⟩
      refine wpAnyH_ready (rs := [9]) (by kernel_rfl) (by simp) ?_
      refine AllReadyH.cons rfl (fun K hK => ?_) AllReadyH.nil
      have e0 := bcl (i := 0) (v := (.slice A n c)) HR.out.cell
      have f0 := blk_frozen HR.out.cell 0
      go_simp
      clear e0 f0
      replace HR := Aside0.mk (HR.out.store (Nat.le_refl _) HG.out)
      refine hK.out _ _ (P7.out _ HR.out.own.below) (fun hHeld => ?_)
      clear hK K
      try simp only [Act.put, List.setIfInBounds_toArray, List.set_cons_zero, List.set_cons_succ]
      refine wpAnyH_done (by kernel_rfl) ?_ _
      go_wp2_with fail
      go_meet
      exact ⟨_, _, _, HR.out⟩
  case rest =>
  obtain ⟨A9, n9, c9, hr⟩ := hcut
  replace HR := Aside0.mk hr
  clear hr
  go_wp2_with fail
  have h7n : ¬ x.f0 = 7 := by have := hk.out; omega
  have HRd := Aside0.mk (HR.out.next (Below.refl _ _).drew)
  refine wp_region_held_drew (S := fun w' => w'.cell? ⟨w.heap.size, 0, none⟩ = some (.slice A9 n9 c9) ∧ w'.cell? ⟨p.block, p.off + 7, none⟩ = some (.slice (some ad) 2 c7)) (by kernel_rfl) ⟨bcl HRd.out.cell, P7.out _ HRd.out.own.below⟩ (fun hHeld => ?_)
  replace HR := HRd
  clear HRd
  generalize wc.drew = wd at *
  refine tK 117 0 hHeld ?_
  refine tK 118 1 hHeld ?_
  refine tK 121 4 hHeld ?_
  refine tK 122 5 hHeld ?_
  refine tK 123 6 hHeld ?_
  refine tK 124 7 hHeld ?_
  refine tK 125 8 hHeld ?_
  refine wpAnyH_ready (rs := [2, 10]) (by kernel_rfl) (by simp) ?_
  refine AllReadyH.cons rfl (fun K hK => ?_) (AllReadyH.cons rfl (fun K hK => ?_) AllReadyH.nil)
  · go_simp
    have hB : Below wd.heap.size wd (wd.alloc (.cells #[.string (bS (signC x.f0))] 9)) := (Below.refl _ _).alloc (Nat.le_refl _) _
    have B2 := Aside0.mk (heap_alloc_new wd (.cells #[.string (bS (signC x.f0))] 9))
    have N2 := Aside0.mk HR.out.own.ne
    replace HR := Aside0.mk (HR.out.next hB)
    refine hK.out _ _ ⟨bcl HR.out.cell, P7.out _ HR.out.own.below⟩ (fun hHeld => ?_)
    clear hK K
    try simp only [Act.put, List.setIfInBounds_toArray, List.set_cons_zero, List.set_cons_succ]
    clear hB
    generalize wd.heap.size = g2 at *
    generalize wd.alloc (.cells #[.string (bS (signC x.f0))] 9) = wb11 at *
    refine wpAnyH_ready (rs := [3, 10]) (by kernel_rfl) (by simp) ?_
    refine AllReadyH.cons rfl (fun K hK => ?_) (AllReadyH.cons rfl (fun K hK => ?_) AllReadyH.nil)
    · rw [if_pos (by rfl)]
      refine wp_strs (.tmp 117) (.tmp 119) (d := some 120) rfl rfl (by rfl) HR.out.own g2 [bS (signC x.f0)] 1 rfl rfl (by rfl) B2.out (by have := HN.out; (try simp only [List.length_append, List.length_cons, List.length_nil]); omega) ?_
      intro vv wk12 ho hgr
      obtain ⟨A12, n12, m12, rfl⟩ := ho.slice
      clear B2 N2
      replace HR := Aside0.mk (HR.out.grow ho hgr)
      clear ho hgr
      refine hK.out _ _ ⟨bcl HR.out.cell, P7.out _ HR.out.own.below⟩ (fun hHeld => ?_)
      clear hK K
      try simp only [Act.put, List.setIfInBounds_toArray, List.set_cons_zero, List.set_cons_succ]
      refine wpAnyH_ready (rs := [9, 10]) (by kernel_rfl) (by simp) ?_
      refine AllReadyH.cons rfl (fun K hK => ?_) (AllReadyH.cons rfl (fun K hK => ?_) AllReadyH.nil)
      · refine callK (by rfl) (by kernel_rfl) (H2.out ⟨ad.block, ad.off + 8, none⟩ (.slice A12 n12 m12) _ wk12 (by simpa [Addr.add] using HQ2.out) HR.out.own (by have := HN.out; (try simp only [List.length_append, List.length_cons, List.length_nil]); omega)) ?_
        rintro e wk13 ⟨vv, rfl, ho, hgr⟩
        obtain ⟨A13, n13, m13, rfl⟩ := ho.slice
        replace HR := Aside0.mk (HR.out.grow ho hgr)
        clear ho hgr
        refine ⟨_, rfl, ?_⟩
        refine hK.out _ _ ⟨bcl HR.out.cell, P7.out _ HR.out.own.below⟩ (fun hHeld => ?_)
        clear hK K
        try simp only [Act.put, List.setIfInBounds_toArray, List.set_cons_zero, List.set_cons_succ]
        refine wpAnyH_ready (rs := [10]) (by kernel_rfl) (by simp) ?_
        refine AllReadyH.cons rfl (fun K hK => ?_) AllReadyH.nil
        go_simp
        have hB : Below wk13.heap.size wk13 (wk13.alloc (.cells #[.string ⟨#[41]⟩] 9)) := (Below.refl _ _).alloc (Nat.le_refl _) _
        have B10 := Aside0.mk (heap_alloc_new wk13 (.cells #[.string ⟨#[41]⟩] 9))
        have N10 := Aside0.mk HR.out.own.ne
        replace HR := Aside0.mk (HR.out.next hB)
        refine hK.out _ _ ⟨bcl HR.out.cell, P7.out _ HR.out.own.below⟩ (fun hHeld => ?_)
        clear hK K
        try simp only [Act.put, List.setIfInBounds_toArray, List.set_cons_zero, List.set_cons_succ]
        clear hB
        generalize wk13.heap.size = g10 at *
        generalize wk13.alloc (.cells #[.string ⟨#[41]⟩] 9) = wb14 at *
        refine wpAnyH_ready (rs := [11]) (by kernel_rfl) (by simp) ?_
        refine AllReadyH.cons rfl (fun K hK => ?_) AllReadyH.nil
        rw [if_pos (by rfl)]
        refine wp_strs (.tmp 126) (.tmp 127) (d := some 128) rfl rfl (by rfl) HR.out.own g10 [bS [41]] 1 rfl rfl (by rfl) B10.out (by have := HN.out; (try simp only [List.length_append, List.length_cons, List.length_nil]); omega) ?_
        intro vv wk15 ho hgr
        obtain ⟨A15, n15, m15, rfl⟩ := ho.slice
        clear B10 N10
        replace HR := Aside0.mk (HR.out.grow ho hgr)
        clear ho hgr
        refine hK.out _ _ ⟨bcl HR.out.cell, P7.out _ HR.out.own.below⟩ (fun hHeld => ?_)
        clear hK K
        try simp only [Act.put, List.setIfInBounds_toArray, List.set_cons_zero, List.set_cons_succ]
        refine tK 4 12 hHeld ?_
        refine wpAnyH_done (by kernel_rfl) ?_ _
        go_wp2_with fail
        go_ret
        refine ⟨_, rfl, ?_, HR.out.grew⟩
        have hh := HR.out.own
        simpa [wordsS, cwords_two hLB.out hl.out, joinWordsC, h7n] using hh
      · go_simp
        have hB : Below wk12.heap.size wk12 (wk12.alloc (.cells #[.string ⟨#[41]⟩] 9)) := (Below.refl _ _).alloc (Nat.le_refl _) _
        have B10 := Aside0.mk (heap_alloc_new wk12 (.cells #[.string ⟨#[41]⟩] 9))
        have N10 := Aside0.mk HR.out.own.ne
        replace HR := Aside0.mk (HR.out.next hB)
        refine hK.out _ _ ⟨bcl HR.out.cell, P7.out _ HR.out.own.below⟩ (fun hHeld => ?_)
        clear hK K
        try simp only [Act.put, List.setIfInBounds_toArray, List.set_cons_zero, List.set_cons_succ]
        clear hB
        generalize wk12.heap.size = g10 at *
        generalize wk12.alloc (.cells #[.string ⟨#[41]⟩] 9) = wb13 at *
        refine cK 126 9 (H2.out ⟨ad.block, ad.off + 8, none⟩ (.slice A12 n12 m12) _ wb13 (by simpa [Addr.add] using HQ2.out) HR.out.own (by have := HN.out; (try simp only [List.length_append, List.length_cons, List.length_nil]); omega)) ?_
        rintro e wk14 ⟨vv, rfl, ho, hgr⟩
        obtain ⟨A14, n14, m14, rfl⟩ := ho.slice
        have hk := hgr.keep B10.out N10.out
        replace B10 := Aside0.mk hk.1
        replace N10 := Aside0.mk hk.2
        clear hk
        replace HR := Aside0.mk (HR.out.grow ho hgr)
        clear ho hgr
        refine ⟨_, rfl, ⟨bcl HR.out.cell, P7.out _ HR.out.own.below⟩, fun hHeld => nA ?_⟩
        refine wpAnyH_ready (rs := [11]) (by kernel_rfl) (by simp) ?_
        refine AllReadyH.cons rfl (fun K hK => ?_) AllReadyH.nil
        rw [if_pos (by rfl)]
        refine wp_strs (.tmp 126) (.tmp 127) (d := some 128) rfl rfl (by rfl) HR.out.own g10 [bS [41]] 1 rfl rfl (by rfl) B10.out (by have := HN.out; (try simp only [List.length_append, List.length_cons, List.length_nil]); omega) ?_
        intro vv wk15 ho hgr
        obtain ⟨A15, n15, m15, rfl⟩ := ho.slice
        clear B10 N10
        replace HR := Aside0.mk (HR.out.grow ho hgr)
        clear ho hgr
        refine hK.out _ _ ⟨bcl HR.out.cell, P7.out _ HR.out.own.below⟩ (fun hHeld => ?_)
        clear hK K
        try simp only [Act.put, List.setIfInBounds_toArray, List.set_cons_zero, List.set_cons_succ]
        refine tK 4 12 hHeld ?_
        refine wpAnyH_done (by kernel_rfl) ?_ _
        go_wp2_with fail
        go_ret
        refine ⟨_, rfl, ?_, HR.out.grew⟩
        have hh := HR.out.own
        simpa [wordsS, cwords_two hLB.out hl.out, joinWordsC, h7n] using hh
    · go_simp
      have hB : Below wb11.heap.size wb11 (wb11.alloc (.cells #[.string ⟨#[41]⟩] 9)) := (Below.refl _ _).alloc (Nat.le_refl _) _
      have B10 := Aside0.mk (heap_alloc_new wb11 (.cells #[.string ⟨#[41]⟩] 9))
      have N10 := Aside0.mk HR.out.own.ne
      replace B2 := Aside0.mk (blk_below B2.out hB)
      replace HR := Aside0.mk (HR.out.next hB)
      refine hK.out _ _ ⟨bcl HR.out.cell, P7.out _ HR.out.own.below⟩ (fun hHeld => ?_)
      clear hK K
      try simp only [Act.put, List.setIfInBounds_toArray, List.set_cons_zero, List.set_cons_succ]
      clear hB
      generalize wb11.heap.size = g10 at *
      generalize wb11.alloc (.cells #[.string ⟨#[41]⟩] 9) = wb12 at *
      refine wpAnyH_ready (rs := [3]) (by kernel_rfl) (by simp) ?_
      refine AllReadyH.cons rfl (fun K hK => ?_) AllReadyH.nil
      rw [if_pos (by rfl)]
      refine wp_strs (.tmp 117) (.tmp 119) (d := some 120) rfl rfl (by rfl) HR.out.own g2 [bS (signC x.f0)] 1 rfl rfl (by rfl) B2.out (by have := HN.out; (try simp only [List.length_append, List.length_cons, List.length_nil]); omega) ?_
      intro vv wk13 ho hgr
      obtain ⟨A13, n13, m13, rfl⟩ := ho.slice
      clear B2 N2
      have hk := hgr.keep B10.out N10.out
      replace B10 := Aside0.mk hk.1
      replace N10 := Aside0.mk hk.2
      clear hk
      replace HR := Aside0.mk (HR.out.grow ho hgr)
      clear ho hgr
      refine hK.out _ _ ⟨bcl HR.out.cell, P7.out _ HR.out.own.below⟩ (fun hHeld => ?_)
      clear hK K
      try simp only [Act.put, List.setIfInBounds_toArray, List.set_cons_zero, List.set_cons_succ]
      refine cK 126 9 (H2.out ⟨ad.block, ad.off + 8, none⟩ (.slice A13 n13 m13) _ wk13 (by simpa [Addr.add] using HQ2.out) HR.out.own (by have := HN.out; (try simp only [List.length_append, List.length_cons, List.length_nil]); omega)) ?_
      rintro e wk14 ⟨vv, rfl, ho, hgr⟩
      obtain ⟨A14, n14, m14, rfl⟩ := ho.slice
      have hk := hgr.keep B10.out N10.out
      replace B10 := Aside0.mk hk.1
      replace N10 := Aside0.mk hk.2
      clear hk
      replace HR := Aside0.mk (HR.out.grow ho hgr)
      clear ho hgr
      refine ⟨_, rfl, ⟨bcl HR.out.cell, P7.out _ HR.out.own.below⟩, fun hHeld => nA ?_⟩
      refine wpAnyH_ready (rs := [11]) (by kernel_rfl) (by simp) ?_
      refine AllReadyH.cons rfl (fun K hK => ?_) AllReadyH.nil
      rw [if_pos (by rfl)]
      refine wp_strs (.tmp 126) (.tmp 127) (d := some 128) rfl rfl (by rfl) HR.out.own g10 [bS [41]] 1 rfl rfl (by rfl) B10.out (by have := HN.out; (try simp only [List.length_append, List.length_cons, List.length_nil]); omega) ?_
      intro vv wk15 ho hgr
      obtain ⟨A15, n15, m15, rfl⟩ := ho.slice
      clear B10 N10
      replace HR := Aside0.mk (HR.out.grow ho hgr)
      clear ho hgr
      refine hK.out _ _ ⟨bcl HR.out.cell, P7.out _ HR.out.own.below⟩ (fun hHeld => ?_)
      clear hK K
      try simp only [Act.put, List.setIfInBounds_toArray, List.set_cons_zero, List.set_cons_succ]
      refine tK 4 12 hHeld ?_
      refine wpAnyH_done (by kernel_rfl) ?_ _
      go_wp2_with fail
      go_ret
      refine ⟨_, rfl, ?_, HR.out.grew⟩
      have hh := HR.out.own
      simpa [wordsS, cwords_two hLB.out hl.out, joinWordsC, h7n] using hh
  · go_simp
    have hB : Below wd.heap.size wd (wd.alloc (.cells #[.string ⟨#[41]⟩] 9)) := (Below.refl _ _).alloc (Nat.le_refl _) _
    have B10 := Aside0.mk (heap_alloc_new wd (.cells #[.string ⟨#[41]⟩] 9))
    have N10 := Aside0.mk HR.out.own.ne
    replace HR := Aside0.mk (HR.out.next hB)
    refine hK.out _ _ ⟨bcl HR.out.cell, P7.out _ HR.out.own.below⟩ (fun hHeld => ?_)
    clear hK K
    try simp only [Act.put, List.setIfInBounds_toArray, List.set_cons_zero, List.set_cons_succ]
    clear hB
    generalize wd.heap.size = g10 at *
    generalize wd.alloc (.cells #[.string ⟨#[41]⟩] 9) = wb11 at *
    refine wpAnyH_ready (rs := [2]) (by kernel_rfl) (by simp) ?_
    refine AllReadyH.cons rfl (fun K hK => ?_) AllReadyH.nil
    go_simp
    have hB : Below wb11.heap.size wb11 (wb11.alloc (.cells #[.string (bS (signC x.f0))] 9)) := (Below.refl _ _).alloc (Nat.le_refl _) _
    have B2 := Aside0.mk (heap_alloc_new wb11 (.cells #[.string (bS (signC x.f0))] 9))
    have N2 := Aside0.mk HR.out.own.ne
    replace B10 := Aside0.mk (blk_below B10.out hB)
    replace HR := Aside0.mk (HR.out.next hB)
    refine hK.out _ _ ⟨bcl HR.out.cell, P7.out _ HR.out.own.below⟩ (fun hHeld => ?_)
    clear hK K
    try simp only [Act.put, List.setIfInBounds_toArray, List.set_cons_zero, List.set_cons_succ]
    clear hB
    generalize wb11.heap.size = g2 at *
    generalize wb11.alloc (.cells #[.string (bS (signC x.f0))] 9) = wb12 at *
    refine wpAnyH_ready (rs := [3]) (by kernel_rfl) (by simp) ?_
    refine AllReadyH.cons rfl (fun K hK => ?_) AllReadyH.nil
    rw [if_pos (by rfl)]
    refine wp_strs (.tmp 117) (.tmp 119) (d := some 120) rfl rfl (by rfl) HR.out.own g2 [bS (signC x.f0)] 1 rfl rfl (by rfl) B2.out (by have := HN.out; (try simp only [List.length_append, List.length_cons, List.length_nil]); omega) ?_
    intro vv wk13 ho hgr
    obtain ⟨A13, n13, m13, rfl⟩ := ho.slice
    have hk := hgr.keep B10.out N10.out
    replace B10 := Aside0.mk hk.1
    replace N10 := Aside0.mk hk.2
    clear hk
    clear B2 N2
    replace HR := Aside0.mk (HR.out.grow ho hgr)
    clear ho hgr
    refine hK.out _ _ ⟨bcl HR.out.cell, P7.out _ HR.out.own.below⟩ (fun hHeld => ?_)
    clear hK K
    try simp only [Act.put, List.setIfInBounds_toArray, List.set_cons_zero, List.set_cons_succ]
    refine cK 126 9 (H2.out ⟨ad.block, ad.off + 8, none⟩ (.slice A13 n13 m13) _ wk13 (by simpa [Addr.add] using HQ2.out) HR.out.own (by have := HN.out; (try simp only [List.length_append, List.length_cons, List.length_nil]); omega)) ?_
    rintro e wk14 ⟨vv, rfl, ho, hgr⟩
    obtain ⟨A14, n14, m14, rfl⟩ := ho.slice
    have hk := hgr.keep B10.out N10.out
    replace B10 := Aside0.mk hk.1
    replace N10 := Aside0.mk hk.2
    clear hk
    replace HR := Aside0.mk (HR.out.grow ho hgr)
    clear ho hgr
    refine ⟨_, rfl, ⟨bcl HR.out.cell, P7.out _ HR.out.own.below⟩, fun hHeld => nA ?_⟩
    refine wpAnyH_ready (rs := [11]) (by kernel_rfl) (by simp) ?_
    refine AllReadyH.cons rfl (fun K hK => ?_) AllReadyH.nil
    rw [if_pos (by rfl)]
    refine wp_strs (.tmp 126) (.tmp 127) (d := some 128) rfl rfl (by rfl) HR.out.own g10 [bS [41]] 1 rfl rfl (by rfl) B10.out (by have := HN.out; (try simp only [List.length_append, List.length_cons, List.length_nil]); omega) ?_
    intro vv wk15 ho hgr
    obtain ⟨A15, n15, m15, rfl⟩ := ho.slice
    clear B10 N10
    replace HR := Aside0.mk (HR.out.grow ho hgr)
    clear ho hgr
    refine hK.out _ _ ⟨bcl HR.out.cell, P7.out _ HR.out.own.below⟩ (fun hHeld => ?_)
    clear hK K
    try simp only [Act.put, List.setIfInBounds_toArray, List.set_cons_zero, List.set_cons_succ]
    refine tK 4 12 hHeld ?_
    refine wpAnyH_done (by kernel_rfl) ?_ _
    go_wp2_with fail
    go_ret
    refine ⟨_, rfl, ?_, HR.out.grew⟩
    have hh := HR.out.own
    simpa [wordsS, cwords_two hLB.out hl.out, joinWordsC, h7n] using hh
theorem words_all (W0 : World) (htab : HasTab W0) : ∀ (x : S54), (endsC x).isSome = true → cnodes x ≤ 8192 → labI x → ∀ (p : Addr) (v : Value) (l : List ByteArray) (w : World), AtC W0 p x → OwnW W0 v l w → l.length + 8 * cnodes x ≤ 1000000 → Calls Tryd.prog 56 #[v, .pointer (some p)] w (WordsPost W0 v w (l ++ wordsS x)) :=
  co_ind (P := fun x => cnodes x ≤ 8192 → labI x → ∀ (p : Addr) (v : Value) (l : List ByteArray) (w : World), AtC W0 p x → OwnW W0 v l w → l.length + 8 * cnodes x ≤ 1000000 → Calls Tryd.prog 56 #[v, .pointer (some p)] w (WordsPost W0 v w (l ++ wordsS x)))
    (fun x hk _ hx h8 hL p v l w hp hO hlen => by
      obtain ⟨f1, f2, f3⟩ := leaf_facts hk hx
      have hn := leaf_nodes hk hx
      have hp1 := nodes_pos x.f1
      have hp2 := nodes_pos x.f2
      have lb := labI_own hL
      obtain ⟨A, n, c, rfl⟩ := hO.slice
      rcases leafB_cases hk with h | h | h | h
      · exact words_0 ⟨hp⟩ hO ⟨htab⟩ ⟨lb⟩ (by omega) ⟨h⟩ ⟨f1⟩
      · exact words_1 ⟨hp⟩ hO ⟨htab⟩ ⟨lb⟩ (by have := (hn.2.2.2 h).1; omega) ⟨h⟩ ⟨f1⟩ ⟨(f2 h).1⟩
      · exact words_2 ⟨hp⟩ hO ⟨htab⟩ ⟨lb⟩ (by omega) ⟨h⟩ ⟨f1⟩
      · exact words_3 ⟨hp⟩ hO ⟨htab⟩ ⟨lb⟩ (by omega) ⟨h⟩ ⟨f1⟩)
    (fun x a b hk hl hx ha hb h1 h2 h8 hL p v l w hp hO hlen => by
      have hc := cnodes_kids hl
      obtain ⟨lp, lq⟩ := labI_two hl hL
      have lb := labI_own hL
      have wa := (cwords_len a ha).2
      have wb := (cwords_len b hb).2
      have hN : Aside0 (cnodes a + cnodes b + 1 ≤ cnodes x ∧ (wordsS a).length ≤ 8 * cnodes a ∧ (wordsS b).length ≤ 8 * cnodes b) := ⟨by omega, by simpa [wordsS] using wa, by simpa [wordsS] using wb⟩
      have g1 := h1 (by omega) lp
      have g2 := h2 (by omega) lq
      obtain ⟨A, n, c, rfl⟩ := hO.slice
      rcases two_kind hk hl hx with h | h | h | h
      · exact words_n ⟨hp⟩ hO ⟨htab⟩ ⟨lb⟩ hlen ⟨.inl h⟩ ⟨hl⟩ ⟨hk⟩ hN ⟨g1⟩ ⟨g2⟩
      · exact words_n ⟨hp⟩ hO ⟨htab⟩ ⟨lb⟩ hlen ⟨.inr (.inl h)⟩ ⟨hl⟩ ⟨hk⟩ hN ⟨g1⟩ ⟨g2⟩
      · exact words_n ⟨hp⟩ hO ⟨htab⟩ ⟨lb⟩ hlen ⟨.inr (.inr h)⟩ ⟨hl⟩ ⟨hk⟩ hN ⟨g1⟩ ⟨g2⟩
      · exact words_7 ⟨hp⟩ hO ⟨htab⟩ ⟨lb⟩ hlen ⟨h⟩ ⟨hl⟩ ⟨hk⟩ hN ⟨g1⟩ ⟨g2⟩)
end Go.Proofs.YtjmpejbciniceaaDoor.X
namespace Go.Proofs.YtjmpejbciniceaaDoor.X
open Go.RowKit Go.Proofs.YtjmpejbciniceaaDoorW.PrintWords Go.Proofs.YtjmpejbciniceaaDoorW.PrintLast Go.Proofs.YtjmpejbciniceaaDoorW.PrintMore
set_option linter.unusedVariables false
set_option linter.unusedSimpArgs false
theorem check_small {x : S54} (h : cocheckI x = 0) : cnodes x ≤ 8192 := by
  unfold cocheckI at h
  split at h
  · simp at h
  · omega
def sizeL (x : S54) : Int := if cocheckI x = 0 then (csize x : Int) else 0
def highL (x : S54) : Int := if cocheckI x = 0 then (chigh x : Int) else 0
def textL (x : S54) : List UInt8 := if cocheckI x = 0 then (if 65536 < (ctext x).length then [] else ctext x) else []
theorem bS_list (l : List UInt8) : (bS l).data.toList = l := by simp [bS]
theorem wordsS_list (x : S54) : (wordsS x).map (·.data.toList) = cwords x := by
  unfold wordsS
  rw [List.map_map]
  conv => rhs; rw [← List.map_id (cwords x)]
  exact List.map_congr_left fun l _ => bS_list l
theorem join_words {x : S54} {W0 w : World} {v : Value} (hO : OwnW W0 v (wordsS x) w) (hx : (endsC x).isSome = true) (hn : cnodes x ≤ 8192) (hL : labI x) : Calls Tryd.prog 55 #[v, .string ⟨#[32]⟩] w (StrPost (ctext x) w) := by
  have hl := cwords_len x hx
  have hc := ctext_len x hx hL
  have hlen : (wordsS x).length = (cwords x).length := by simp [wordsS]
  rcases hO.row.2 with ⟨_, h0⟩ | ⟨g, cap, cur, rfl, hb, hg, hnc, hm, hsz, htk⟩
  · simp [hlen] at h0
    simp [h0] at hl
  · have hj : (Lib.join ((wordsS x).map (·.data.toList)) (⟨#[32]⟩ : ByteArray).data.toList) = ctext x := by rw [wordsS_list]; exact words_text x hx
    refine (Tryd.strings_Join g 0 cap (wordsS x) ⟨#[32]⟩ w (fun j y hy => ?_) (Array.getElem?_eq_some_iff.1 hg).1 (by rw [hlen]; omega) ?_ (by rw [hj]; omega)).mono ?_
    · have := hO.row.cells (g := g) rfl j (.string y) (by rw [List.getElem?_map, hy]; rfl)
      rwa [show (⟨g, 0, none⟩ : Addr).add j = ⟨g, 0 + j, none⟩ by unfold Addr.add; split <;> simp_all] at this
    · omega
    · rintro e w' ⟨rfl, hB⟩
      exact ⟨by rw [hj]; rfl, hB⟩
set_option maxRecDepth 100000 in
set_option maxHeartbeats 3200000 in
theorem coSize_no {x : S54} {v : Value} {w : World} (hx : IsC w v x) (hc : Aside0 (cocheckI x ≠ 0)) : Calls Tryd.prog 19 #[v] w (DeepPost (sizeL x) w) := by
  have HX := Aside0.mk hx
  obtain ⟨A2, c2, A4, c4, A7, c7, rfl, -⟩ := hx
  have hB : Below w.heap.size w (w.alloc (.cells #[.int .i8 x.f0, .int .i8 x.f1.f0, .slice A2 x.f1.f1.length c2, .int .i8 x.f2.f0, .slice A4 x.f2.f1.length c4, .int .i64 x.f3, .bool x.f4, .slice A7 x.f5.length c7] 54)) := (Below.refl _ _).alloc (Nat.le_refl _) _
  have K0 := Aside0.mk (heap_alloc_new w (.cells #[.int .i8 x.f0, .int .i8 x.f1.f0, .slice A2 x.f1.f1.length c2, .int .i8 x.f2.f0, .slice A4 x.f2.f1.length c4, .int .i64 x.f3, .bool x.f4, .slice A7 x.f5.length c7] 54))
  have HW := Aside0.mk hB
  replace HX := Aside0.mk (HX.out.below hB)
  clear hB
  have hne : (cocheckI x != 0) = true := bne_iff_ne.mpr hc.out
  go_enter Tryd.func19, Tryd.ntmps19
  go_wp2_with fail
  generalize w.alloc (.cells #[.int .i8 x.f0, .int .i8 x.f1.f0, .slice A2 x.f1.f1.length c2, .int .i8 x.f2.f0, .slice A4 x.f2.f1.length c4, .int .i64 x.f3, .bool x.f4, .slice A7 x.f5.length c7] 54) = w0 at *
  refine (cocheck_calls HX.out).mono ?_
  rintro e w1 ⟨ka, Pa, na, ma, kb, Pb, nb, mb, rfl, -, -, hB⟩
  replace K0 := Aside0.mk (blk_below K0.out hB)
  replace HX := Aside0.mk (HX.out.below hB)
  replace HW := Aside0.mk (below_then HW.out HW.out.size hB)
  clear hB
  have hB : Below w1.heap.size w1 ((w1.alloc (.cells #[.int .i8 ka, .slice Pa na ma] 43)).alloc (.cells #[.int .i8 kb, .slice Pb nb mb] 43)) := ((Below.refl _ _).alloc (Nat.le_refl _) _).alloc (by simp) _
  replace K0 := Aside0.mk (blk_below K0.out hB)
  replace HX := Aside0.mk (HX.out.below hB)
  replace HW := Aside0.mk (below_then HW.out HW.out.size hB)
  clear hB
  go_wp2_with fail
  go_ret
  exact ⟨(by unfold sizeL; rw [if_neg hc.out]; try rfl), HW.out⟩
set_option maxRecDepth 100000 in
set_option maxHeartbeats 3200000 in
theorem coSize_yes {x : S54} {v : Value} {w : World} (hx : IsC w v x) (hc : Aside0 (cocheckI x = 0)) : Calls Tryd.prog 19 #[v] w (DeepPost (sizeL x) w) := by
  have HX := Aside0.mk hx
  obtain ⟨A2, c2, A4, c4, A7, c7, rfl, -⟩ := hx
  have hB : Below w.heap.size w (w.alloc (.cells #[.int .i8 x.f0, .int .i8 x.f1.f0, .slice A2 x.f1.f1.length c2, .int .i8 x.f2.f0, .slice A4 x.f2.f1.length c4, .int .i64 x.f3, .bool x.f4, .slice A7 x.f5.length c7] 54)) := (Below.refl _ _).alloc (Nat.le_refl _) _
  have K0 := Aside0.mk (heap_alloc_new w (.cells #[.int .i8 x.f0, .int .i8 x.f1.f0, .slice A2 x.f1.f1.length c2, .int .i8 x.f2.f0, .slice A4 x.f2.f1.length c4, .int .i64 x.f3, .bool x.f4, .slice A7 x.f5.length c7] 54))
  have HW := Aside0.mk hB
  replace HX := Aside0.mk (HX.out.below hB)
  clear hB
  have hne : (cocheckI x != 0) = false := bne_eq_false_iff_eq.mpr hc.out
  have HE := Aside0.mk (check_ends hc.out)
  have H8 := Aside0.mk (check_small hc.out)
  go_enter Tryd.func19, Tryd.ntmps19
  go_wp2_with fail
  generalize w.alloc (.cells #[.int .i8 x.f0, .int .i8 x.f1.f0, .slice A2 x.f1.f1.length c2, .int .i8 x.f2.f0, .slice A4 x.f2.f1.length c4, .int .i64 x.f3, .bool x.f4, .slice A7 x.f5.length c7] 54) = w0 at *
  refine (cocheck_calls HX.out).mono ?_
  rintro e w1 ⟨ka, Pa, na, ma, kb, Pb, nb, mb, rfl, -, -, hB⟩
  replace K0 := Aside0.mk (blk_below K0.out hB)
  replace HX := Aside0.mk (HX.out.below hB)
  replace HW := Aside0.mk (below_then HW.out HW.out.size hB)
  clear hB
  have hB : Below w1.heap.size w1 ((w1.alloc (.cells #[.int .i8 ka, .slice Pa na ma] 43)).alloc (.cells #[.int .i8 kb, .slice Pb nb mb] 43)) := ((Below.refl _ _).alloc (Nat.le_refl _) _).alloc (by simp) _
  replace K0 := Aside0.mk (blk_below K0.out hB)
  replace HX := Aside0.mk (HX.out.below hB)
  replace HW := Aside0.mk (below_then HW.out HW.out.size hB)
  clear hB
  go_wp2_with fail
  generalize (w1.alloc (.cells #[.int .i8 ka, .slice Pa na ma] 43)).alloc (.cells #[.int .i8 kb, .slice Pb nb mb] 43) = w2 at *
  refine (measure_calls (AtC_box K0.out HX.out) HE.out H8.out).mono ?_
  rintro e w3 ⟨rfl, hB⟩
  replace K0 := Aside0.mk (blk_below K0.out hB)
  replace HX := Aside0.mk (HX.out.below hB)
  replace HW := Aside0.mk (below_then HW.out HW.out.size hB)
  clear hB
  go_wp2_with fail
  go_ret
  exact ⟨(by unfold sizeL; rw [if_pos hc.out]; try rfl), HW.out⟩
theorem coSize_calls {x : S54} {v : Value} {w : World} (hx : IsC w v x) : Calls Tryd.prog 19 #[v] w (DeepPost (sizeL x) w) := by
  by_cases hc : cocheckI x = 0
  · exact coSize_yes hx ⟨hc⟩
  · exact coSize_no hx ⟨hc⟩
set_option maxRecDepth 100000 in
set_option maxHeartbeats 3200000 in
theorem coHeight_no {x : S54} {v : Value} {w : World} (hx : IsC w v x) (hc : Aside0 (cocheckI x ≠ 0)) : Calls Tryd.prog 21 #[v] w (DeepPost (highL x) w) := by
  have HX := Aside0.mk hx
  obtain ⟨A2, c2, A4, c4, A7, c7, rfl, -⟩ := hx
  have hB : Below w.heap.size w (w.alloc (.cells #[.int .i8 x.f0, .int .i8 x.f1.f0, .slice A2 x.f1.f1.length c2, .int .i8 x.f2.f0, .slice A4 x.f2.f1.length c4, .int .i64 x.f3, .bool x.f4, .slice A7 x.f5.length c7] 54)) := (Below.refl _ _).alloc (Nat.le_refl _) _
  have K0 := Aside0.mk (heap_alloc_new w (.cells #[.int .i8 x.f0, .int .i8 x.f1.f0, .slice A2 x.f1.f1.length c2, .int .i8 x.f2.f0, .slice A4 x.f2.f1.length c4, .int .i64 x.f3, .bool x.f4, .slice A7 x.f5.length c7] 54))
  have HW := Aside0.mk hB
  replace HX := Aside0.mk (HX.out.below hB)
  clear hB
  have hne : (cocheckI x != 0) = true := bne_iff_ne.mpr hc.out
  go_enter Tryd.func21, Tryd.ntmps21
  go_wp2_with fail
  generalize w.alloc (.cells #[.int .i8 x.f0, .int .i8 x.f1.f0, .slice A2 x.f1.f1.length c2, .int .i8 x.f2.f0, .slice A4 x.f2.f1.length c4, .int .i64 x.f3, .bool x.f4, .slice A7 x.f5.length c7] 54) = w0 at *
  refine (cocheck_calls HX.out).mono ?_
  rintro e w1 ⟨ka, Pa, na, ma, kb, Pb, nb, mb, rfl, -, -, hB⟩
  replace K0 := Aside0.mk (blk_below K0.out hB)
  replace HX := Aside0.mk (HX.out.below hB)
  replace HW := Aside0.mk (below_then HW.out HW.out.size hB)
  clear hB
  have hB : Below w1.heap.size w1 ((w1.alloc (.cells #[.int .i8 ka, .slice Pa na ma] 43)).alloc (.cells #[.int .i8 kb, .slice Pb nb mb] 43)) := ((Below.refl _ _).alloc (Nat.le_refl _) _).alloc (by simp) _
  replace K0 := Aside0.mk (blk_below K0.out hB)
  replace HX := Aside0.mk (HX.out.below hB)
  replace HW := Aside0.mk (below_then HW.out HW.out.size hB)
  clear hB
  go_wp2_with fail
  go_ret
  exact ⟨(by unfold highL; rw [if_neg hc.out]; try rfl), HW.out⟩
set_option maxRecDepth 100000 in
set_option maxHeartbeats 3200000 in
theorem coHeight_yes {x : S54} {v : Value} {w : World} (hx : IsC w v x) (hc : Aside0 (cocheckI x = 0)) : Calls Tryd.prog 21 #[v] w (DeepPost (highL x) w) := by
  have HX := Aside0.mk hx
  obtain ⟨A2, c2, A4, c4, A7, c7, rfl, -⟩ := hx
  have hB : Below w.heap.size w (w.alloc (.cells #[.int .i8 x.f0, .int .i8 x.f1.f0, .slice A2 x.f1.f1.length c2, .int .i8 x.f2.f0, .slice A4 x.f2.f1.length c4, .int .i64 x.f3, .bool x.f4, .slice A7 x.f5.length c7] 54)) := (Below.refl _ _).alloc (Nat.le_refl _) _
  have K0 := Aside0.mk (heap_alloc_new w (.cells #[.int .i8 x.f0, .int .i8 x.f1.f0, .slice A2 x.f1.f1.length c2, .int .i8 x.f2.f0, .slice A4 x.f2.f1.length c4, .int .i64 x.f3, .bool x.f4, .slice A7 x.f5.length c7] 54))
  have HW := Aside0.mk hB
  replace HX := Aside0.mk (HX.out.below hB)
  clear hB
  have hne : (cocheckI x != 0) = false := bne_eq_false_iff_eq.mpr hc.out
  have HE := Aside0.mk (check_ends hc.out)
  have H8 := Aside0.mk (check_small hc.out)
  go_enter Tryd.func21, Tryd.ntmps21
  go_wp2_with fail
  generalize w.alloc (.cells #[.int .i8 x.f0, .int .i8 x.f1.f0, .slice A2 x.f1.f1.length c2, .int .i8 x.f2.f0, .slice A4 x.f2.f1.length c4, .int .i64 x.f3, .bool x.f4, .slice A7 x.f5.length c7] 54) = w0 at *
  refine (cocheck_calls HX.out).mono ?_
  rintro e w1 ⟨ka, Pa, na, ma, kb, Pb, nb, mb, rfl, -, -, hB⟩
  replace K0 := Aside0.mk (blk_below K0.out hB)
  replace HX := Aside0.mk (HX.out.below hB)
  replace HW := Aside0.mk (below_then HW.out HW.out.size hB)
  clear hB
  have hB : Below w1.heap.size w1 ((w1.alloc (.cells #[.int .i8 ka, .slice Pa na ma] 43)).alloc (.cells #[.int .i8 kb, .slice Pb nb mb] 43)) := ((Below.refl _ _).alloc (Nat.le_refl _) _).alloc (by simp) _
  replace K0 := Aside0.mk (blk_below K0.out hB)
  replace HX := Aside0.mk (HX.out.below hB)
  replace HW := Aside0.mk (below_then HW.out HW.out.size hB)
  clear hB
  go_wp2_with fail
  generalize (w1.alloc (.cells #[.int .i8 ka, .slice Pa na ma] 43)).alloc (.cells #[.int .i8 kb, .slice Pb nb mb] 43) = w2 at *
  refine (measure_calls (AtC_box K0.out HX.out) HE.out H8.out).mono ?_
  rintro e w3 ⟨rfl, hB⟩
  replace K0 := Aside0.mk (blk_below K0.out hB)
  replace HX := Aside0.mk (HX.out.below hB)
  replace HW := Aside0.mk (below_then HW.out HW.out.size hB)
  clear hB
  go_wp2_with fail
  go_ret
  exact ⟨(by unfold highL; rw [if_pos hc.out]; try rfl), HW.out⟩
theorem coHeight_calls {x : S54} {v : Value} {w : World} (hx : IsC w v x) : Calls Tryd.prog 21 #[v] w (DeepPost (highL x) w) := by
  by_cases hc : cocheckI x = 0
  · exact coHeight_yes hx ⟨hc⟩
  · exact coHeight_no hx ⟨hc⟩
set_option maxRecDepth 100000 in
set_option maxHeartbeats 3200000 in
theorem coText_no {x : S54} {v : Value} {w : World} (hx : IsC w v x) (hc : Aside0 (cocheckI x ≠ 0)) : Calls Tryd.prog 23 #[v] w (StrPost (textL x) w) := by
  have HX := Aside0.mk hx
  obtain ⟨A2, c2, A4, c4, A7, c7, rfl, -⟩ := hx
  have hB : Below w.heap.size w (w.alloc (.cells #[.int .i8 x.f0, .int .i8 x.f1.f0, .slice A2 x.f1.f1.length c2, .int .i8 x.f2.f0, .slice A4 x.f2.f1.length c4, .int .i64 x.f3, .bool x.f4, .slice A7 x.f5.length c7] 54)) := (Below.refl _ _).alloc (Nat.le_refl _) _
  have K0 := Aside0.mk (heap_alloc_new w (.cells #[.int .i8 x.f0, .int .i8 x.f1.f0, .slice A2 x.f1.f1.length c2, .int .i8 x.f2.f0, .slice A4 x.f2.f1.length c4, .int .i64 x.f3, .bool x.f4, .slice A7 x.f5.length c7] 54))
  have HW := Aside0.mk hB
  replace HX := Aside0.mk (HX.out.below hB)
  clear hB
  have hne : (cocheckI x != 0) = true := bne_iff_ne.mpr hc.out
  go_enter Tryd.func23, Tryd.ntmps23
  go_wp2_with fail
  generalize w.alloc (.cells #[.int .i8 x.f0, .int .i8 x.f1.f0, .slice A2 x.f1.f1.length c2, .int .i8 x.f2.f0, .slice A4 x.f2.f1.length c4, .int .i64 x.f3, .bool x.f4, .slice A7 x.f5.length c7] 54) = w0 at *
  refine (cocheck_calls HX.out).mono ?_
  rintro e w1 ⟨ka, Pa, na, ma, kb, Pb, nb, mb, rfl, -, -, hB⟩
  replace K0 := Aside0.mk (blk_below K0.out hB)
  replace HX := Aside0.mk (HX.out.below hB)
  replace HW := Aside0.mk (below_then HW.out HW.out.size hB)
  clear hB
  have hB : Below w1.heap.size w1 ((w1.alloc (.cells #[.int .i8 ka, .slice Pa na ma] 43)).alloc (.cells #[.int .i8 kb, .slice Pb nb mb] 43)) := ((Below.refl _ _).alloc (Nat.le_refl _) _).alloc (by simp) _
  replace K0 := Aside0.mk (blk_below K0.out hB)
  replace HX := Aside0.mk (HX.out.below hB)
  replace HW := Aside0.mk (below_then HW.out HW.out.size hB)
  clear hB
  go_wp2_with fail
  go_ret
  exact ⟨(by unfold textL; rw [if_neg hc.out]; try rfl), HW.out⟩
set_option maxRecDepth 100000 in
set_option maxHeartbeats 3200000 in
theorem coText_yes {x : S54} {v : Value} {w : World} (hx : IsC w v x) (hc : Aside0 (cocheckI x = 0)) (htab : HasTab w) (hlab : Aside0 (labI x)) : Calls Tryd.prog 23 #[v] w (StrPost (textL x) w) := by
  have HX := Aside0.mk hx
  obtain ⟨A2, c2, A4, c4, A7, c7, rfl, -⟩ := hx
  have hB : Below w.heap.size w (w.alloc (.cells #[.int .i8 x.f0, .int .i8 x.f1.f0, .slice A2 x.f1.f1.length c2, .int .i8 x.f2.f0, .slice A4 x.f2.f1.length c4, .int .i64 x.f3, .bool x.f4, .slice A7 x.f5.length c7] 54)) := (Below.refl _ _).alloc (Nat.le_refl _) _
  have K0 := Aside0.mk (heap_alloc_new w (.cells #[.int .i8 x.f0, .int .i8 x.f1.f0, .slice A2 x.f1.f1.length c2, .int .i8 x.f2.f0, .slice A4 x.f2.f1.length c4, .int .i64 x.f3, .bool x.f4, .slice A7 x.f5.length c7] 54))
  have HW := Aside0.mk hB
  replace HX := Aside0.mk (HX.out.below hB)
  clear hB
  have hne : (cocheckI x != 0) = false := bne_eq_false_iff_eq.mpr hc.out
  have HE := Aside0.mk (check_ends hc.out)
  have H8 := Aside0.mk (check_small hc.out)
  have HTB := Aside0.mk (htab.below HW.out)
  clear htab
  go_enter Tryd.func23, Tryd.ntmps23
  go_wp2_with fail
  generalize w.alloc (.cells #[.int .i8 x.f0, .int .i8 x.f1.f0, .slice A2 x.f1.f1.length c2, .int .i8 x.f2.f0, .slice A4 x.f2.f1.length c4, .int .i64 x.f3, .bool x.f4, .slice A7 x.f5.length c7] 54) = w0 at *
  refine (cocheck_calls HX.out).mono ?_
  rintro e w1 ⟨ka, Pa, na, ma, kb, Pb, nb, mb, rfl, -, -, hB⟩
  replace K0 := Aside0.mk (blk_below K0.out hB)
  replace HX := Aside0.mk (HX.out.below hB)
  replace HW := Aside0.mk (below_then HW.out HW.out.size hB)
  replace HTB := Aside0.mk (HTB.out.below hB)
  clear hB
  have hB : Below w1.heap.size w1 ((w1.alloc (.cells #[.int .i8 ka, .slice Pa na ma] 43)).alloc (.cells #[.int .i8 kb, .slice Pb nb mb] 43)) := ((Below.refl _ _).alloc (Nat.le_refl _) _).alloc (by simp) _
  replace K0 := Aside0.mk (blk_below K0.out hB)
  replace HX := Aside0.mk (HX.out.below hB)
  replace HW := Aside0.mk (below_then HW.out HW.out.size hB)
  replace HTB := Aside0.mk (HTB.out.below hB)
  clear hB
  go_wp2_with fail
  generalize (w1.alloc (.cells #[.int .i8 ka, .slice Pa na ma] 43)).alloc (.cells #[.int .i8 kb, .slice Pb nb mb] 43) = w2 at *
  refine (words_all w2 HTB.out x HE.out H8.out hlab.out _ _ [] w2 (AtC_box K0.out HX.out) (OwnW.nil w2) (by have := H8.out; simp only [List.length_nil]; omega)).mono ?_
  rintro e w3 ⟨v3, rfl, ho, hg⟩
  rw [List.nil_append] at ho
  have HO := Aside0.mk ho
  have hB := ho.below
  clear ho hg
  replace K0 := Aside0.mk (blk_below K0.out hB)
  replace HX := Aside0.mk (HX.out.below hB)
  replace HW := Aside0.mk (below_then HW.out HW.out.size hB)
  clear hB
  obtain ⟨A3, n3, c3, rfl⟩ := HO.out.slice
  go_wp2_with fail
  refine (join_words HO.out HE.out H8.out hlab.out).mono ?_
  rintro e w4 ⟨rfl, hB⟩
  replace K0 := Aside0.mk (blk_below K0.out hB)
  replace HX := Aside0.mk (HX.out.below hB)
  replace HW := Aside0.mk (below_then HW.out HW.out.size hB)
  clear hB
  by_cases hq : (65536 : Int) < ((bS (ctext x)).size : Int)
  · have hq2 : 65536 < (ctext x).length := by rw [bS_size] at hq; omega
    go_wp2_with fail
    go_ret
    exact ⟨(by unfold textL; rw [if_pos hc.out, if_pos hq2]; try rfl), HW.out⟩
  · have hq2 : ¬ 65536 < (ctext x).length := by rw [bS_size] at hq; omega
    go_wp2_with fail
    go_ret
    exact ⟨(by unfold textL; rw [if_pos hc.out, if_neg hq2]; try rfl), HW.out⟩
theorem coText_calls {x : S54} {v : Value} {w : World} (hx : IsC w v x) (htab : HasTab w) (hlab : labI x) : Calls Tryd.prog 23 #[v] w (StrPost (textL x) w) := by
  by_cases hc : cocheckI x = 0
  · exact coText_yes hx ⟨hc⟩ htab ⟨hlab⟩
  · exact coText_no hx ⟨hc⟩
set_option maxRecDepth 100000 in
set_option maxHeartbeats 3200000 in
theorem rSize_no {x : S54} {v : Value} {w : World} (hx : IsC w v x) (hc : Aside0 (cocheckI x ≠ 0)) : Calls Tryd.prog 20 #[v] w (DeepPost (sizeL x) w) := by
  have HX := Aside0.mk hx
  obtain ⟨A2, c2, A4, c4, A7, c7, rfl, -⟩ := hx
  have hB : Below w.heap.size w (w.alloc (.cells #[.int .i8 x.f0, .int .i8 x.f1.f0, .slice A2 x.f1.f1.length c2, .int .i8 x.f2.f0, .slice A4 x.f2.f1.length c4, .int .i64 x.f3, .bool x.f4, .slice A7 x.f5.length c7] 54)) := (Below.refl _ _).alloc (Nat.le_refl _) _
  have K0 := Aside0.mk (heap_alloc_new w (.cells #[.int .i8 x.f0, .int .i8 x.f1.f0, .slice A2 x.f1.f1.length c2, .int .i8 x.f2.f0, .slice A4 x.f2.f1.length c4, .int .i64 x.f3, .bool x.f4, .slice A7 x.f5.length c7] 54))
  have HW := Aside0.mk hB
  replace HX := Aside0.mk (HX.out.below hB)
  clear hB
  have hd : decide (cocheckI x = 0) = false := decide_eq_false hc.out
  go_enter Tryd.func20, Tryd.ntmps20
  go_wp2_with fail
  generalize w.alloc (.cells #[.int .i8 x.f0, .int .i8 x.f1.f0, .slice A2 x.f1.f1.length c2, .int .i8 x.f2.f0, .slice A4 x.f2.f1.length c4, .int .i64 x.f3, .bool x.f4, .slice A7 x.f5.length c7] 54) = w0 at *
  refine (rright_calls ⟨fun _ _ _ h => rcheck15_calls h⟩ HX.out).mono ?_
  rintro e w1 ⟨rfl, hB⟩
  rw [hd]
  replace K0 := Aside0.mk (blk_below K0.out hB)
  replace HX := Aside0.mk (HX.out.below hB)
  replace HW := Aside0.mk (below_then HW.out HW.out.size hB)
  clear hB
  go_wp2_with fail
  go_ret
  exact ⟨(by unfold sizeL; rw [if_neg hc.out]; try rfl), HW.out⟩
set_option maxRecDepth 100000 in
set_option maxHeartbeats 3200000 in
theorem rSize_yes {x : S54} {v : Value} {w : World} (hx : IsC w v x) (hc : Aside0 (cocheckI x = 0)) : Calls Tryd.prog 20 #[v] w (DeepPost (sizeL x) w) := by
  have HX := Aside0.mk hx
  obtain ⟨A2, c2, A4, c4, A7, c7, rfl, -⟩ := hx
  have hB : Below w.heap.size w (w.alloc (.cells #[.int .i8 x.f0, .int .i8 x.f1.f0, .slice A2 x.f1.f1.length c2, .int .i8 x.f2.f0, .slice A4 x.f2.f1.length c4, .int .i64 x.f3, .bool x.f4, .slice A7 x.f5.length c7] 54)) := (Below.refl _ _).alloc (Nat.le_refl _) _
  have K0 := Aside0.mk (heap_alloc_new w (.cells #[.int .i8 x.f0, .int .i8 x.f1.f0, .slice A2 x.f1.f1.length c2, .int .i8 x.f2.f0, .slice A4 x.f2.f1.length c4, .int .i64 x.f3, .bool x.f4, .slice A7 x.f5.length c7] 54))
  have HW := Aside0.mk hB
  replace HX := Aside0.mk (HX.out.below hB)
  clear hB
  have hd : decide (cocheckI x = 0) = true := decide_eq_true hc.out
  have HE := Aside0.mk (check_ends hc.out)
  have H8 := Aside0.mk (check_small hc.out)
  go_enter Tryd.func20, Tryd.ntmps20
  go_wp2_with fail
  generalize w.alloc (.cells #[.int .i8 x.f0, .int .i8 x.f1.f0, .slice A2 x.f1.f1.length c2, .int .i8 x.f2.f0, .slice A4 x.f2.f1.length c4, .int .i64 x.f3, .bool x.f4, .slice A7 x.f5.length c7] 54) = w0 at *
  refine (rright_calls ⟨fun _ _ _ h => rcheck15_calls h⟩ HX.out).mono ?_
  rintro e w1 ⟨rfl, hB⟩
  rw [hd]
  replace K0 := Aside0.mk (blk_below K0.out hB)
  replace HX := Aside0.mk (HX.out.below hB)
  replace HW := Aside0.mk (below_then HW.out HW.out.size hB)
  clear hB
  obtain ⟨b0, b1, b2, b3, b4, b5, b6, b7⟩ := cells8 K0.out
  go_wp2_with fail
  clear b0 b1 b2 b3 b4 b5 b6 b7
  refine (rsize_calls HX.out HE.out H8.out).mono ?_
  rintro e w3 ⟨rfl, hB⟩
  replace K0 := Aside0.mk (blk_below K0.out hB)
  replace HX := Aside0.mk (HX.out.below hB)
  replace HW := Aside0.mk (below_then HW.out HW.out.size hB)
  clear hB
  go_wp2_with fail
  go_ret
  exact ⟨(by unfold sizeL; rw [if_pos hc.out]; try rfl), HW.out⟩
theorem rSize_calls {x : S54} {v : Value} {w : World} (hx : IsC w v x) : Calls Tryd.prog 20 #[v] w (DeepPost (sizeL x) w) := by
  by_cases hc : cocheckI x = 0
  · exact rSize_yes hx ⟨hc⟩
  · exact rSize_no hx ⟨hc⟩
set_option maxRecDepth 100000 in
set_option maxHeartbeats 3200000 in
theorem rHeight_no {x : S54} {v : Value} {w : World} (hx : IsC w v x) (hc : Aside0 (cocheckI x ≠ 0)) : Calls Tryd.prog 22 #[v] w (DeepPost (highL x) w) := by
  have HX := Aside0.mk hx
  obtain ⟨A2, c2, A4, c4, A7, c7, rfl, -⟩ := hx
  have hB : Below w.heap.size w (w.alloc (.cells #[.int .i8 x.f0, .int .i8 x.f1.f0, .slice A2 x.f1.f1.length c2, .int .i8 x.f2.f0, .slice A4 x.f2.f1.length c4, .int .i64 x.f3, .bool x.f4, .slice A7 x.f5.length c7] 54)) := (Below.refl _ _).alloc (Nat.le_refl _) _
  have K0 := Aside0.mk (heap_alloc_new w (.cells #[.int .i8 x.f0, .int .i8 x.f1.f0, .slice A2 x.f1.f1.length c2, .int .i8 x.f2.f0, .slice A4 x.f2.f1.length c4, .int .i64 x.f3, .bool x.f4, .slice A7 x.f5.length c7] 54))
  have HW := Aside0.mk hB
  replace HX := Aside0.mk (HX.out.below hB)
  clear hB
  have hd : decide (cocheckI x = 0) = false := decide_eq_false hc.out
  go_enter Tryd.func22, Tryd.ntmps22
  go_wp2_with fail
  generalize w.alloc (.cells #[.int .i8 x.f0, .int .i8 x.f1.f0, .slice A2 x.f1.f1.length c2, .int .i8 x.f2.f0, .slice A4 x.f2.f1.length c4, .int .i64 x.f3, .bool x.f4, .slice A7 x.f5.length c7] 54) = w0 at *
  refine (rright_calls ⟨fun _ _ _ h => rcheck15_calls h⟩ HX.out).mono ?_
  rintro e w1 ⟨rfl, hB⟩
  rw [hd]
  replace K0 := Aside0.mk (blk_below K0.out hB)
  replace HX := Aside0.mk (HX.out.below hB)
  replace HW := Aside0.mk (below_then HW.out HW.out.size hB)
  clear hB
  go_wp2_with fail
  go_ret
  exact ⟨(by unfold highL; rw [if_neg hc.out]; try rfl), HW.out⟩
set_option maxRecDepth 100000 in
set_option maxHeartbeats 3200000 in
theorem rHeight_yes {x : S54} {v : Value} {w : World} (hx : IsC w v x) (hc : Aside0 (cocheckI x = 0)) : Calls Tryd.prog 22 #[v] w (DeepPost (highL x) w) := by
  have HX := Aside0.mk hx
  obtain ⟨A2, c2, A4, c4, A7, c7, rfl, -⟩ := hx
  have hB : Below w.heap.size w (w.alloc (.cells #[.int .i8 x.f0, .int .i8 x.f1.f0, .slice A2 x.f1.f1.length c2, .int .i8 x.f2.f0, .slice A4 x.f2.f1.length c4, .int .i64 x.f3, .bool x.f4, .slice A7 x.f5.length c7] 54)) := (Below.refl _ _).alloc (Nat.le_refl _) _
  have K0 := Aside0.mk (heap_alloc_new w (.cells #[.int .i8 x.f0, .int .i8 x.f1.f0, .slice A2 x.f1.f1.length c2, .int .i8 x.f2.f0, .slice A4 x.f2.f1.length c4, .int .i64 x.f3, .bool x.f4, .slice A7 x.f5.length c7] 54))
  have HW := Aside0.mk hB
  replace HX := Aside0.mk (HX.out.below hB)
  clear hB
  have hd : decide (cocheckI x = 0) = true := decide_eq_true hc.out
  have HE := Aside0.mk (check_ends hc.out)
  have H8 := Aside0.mk (check_small hc.out)
  go_enter Tryd.func22, Tryd.ntmps22
  go_wp2_with fail
  generalize w.alloc (.cells #[.int .i8 x.f0, .int .i8 x.f1.f0, .slice A2 x.f1.f1.length c2, .int .i8 x.f2.f0, .slice A4 x.f2.f1.length c4, .int .i64 x.f3, .bool x.f4, .slice A7 x.f5.length c7] 54) = w0 at *
  refine (rright_calls ⟨fun _ _ _ h => rcheck15_calls h⟩ HX.out).mono ?_
  rintro e w1 ⟨rfl, hB⟩
  rw [hd]
  replace K0 := Aside0.mk (blk_below K0.out hB)
  replace HX := Aside0.mk (HX.out.below hB)
  replace HW := Aside0.mk (below_then HW.out HW.out.size hB)
  clear hB
  obtain ⟨b0, b1, b2, b3, b4, b5, b6, b7⟩ := cells8 K0.out
  go_wp2_with fail
  clear b0 b1 b2 b3 b4 b5 b6 b7
  refine (rheight_calls HX.out HE.out H8.out).mono ?_
  rintro e w3 ⟨rfl, hB⟩
  replace K0 := Aside0.mk (blk_below K0.out hB)
  replace HX := Aside0.mk (HX.out.below hB)
  replace HW := Aside0.mk (below_then HW.out HW.out.size hB)
  clear hB
  go_wp2_with fail
  go_ret
  exact ⟨(by unfold highL; rw [if_pos hc.out]; try rfl), HW.out⟩
theorem rHeight_calls {x : S54} {v : Value} {w : World} (hx : IsC w v x) : Calls Tryd.prog 22 #[v] w (DeepPost (highL x) w) := by
  by_cases hc : cocheckI x = 0
  · exact rHeight_yes hx ⟨hc⟩
  · exact rHeight_no hx ⟨hc⟩
set_option maxRecDepth 100000 in
set_option maxHeartbeats 3200000 in
theorem rText_no {x : S54} {v : Value} {w : World} (hx : IsC w v x) (hc : Aside0 (cocheckI x ≠ 0)) : Calls Tryd.prog 24 #[v] w (StrPost (textL x) w) := by
  have HX := Aside0.mk hx
  obtain ⟨A2, c2, A4, c4, A7, c7, rfl, -⟩ := hx
  have hB : Below w.heap.size w (w.alloc (.cells #[.int .i8 x.f0, .int .i8 x.f1.f0, .slice A2 x.f1.f1.length c2, .int .i8 x.f2.f0, .slice A4 x.f2.f1.length c4, .int .i64 x.f3, .bool x.f4, .slice A7 x.f5.length c7] 54)) := (Below.refl _ _).alloc (Nat.le_refl _) _
  have K0 := Aside0.mk (heap_alloc_new w (.cells #[.int .i8 x.f0, .int .i8 x.f1.f0, .slice A2 x.f1.f1.length c2, .int .i8 x.f2.f0, .slice A4 x.f2.f1.length c4, .int .i64 x.f3, .bool x.f4, .slice A7 x.f5.length c7] 54))
  have HW := Aside0.mk hB
  replace HX := Aside0.mk (HX.out.below hB)
  clear hB
  have hd : decide (cocheckI x = 0) = false := decide_eq_false hc.out
  go_enter Tryd.func24, Tryd.ntmps24
  go_wp2_with fail
  generalize w.alloc (.cells #[.int .i8 x.f0, .int .i8 x.f1.f0, .slice A2 x.f1.f1.length c2, .int .i8 x.f2.f0, .slice A4 x.f2.f1.length c4, .int .i64 x.f3, .bool x.f4, .slice A7 x.f5.length c7] 54) = w0 at *
  refine (rright_calls ⟨fun _ _ _ h => rcheck15_calls h⟩ HX.out).mono ?_
  rintro e w1 ⟨rfl, hB⟩
  rw [hd]
  replace K0 := Aside0.mk (blk_below K0.out hB)
  replace HX := Aside0.mk (HX.out.below hB)
  replace HW := Aside0.mk (below_then HW.out HW.out.size hB)
  clear hB
  go_wp2_with fail
  go_ret
  exact ⟨(by unfold textL; rw [if_neg hc.out]; try rfl), HW.out⟩
set_option maxRecDepth 100000 in
set_option maxHeartbeats 3200000 in
theorem rText_yes {x : S54} {v : Value} {w : World} (hx : IsC w v x) (hc : Aside0 (cocheckI x = 0)) (hlab : Aside0 (labI x)) : Calls Tryd.prog 24 #[v] w (StrPost (textL x) w) := by
  have HX := Aside0.mk hx
  obtain ⟨A2, c2, A4, c4, A7, c7, rfl, -⟩ := hx
  have hB : Below w.heap.size w (w.alloc (.cells #[.int .i8 x.f0, .int .i8 x.f1.f0, .slice A2 x.f1.f1.length c2, .int .i8 x.f2.f0, .slice A4 x.f2.f1.length c4, .int .i64 x.f3, .bool x.f4, .slice A7 x.f5.length c7] 54)) := (Below.refl _ _).alloc (Nat.le_refl _) _
  have K0 := Aside0.mk (heap_alloc_new w (.cells #[.int .i8 x.f0, .int .i8 x.f1.f0, .slice A2 x.f1.f1.length c2, .int .i8 x.f2.f0, .slice A4 x.f2.f1.length c4, .int .i64 x.f3, .bool x.f4, .slice A7 x.f5.length c7] 54))
  have HW := Aside0.mk hB
  replace HX := Aside0.mk (HX.out.below hB)
  clear hB
  have hd : decide (cocheckI x = 0) = true := decide_eq_true hc.out
  have HE := Aside0.mk (check_ends hc.out)
  have H8 := Aside0.mk (check_small hc.out)
  go_enter Tryd.func24, Tryd.ntmps24
  go_wp2_with fail
  generalize w.alloc (.cells #[.int .i8 x.f0, .int .i8 x.f1.f0, .slice A2 x.f1.f1.length c2, .int .i8 x.f2.f0, .slice A4 x.f2.f1.length c4, .int .i64 x.f3, .bool x.f4, .slice A7 x.f5.length c7] 54) = w0 at *
  refine (rright_calls ⟨fun _ _ _ h => rcheck15_calls h⟩ HX.out).mono ?_
  rintro e w1 ⟨rfl, hB⟩
  rw [hd]
  replace K0 := Aside0.mk (blk_below K0.out hB)
  replace HX := Aside0.mk (HX.out.below hB)
  replace HW := Aside0.mk (below_then HW.out HW.out.size hB)
  clear hB
  obtain ⟨b0, b1, b2, b3, b4, b5, b6, b7⟩ := cells8 K0.out
  go_wp2_with fail
  clear b0 b1 b2 b3 b4 b5 b6 b7
  refine (rtext_calls HX.out HE.out H8.out hlab.out).mono ?_
  rintro e w3 ⟨rfl, hB⟩
  replace K0 := Aside0.mk (blk_below K0.out hB)
  replace HX := Aside0.mk (HX.out.below hB)
  replace HW := Aside0.mk (below_then HW.out HW.out.size hB)
  clear hB
  by_cases hq : (65536 : Int) < ((bS (ctext x)).size : Int)
  · have hq2 : 65536 < (ctext x).length := by rw [bS_size] at hq; omega
    go_wp2_with fail
    go_ret
    exact ⟨(by unfold textL; rw [if_pos hc.out, if_pos hq2]; try rfl), HW.out⟩
  · have hq2 : ¬ 65536 < (ctext x).length := by rw [bS_size] at hq; omega
    go_wp2_with fail
    go_ret
    exact ⟨(by unfold textL; rw [if_pos hc.out, if_neg hq2]; try rfl), HW.out⟩
theorem rText_calls {x : S54} {v : Value} {w : World} (hx : IsC w v x) (hlab : labI x) : Calls Tryd.prog 24 #[v] w (StrPost (textL x) w) := by
  by_cases hc : cocheckI x = 0
  · exact rText_yes hx ⟨hc⟩ ⟨hlab⟩
  · exact rText_no hx ⟨hc⟩
end Go.Proofs.YtjmpejbciniceaaDoor.X
namespace Go.Proofs.YtjmpejbciniceaaDoor.X
open Go.RowKit Go.Proofs.YtjmpejbciniceaaDoorW.PrintWords Go.Proofs.YtjmpejbciniceaaDoorW.PrintLast Go.Proofs.YtjmpejbciniceaaDoorW.PrintMore
set_option linter.unusedVariables false
set_option linter.unusedSimpArgs false
def endsZ (x : S54) : S43 × S43 := if cocheckI x = 0 then (endsC x).getD (z43, z43) else (z43, z43)
theorem endsZ_of {x : S54} (h : cocheckI x = 0) {a b : S43} (he : endsC x = some (a, b)) : endsZ x = (a, b) := by
  unfold endsZ
  rw [if_pos h, he]
  rfl
theorem endsZ_no {x : S54} (h : cocheckI x ≠ 0) : endsZ x = (z43, z43) := by
  unfold endsZ
  rw [if_neg h]
theorem endsZ_nodes (x : S54) : nodes (endsZ x).1 ≤ 8192 ∧ nodes (endsZ x).2 ≤ 8192 := by
  by_cases h : cocheckI x = 0
  · cases he : endsC x with
    | none =>
      have := check_ends h
      rw [he] at this
      simp at this
    | some v =>
      obtain ⟨a, b⟩ := v
      rw [endsZ_of h he]
      have h2 := h
      unfold cocheckI at h2
      rw [he] at h2
      split at h2
      · simp at h2
      split at h2
      · simp at h2
      simp only at h2
      split at h2
      · rename_i ha
        exact ⟨(check_nodes ha).1, (check_nodes h2).1⟩
      · rename_i ha
        exact absurd h2 ha
  · rw [endsZ_no h]
    simp [z43, nodes, nodesL]
def BothPost (x : S54) (ta tb : S43) (w : World) (e : Ending) (w' : World) : Prop := ∃ (P : Option Addr) (p : Nat) (Q : Option Addr) (q : Nat), e = .returned (.tuple #[.agg #[.int .i8 ta.f0, .slice P ta.f1.length p], .agg #[.int .i8 tb.f0, .slice Q tb.f1.length q], .int .i64 (cocheckI x)]) ∧
  IsT w' (.agg #[.int .i8 ta.f0, .slice P ta.f1.length p]) ta ∧ IsT w' (.agg #[.int .i8 tb.f0, .slice Q tb.f1.length q]) tb ∧ Below w.heap.size w w'
theorem both_of {x : S54} {ta tb : S43} {va vb : Value} {w w' : World} (ha : IsT w' va ta) (hb : IsT w' vb tb) (hB : Below w.heap.size w w') : BothPost x ta tb w (.returned (.tuple #[va, vb, .int .i64 (cocheckI x)])) w' := by
  have ha' := ha
  have hb' := hb
  obtain ⟨P, p, rfl, -⟩ := ha
  obtain ⟨Q, q, rfl, -⟩ := hb
  exact ⟨P, p, Q, q, rfl, ha', hb', hB⟩
theorem coBoth_calls {x : S54} {v : Value} {w : World} (hx : IsC w v x) : Calls Tryd.prog 16 #[v] w (BothPost x (endsZ x).1 (endsZ x).2 w) := by
  refine (cocheck_calls hx).mono ?_
  rintro e w' ⟨ka, Pa, na, ma, kb, Pb, nb, mb, rfl, h0, h1, hB⟩
  by_cases h : cocheckI x = 0
  · cases he : endsC x with
    | none =>
      have := check_ends h
      rw [he] at this
      simp at this
    | some v =>
      obtain ⟨a, b⟩ := v
      rw [endsZ_of h he]
      obtain ⟨g1, g2⟩ := h0 h a b he
      exact both_of g1 g2 hB
  · rw [endsZ_no h]
    obtain ⟨g1, g2⟩ := h1 h
    exact both_of g1 g2 hB
theorem rBoth_calls {x : S54} {v : Value} {w : World} (hx : IsC w v x) : Calls Tryd.prog 17 #[v] w (BothPost x (endsZ x).1 (endsZ x).2 w) := by
  refine (rcheck15_calls hx).mono ?_
  rintro e w' ⟨va, vb, ta, tb, rfl, g1, g2, h0, h1, hB⟩
  by_cases h : cocheckI x = 0
  · rw [endsZ_of h (h0 h)]
    exact both_of g1 g2 hB
  · rw [endsZ_no h]
    obtain ⟨rfl, rfl⟩ := h1 h
    exact both_of g1 g2 hB
set_option maxRecDepth 100000 in
set_option maxHeartbeats 6400000 in
theorem coercecheck_at {x : S54} {v : Value} {w : World} {ta tb : S43} (hx : IsC w v x) (htab : HasTab w) (hlab : labI x) (hna : nodes ta ≤ 8192) (hnb : nodes tb ≤ 8192)
    (H1 : Aside0 (∀ (v : Value) (w : World), IsC w v x → Calls Tryd.prog 16 #[v] w (BothPost x ta tb w))) (H2 : Aside0 (∀ (v : Value) (w : World), IsC w v x → Calls Tryd.prog 17 #[v] w (BothPost x ta tb w))) : Calls Tryd.prog 6 #[v] w (SaysB true w) := by
  have HX := Aside0.mk hx
  have HTB := Aside0.mk htab
  have HL := Aside0.mk hlab
  have HNA := Aside0.mk hna
  have HNB := Aside0.mk hnb
  clear htab hlab hna hnb
  obtain ⟨A2, c2, A4, c4, A7, c7, rfl, -⟩ := hx
  have hB : Below w.heap.size w (w.alloc (.cells #[.int .i8 x.f0, .int .i8 x.f1.f0, .slice A2 x.f1.f1.length c2, .int .i8 x.f2.f0, .slice A4 x.f2.f1.length c4, .int .i64 x.f3, .bool x.f4, .slice A7 x.f5.length c7] 54)) := (Below.refl _ _).alloc (Nat.le_refl _) _
  have K0 := Aside0.mk (heap_alloc_new w (.cells #[.int .i8 x.f0, .int .i8 x.f1.f0, .slice A2 x.f1.f1.length c2, .int .i8 x.f2.f0, .slice A4 x.f2.f1.length c4, .int .i64 x.f3, .bool x.f4, .slice A7 x.f5.length c7] 54))
  have HW := Aside0.mk hB
  replace HX := Aside0.mk (HX.out.below hB)
  replace HTB := Aside0.mk (HTB.out.below hB)
  clear hB
  go_enter Tryd.func6, Tryd.ntmps6
  go_wp2_with fail
  generalize w.alloc (.cells #[.int .i8 x.f0, .int .i8 x.f1.f0, .slice A2 x.f1.f1.length c2, .int .i8 x.f2.f0, .slice A4 x.f2.f1.length c4, .int .i64 x.f3, .bool x.f4, .slice A7 x.f5.length c7] 54) = w0 at *
  refine (H1.out _ _ HX.out).mono ?_
  rintro e w1 ⟨PA, pa, PB, pb, rfl, h1, h2, hB⟩
  have HA := Aside0.mk h1
  have HB := Aside0.mk h2
  clear h1 h2
  replace K0 := Aside0.mk (blk_below K0.out hB)
  replace HX := Aside0.mk (HX.out.below hB)
  replace HTB := Aside0.mk (HTB.out.below hB)
  replace HW := Aside0.mk (below_then HW.out HW.out.size hB)
  clear hB
  obtain ⟨q1, q2, hB⟩ := two_ w1 (.cells #[.int .i8 ta.f0, .slice PA ta.f1.length pa] 43) (.cells #[.int .i8 tb.f0, .slice PB tb.f1.length pb] 43)
  have KA := Aside0.mk q1
  have KB := Aside0.mk q2
  clear q1 q2
  replace K0 := Aside0.mk (blk_below K0.out hB)
  replace HX := Aside0.mk (HX.out.below hB)
  replace HTB := Aside0.mk (HTB.out.below hB)
  replace HA := Aside0.mk (HA.out.below hB)
  replace HB := Aside0.mk (HB.out.below hB)
  replace HW := Aside0.mk (below_then HW.out HW.out.size hB)
  clear hB
  obtain ⟨b0, b1, b2, b3, b4, b5, b6, b7⟩ := cells8 K0.out
  go_wp2_with fail
  clear b0 b1 b2 b3 b4 b5 b6 b7
  generalize (w1.alloc (.cells #[.int .i8 ta.f0, .slice PA ta.f1.length pa] 43)).alloc (.cells #[.int .i8 tb.f0, .slice PB tb.f1.length pb] 43) = w2 at *
  generalize w1.heap.size = gw1 at *
  refine (H2.out _ _ HX.out).mono ?_
  rintro e w3 ⟨PC, pc, PD, pd, rfl, h1, h2, hB⟩
  have HC := Aside0.mk h1
  have HD := Aside0.mk h2
  clear h1 h2
  replace K0 := Aside0.mk (blk_below K0.out hB)
  replace KA := Aside0.mk (blk_below KA.out hB)
  replace KB := Aside0.mk (blk_below KB.out hB)
  replace HX := Aside0.mk (HX.out.below hB)
  replace HTB := Aside0.mk (HTB.out.below hB)
  replace HA := Aside0.mk (HA.out.below hB)
  replace HB := Aside0.mk (HB.out.below hB)
  replace HW := Aside0.mk (below_then HW.out HW.out.size hB)
  clear hB
  obtain ⟨q1, q2, hB⟩ := two_ w3 (.cells #[.int .i8 ta.f0, .slice PC ta.f1.length pc] 43) (.cells #[.int .i8 tb.f0, .slice PD tb.f1.length pd] 43)
  have KC := Aside0.mk q1
  have KD := Aside0.mk q2
  clear q1 q2
  replace K0 := Aside0.mk (blk_below K0.out hB)
  replace KA := Aside0.mk (blk_below KA.out hB)
  replace KB := Aside0.mk (blk_below KB.out hB)
  replace HX := Aside0.mk (HX.out.below hB)
  replace HTB := Aside0.mk (HTB.out.below hB)
  replace HA := Aside0.mk (HA.out.below hB)
  replace HB := Aside0.mk (HB.out.below hB)
  replace HC := Aside0.mk (HC.out.below hB)
  replace HD := Aside0.mk (HD.out.below hB)
  replace HW := Aside0.mk (below_then HW.out HW.out.size hB)
  clear hB
  go_wp2_with fail
  generalize (w3.alloc (.cells #[.int .i8 ta.f0, .slice PC ta.f1.length pc] 43)).alloc (.cells #[.int .i8 tb.f0, .slice PD tb.f1.length pd] 43) = w4 at *
  generalize w3.heap.size = gw3 at *
  refine wp_region_held_drew (S := fun w' => w'.cell? ⟨w.heap.size, 0, none⟩ = some (.int .i8 x.f0) ∧ w'.cell? ⟨w.heap.size, 1, none⟩ = some (.int .i8 x.f1.f0) ∧ w'.cell? ⟨w.heap.size, 2, none⟩ = some (.slice A2 x.f1.f1.length c2) ∧ w'.cell? ⟨w.heap.size, 3, none⟩ = some (.int .i8 x.f2.f0) ∧ w'.cell? ⟨w.heap.size, 4, none⟩ = some (.slice A4 x.f2.f1.length c4) ∧ w'.cell? ⟨w.heap.size, 5, none⟩ = some (.int .i64 x.f3) ∧ w'.cell? ⟨w.heap.size, 6, none⟩ = some (.bool x.f4) ∧ w'.cell? ⟨w.heap.size, 7, none⟩ = some (.slice A7 x.f5.length c7) ∧ w'.cell? ⟨gw1, 0, none⟩ = some (.int .i8 ta.f0) ∧ w'.cell? ⟨gw1, 1, none⟩ = some (.slice PA ta.f1.length pa) ∧ w'.cell? ⟨gw1 + 1, 0, none⟩ = some (.int .i8 tb.f0) ∧ w'.cell? ⟨gw1 + 1, 1, none⟩ = some (.slice PB tb.f1.length pb) ∧ w'.cell? ⟨gw3, 0, none⟩ = some (.int .i8 ta.f0) ∧ w'.cell? ⟨gw3, 1, none⟩ = some (.slice PC ta.f1.length pc) ∧ w'.cell? ⟨gw3 + 1, 0, none⟩ = some (.int .i8 tb.f0) ∧ w'.cell? ⟨gw3 + 1, 1, none⟩ = some (.slice PD tb.f1.length pd)) (by kernel_rfl) ⟨bcl K0.out, bcl K0.out, bcl K0.out, bcl K0.out, bcl K0.out, bcl K0.out, bcl K0.out, bcl K0.out, bcl KA.out, bcl KA.out, bcl KB.out, bcl KB.out, bcl KC.out, bcl KC.out, bcl KD.out, bcl KD.out⟩ (fun hHeld => ?_)
  have HZ := Aside0.mk ((Below.refl w4.heap.size w4).drew)
  replace HW := Aside0.mk (below_then HW.out HW.out.size HZ.out)
  generalize w4.drew = w5 at *
  refine tK 21 0 hHeld ?_
  refine tK 22 1 hHeld ?_
  refine tK 23 2 hHeld ?_
  refine tK 24 3 hHeld ?_
  refine tK 25 4 hHeld ?_
  refine tK 26 5 hHeld ?_
  refine cK 27 6 (Kind_calls (HA.out.below HZ.out) (HC.out.below HZ.out) HNA.out) ?_
  rintro e w6 ⟨rfl, hB⟩
  replace HZ := Aside0.mk (below_then HZ.out HZ.out.size hB)
  replace HW := Aside0.mk (below_then HW.out HW.out.size hB)
  refine ⟨_, rfl, ⟨pwc hB hHeld.1, pwc hB hHeld.2.1, pwc hB hHeld.2.2.1, pwc hB hHeld.2.2.2.1, pwc hB hHeld.2.2.2.2.1, pwc hB hHeld.2.2.2.2.2.1, pwc hB hHeld.2.2.2.2.2.2.1, pwc hB hHeld.2.2.2.2.2.2.2.1, pwc hB hHeld.2.2.2.2.2.2.2.2.1, pwc hB hHeld.2.2.2.2.2.2.2.2.2.1, pwc hB hHeld.2.2.2.2.2.2.2.2.2.2.1, pwc hB hHeld.2.2.2.2.2.2.2.2.2.2.2.1, pwc hB hHeld.2.2.2.2.2.2.2.2.2.2.2.2.1, pwc hB hHeld.2.2.2.2.2.2.2.2.2.2.2.2.2.1, pwc hB hHeld.2.2.2.2.2.2.2.2.2.2.2.2.2.2.1, pwc hB hHeld.2.2.2.2.2.2.2.2.2.2.2.2.2.2.2⟩, fun hHeld => nA ?_⟩
  clear hB
  refine tK 28 7 hHeld ?_
  refine tK 29 8 hHeld ?_
  refine tK 30 9 hHeld ?_
  refine tK 31 10 hHeld ?_
  refine cK 32 11 (Kind_calls (HB.out.below HZ.out) (HD.out.below HZ.out) HNB.out) ?_
  rintro e w7 ⟨rfl, hB⟩
  replace HZ := Aside0.mk (below_then HZ.out HZ.out.size hB)
  replace HW := Aside0.mk (below_then HW.out HW.out.size hB)
  refine ⟨_, rfl, ⟨pwc hB hHeld.1, pwc hB hHeld.2.1, pwc hB hHeld.2.2.1, pwc hB hHeld.2.2.2.1, pwc hB hHeld.2.2.2.2.1, pwc hB hHeld.2.2.2.2.2.1, pwc hB hHeld.2.2.2.2.2.2.1, pwc hB hHeld.2.2.2.2.2.2.2.1, pwc hB hHeld.2.2.2.2.2.2.2.2.1, pwc hB hHeld.2.2.2.2.2.2.2.2.2.1, pwc hB hHeld.2.2.2.2.2.2.2.2.2.2.1, pwc hB hHeld.2.2.2.2.2.2.2.2.2.2.2.1, pwc hB hHeld.2.2.2.2.2.2.2.2.2.2.2.2.1, pwc hB hHeld.2.2.2.2.2.2.2.2.2.2.2.2.2.1, pwc hB hHeld.2.2.2.2.2.2.2.2.2.2.2.2.2.2.1, pwc hB hHeld.2.2.2.2.2.2.2.2.2.2.2.2.2.2.2⟩, fun hHeld => nA ?_⟩
  clear hB
  refine tK 33 12 hHeld ?_
  refine tK 34 13 hHeld ?_
  refine tK 35 14 hHeld ?_
  refine tK 37 16 hHeld ?_
  refine cK 36 15 (coSize_calls (HX.out.below HZ.out)) ?_
  rintro e w8 ⟨rfl, hB⟩
  replace HZ := Aside0.mk (below_then HZ.out HZ.out.size hB)
  replace HW := Aside0.mk (below_then HW.out HW.out.size hB)
  refine ⟨_, rfl, ⟨pwc hB hHeld.1, pwc hB hHeld.2.1, pwc hB hHeld.2.2.1, pwc hB hHeld.2.2.2.1, pwc hB hHeld.2.2.2.2.1, pwc hB hHeld.2.2.2.2.2.1, pwc hB hHeld.2.2.2.2.2.2.1, pwc hB hHeld.2.2.2.2.2.2.2.1, pwc hB hHeld.2.2.2.2.2.2.2.2.1, pwc hB hHeld.2.2.2.2.2.2.2.2.2.1, pwc hB hHeld.2.2.2.2.2.2.2.2.2.2.1, pwc hB hHeld.2.2.2.2.2.2.2.2.2.2.2.1, pwc hB hHeld.2.2.2.2.2.2.2.2.2.2.2.2.1, pwc hB hHeld.2.2.2.2.2.2.2.2.2.2.2.2.2.1, pwc hB hHeld.2.2.2.2.2.2.2.2.2.2.2.2.2.2.1, pwc hB hHeld.2.2.2.2.2.2.2.2.2.2.2.2.2.2.2⟩, fun hHeld => nA ?_⟩
  clear hB
  refine cK 38 17 (rSize_calls (HX.out.below HZ.out)) ?_
  rintro e w9 ⟨rfl, hB⟩
  replace HZ := Aside0.mk (below_then HZ.out HZ.out.size hB)
  replace HW := Aside0.mk (below_then HW.out HW.out.size hB)
  refine ⟨_, rfl, ⟨pwc hB hHeld.1, pwc hB hHeld.2.1, pwc hB hHeld.2.2.1, pwc hB hHeld.2.2.2.1, pwc hB hHeld.2.2.2.2.1, pwc hB hHeld.2.2.2.2.2.1, pwc hB hHeld.2.2.2.2.2.2.1, pwc hB hHeld.2.2.2.2.2.2.2.1, pwc hB hHeld.2.2.2.2.2.2.2.2.1, pwc hB hHeld.2.2.2.2.2.2.2.2.2.1, pwc hB hHeld.2.2.2.2.2.2.2.2.2.2.1, pwc hB hHeld.2.2.2.2.2.2.2.2.2.2.2.1, pwc hB hHeld.2.2.2.2.2.2.2.2.2.2.2.2.1, pwc hB hHeld.2.2.2.2.2.2.2.2.2.2.2.2.2.1, pwc hB hHeld.2.2.2.2.2.2.2.2.2.2.2.2.2.2.1, pwc hB hHeld.2.2.2.2.2.2.2.2.2.2.2.2.2.2.2⟩, fun hHeld => nA ?_⟩
  clear hB
  refine tK 39 18 hHeld ?_
  refine tK 40 19 hHeld ?_
  refine tK 41 20 hHeld ?_
  refine tK 42 21 hHeld ?_
  refine tK 44 23 hHeld ?_
  refine cK 43 22 (coHeight_calls (HX.out.below HZ.out)) ?_
  rintro e w10 ⟨rfl, hB⟩
  replace HZ := Aside0.mk (below_then HZ.out HZ.out.size hB)
  replace HW := Aside0.mk (below_then HW.out HW.out.size hB)
  refine ⟨_, rfl, ⟨pwc hB hHeld.1, pwc hB hHeld.2.1, pwc hB hHeld.2.2.1, pwc hB hHeld.2.2.2.1, pwc hB hHeld.2.2.2.2.1, pwc hB hHeld.2.2.2.2.2.1, pwc hB hHeld.2.2.2.2.2.2.1, pwc hB hHeld.2.2.2.2.2.2.2.1, pwc hB hHeld.2.2.2.2.2.2.2.2.1, pwc hB hHeld.2.2.2.2.2.2.2.2.2.1, pwc hB hHeld.2.2.2.2.2.2.2.2.2.2.1, pwc hB hHeld.2.2.2.2.2.2.2.2.2.2.2.1, pwc hB hHeld.2.2.2.2.2.2.2.2.2.2.2.2.1, pwc hB hHeld.2.2.2.2.2.2.2.2.2.2.2.2.2.1, pwc hB hHeld.2.2.2.2.2.2.2.2.2.2.2.2.2.2.1, pwc hB hHeld.2.2.2.2.2.2.2.2.2.2.2.2.2.2.2⟩, fun hHeld => nA ?_⟩
  clear hB
  refine cK 45 24 (rHeight_calls (HX.out.below HZ.out)) ?_
  rintro e w11 ⟨rfl, hB⟩
  replace HZ := Aside0.mk (below_then HZ.out HZ.out.size hB)
  replace HW := Aside0.mk (below_then HW.out HW.out.size hB)
  refine ⟨_, rfl, ⟨pwc hB hHeld.1, pwc hB hHeld.2.1, pwc hB hHeld.2.2.1, pwc hB hHeld.2.2.2.1, pwc hB hHeld.2.2.2.2.1, pwc hB hHeld.2.2.2.2.2.1, pwc hB hHeld.2.2.2.2.2.2.1, pwc hB hHeld.2.2.2.2.2.2.2.1, pwc hB hHeld.2.2.2.2.2.2.2.2.1, pwc hB hHeld.2.2.2.2.2.2.2.2.2.1, pwc hB hHeld.2.2.2.2.2.2.2.2.2.2.1, pwc hB hHeld.2.2.2.2.2.2.2.2.2.2.2.1, pwc hB hHeld.2.2.2.2.2.2.2.2.2.2.2.2.1, pwc hB hHeld.2.2.2.2.2.2.2.2.2.2.2.2.2.1, pwc hB hHeld.2.2.2.2.2.2.2.2.2.2.2.2.2.2.1, pwc hB hHeld.2.2.2.2.2.2.2.2.2.2.2.2.2.2.2⟩, fun hHeld => nA ?_⟩
  clear hB
  refine tK 46 25 hHeld ?_
  refine tK 47 26 hHeld ?_
  refine tK 48 27 hHeld ?_
  refine tK 49 28 hHeld ?_
  refine tK 51 30 hHeld ?_
  refine cK 50 29 (coText_calls (HX.out.below HZ.out) (HTB.out.below HZ.out) HL.out) ?_
  rintro e w12 ⟨rfl, hB⟩
  replace HZ := Aside0.mk (below_then HZ.out HZ.out.size hB)
  replace HW := Aside0.mk (below_then HW.out HW.out.size hB)
  refine ⟨_, rfl, ⟨pwc hB hHeld.1, pwc hB hHeld.2.1, pwc hB hHeld.2.2.1, pwc hB hHeld.2.2.2.1, pwc hB hHeld.2.2.2.2.1, pwc hB hHeld.2.2.2.2.2.1, pwc hB hHeld.2.2.2.2.2.2.1, pwc hB hHeld.2.2.2.2.2.2.2.1, pwc hB hHeld.2.2.2.2.2.2.2.2.1, pwc hB hHeld.2.2.2.2.2.2.2.2.2.1, pwc hB hHeld.2.2.2.2.2.2.2.2.2.2.1, pwc hB hHeld.2.2.2.2.2.2.2.2.2.2.2.1, pwc hB hHeld.2.2.2.2.2.2.2.2.2.2.2.2.1, pwc hB hHeld.2.2.2.2.2.2.2.2.2.2.2.2.2.1, pwc hB hHeld.2.2.2.2.2.2.2.2.2.2.2.2.2.2.1, pwc hB hHeld.2.2.2.2.2.2.2.2.2.2.2.2.2.2.2⟩, fun hHeld => nA ?_⟩
  clear hB
  refine cK 52 31 (rText_calls (HX.out.below HZ.out) HL.out) ?_
  rintro e w13 ⟨rfl, hB⟩
  replace HZ := Aside0.mk (below_then HZ.out HZ.out.size hB)
  replace HW := Aside0.mk (below_then HW.out HW.out.size hB)
  refine ⟨_, rfl, ⟨pwc hB hHeld.1, pwc hB hHeld.2.1, pwc hB hHeld.2.2.1, pwc hB hHeld.2.2.2.1, pwc hB hHeld.2.2.2.2.1, pwc hB hHeld.2.2.2.2.2.1, pwc hB hHeld.2.2.2.2.2.2.1, pwc hB hHeld.2.2.2.2.2.2.2.1, pwc hB hHeld.2.2.2.2.2.2.2.2.1, pwc hB hHeld.2.2.2.2.2.2.2.2.2.1, pwc hB hHeld.2.2.2.2.2.2.2.2.2.2.1, pwc hB hHeld.2.2.2.2.2.2.2.2.2.2.2.1, pwc hB hHeld.2.2.2.2.2.2.2.2.2.2.2.2.1, pwc hB hHeld.2.2.2.2.2.2.2.2.2.2.2.2.2.1, pwc hB hHeld.2.2.2.2.2.2.2.2.2.2.2.2.2.2.1, pwc hB hHeld.2.2.2.2.2.2.2.2.2.2.2.2.2.2.2⟩, fun hHeld => nA ?_⟩
  clear hB
  refine tK 53 32 hHeld ?_
  refine tK 54 33 hHeld ?_
  refine tK 2 34 hHeld ?_
  refine wpAnyH_done (by kernel_rfl) ?_ _
  go_wp2_with fail
  go_ret
  exact ⟨rfl, HW.out⟩
theorem coercecheck_walk (x : S54) (v : Value) (w : World) (hx : IsC w v x) (hlab : labI x) (htab : HasTab w) : Calls Tryd.prog 6 #[v] w fun e w' => e = .returned (.bool true) ∧ Below w.heap.size w w' :=
  coercecheck_at hx htab hlab (endsZ_nodes x).1 (endsZ_nodes x).2 ⟨fun _ _ h => coBoth_calls h⟩ ⟨fun _ _ h => rBoth_calls h⟩
end Go.Proofs.YtjmpejbciniceaaDoor.X
namespace Go.Proofs.YtjmpejbciniceaaDoor.X
open Go.ChangeShapes Go.WideShapes Go.ChangeAt Go.RowKit Go.Proofs.YtjmpejbciniceaaDoorW.PrintWords
set_option linter.unusedVariables false
section
variable {H : Type} {enc : TypeId × Value → H} {P : Program} {w : World} {base : Nat} {spare : Nat → Bool} {held : Bool}
theorem row_of_trod_ok {α : Type} (d : Kd α) (ok : α → Prop) {t e : TypeId} (ht : P.underlying t = some (.slice e)) (hc : P.cellsOf e = d.sz) {fuel : Nat} {cs : List Value} {x : DataW H × List MemPlace}
    (ih : ∀ n, n < fuel → ∀ cs x, DataW.trod enc P w base spare held n e cs = some x → ∃ v, d.K w v cs ∧ ok v) (h : DataW.trod enc P w base spare held fuel t cs = some x) :
    ∃ A l c, cs = [.slice A l.length c] ∧ l.length ≤ c ∧ Kd.C d w A l.length l ∧ ∀ (i : Nat) v, l[i]? = some v → ok v := by
  rcases DataW.trod_slice ht h with ⟨rfl, _⟩ | ⟨a, len, cap, elems, rest, n, rfl, rfl, _, hb, hl, hm, hlen, hel, _, _⟩
  · exact ⟨none, [], 0, rfl, Nat.le_refl _, ⟨rfl, by simp, fun h => absurd h (by simp)⟩, fun i v h => by simp at h⟩
  · have key : ∀ i, i < len → ∃ v, ok v ∧ ∃ cs', cs'.length = d.sz ∧ d.K w v cs' ∧ ∀ j u, cs'[j]? = some u → w.cell? (a.add (i * d.sz + j)) = some u := fun i hi => by
      have h1 := hel i hi
      rw [List.getElem?_eq_getElem (by omega)] at h1
      obtain ⟨cs', h2, h3⟩ := Option.bind_eq_some_iff.1 h1
      obtain ⟨v, hv, hk⟩ := ih n (Nat.lt_succ_self n) _ _ h3
      rw [hc] at h2
      obtain ⟨_, h4, h5⟩ := World.cells?_some h2
      refine ⟨v, hk, cs', h4, hv, fun j u hu => ?_⟩
      have hj : j < d.sz := by rw [← h4]; exact (List.getElem?_eq_some_iff.1 hu).1
      rw [← hu, ← h5 j hj]
      congr 1
      unfold Addr.add
      by_cases h6 : i * d.sz = 0 <;> by_cases h7 : j = 0 <;> simp [h6, h7, Nat.add_assoc] <;> omega
    obtain ⟨l, hll, hp⟩ := list_of_lt key
    subst hll
    exact ⟨some a, l, cap, rfl, hl, ⟨rfl, by simp only [maxLen] at hm; omega, fun _ => ⟨a, rfl, fun j p hj => by
      obtain ⟨_, c, h1, h2, h3⟩ := hp j p hj
      exact ⟨c, h1, h2, h3⟩⟩⟩, fun i v hv => (hp i v hv).1⟩
end
section
variable {H : Type} {enc : TypeId × Value → H} {w : World} {base : Nat} {spare : Nat → Bool} {held : Bool}
theorem labIL_of {l : List S54} (h : ∀ (i : Nat) v, l[i]? = some v → labI v) : labIL l := by
  induction l with
  | nil => simp [labIL]
  | cons x l ih => exact ⟨h 0 x rfl, ih fun i v hv => h (i + 1) v (by simpa using hv)⟩
set_option maxRecDepth 100000 in
theorem T54L_of_trod (fuel : Nat) : ∀ (cs : List Value) (x : DataW H × List MemPlace), DataW.trod enc Tryd.prog w base spare held fuel 54 cs = some x → ∃ v : S54, k54.K w v cs ∧ labI v := by
  induction fuel using Nat.strongRecOn with
  | _ fuel ih =>
  intro cs x h
  obtain ⟨xs, n, rfl, rfl, hl, hx, hf⟩ := DataW.trod_struct Tryd.underlying54 h
  have h0 := hf 0 _ rfl
  have h1 := hf 1 _ rfl
  have h2 := hf 2 _ rfl
  have h3 := hf 3 _ rfl
  have h4 := hf 4 _ rfl
  have h5 := hf 5 _ rfl
  have hx6 : xs.length = 6 := hx
  rw [List.getElem?_eq_getElem (by omega)] at h0 h1 h2 h3 h4 h5
  obtain ⟨k, e0, _, -⟩ := DataW.trod_int Tryd.underlying35 h0
  obtain ⟨t, ht⟩ := T35_of_trod _ _ _ h1
  obtain ⟨u, hu⟩ := T35_of_trod _ _ _ h2
  obtain ⟨A2, c2, e1, l2, C2⟩ := k43_open ht
  obtain ⟨A4, c4, e2, l4, C4⟩ := k43_open hu
  obtain ⟨la, e3, _, wla⟩ := DataW.trod_int Tryd.underlying3 h3
  obtain ⟨ne, e4, _⟩ := DataW.trod_bool Tryd.underlying4 h4
  obtain ⟨A7, l, c7, e5, hlc, hC, hok⟩ := row_of_trod_ok k54 labI Tryd.underlying52 (by kernel_rfl) (fun m hm cs x h => ih m (by omega) cs x h) h5
  have hc8 : cs.length = 8 := hl.trans (by kernel_rfl)
  match cs, hc8 with
  | [a0, a1, a2, a3, a4, a5, a6, a7], _ =>
    have q0 : a0 = .int .i8 k := by simpa using (show [a0] = [Value.int .i8 k] from e0)
    have q1 : a1 = .int .i8 t.f0 ∧ a2 = .slice A2 t.f1.length c2 := by simpa using (show [a1, a2] = [Value.int .i8 t.f0, .slice A2 t.f1.length c2] from e1)
    have q2 : a3 = .int .i8 u.f0 ∧ a4 = .slice A4 u.f1.length c4 := by simpa using (show [a3, a4] = [Value.int .i8 u.f0, .slice A4 u.f1.length c4] from e2)
    have q3 : a5 = .int .i64 la := by simpa using (show [a5] = [Value.int .i64 la] from e3)
    have q4 : a6 = .bool ne := by simpa using (show [a6] = [Value.bool ne] from e4)
    have q5 : a7 = .slice A7 l.length c7 := by simpa using (show [a7] = [Value.slice A7 l.length c7] from e5)
    obtain ⟨rfl, rfl⟩ := q1
    obtain ⟨rfl, rfl⟩ := q2
    subst q0 q3 q4 q5
    have hla : -9223372036854775808 ≤ la ∧ la ≤ 9223372036854775807 := bounds_i64 wla
    exact ⟨⟨k, t, u, la, ne, l⟩, k54_mk w ⟨k, t, u, la, ne, l⟩ l2 C2 l4 C4 hlc hC, hla.1, hla.2, labIL_of hok⟩
theorem argCL {v : Value} {x : DataW H} {ps : List MemPlace} (h : DataW.Trod enc Tryd.prog w base spare held 54 v x ps) : ∃ t, IsC w v t ∧ labI t := by
  obtain ⟨fuel, hf⟩ := h
  obtain ⟨t, ht, hk⟩ := T54L_of_trod fuel _ _ hf
  obtain ⟨A2, c2, A4, c4, A7, c7, e, h1, h2, h3, h4, h5, h6⟩ := k54_open ht
  exact ⟨t, ⟨A2, c2, A4, c4, A7, c7, by rw [agg_of_cells e (by simp)], h1, h2, h3, h4, h5, h6⟩, hk⟩
end
end Go.Proofs.YtjmpejbciniceaaDoor.X
