/- The walk of the law ReportPlaces: it returns true. -/
import Derived.Test.YtamfknhgjkmdfaaDoorHStrs
import Derived.Test.YtamfknhgjkmdfaaDoorPurePlaces
import Derived.Deep.DeepCutAuto
import Derived.Deep.CutBlock
namespace Go.Proofs.YtamfknhgjkmdfaaDoor.X
open Go.RowKit Go.Proofs.YtamfknhgjkmdfaaDoorW.PrintWords Go.Proofs.YtamfknhgjkmdfaaDoorW.PrintLast Go.Proofs.YtamfknhgjkmdfaaDoorW.PrintMore
set_option linter.unusedVariables false
set_option linter.unusedSimpArgs false
set_option maxRecDepth 100000 in
set_option maxHeartbeats 3200000 in
theorem places_walk (s : ByteArray) (a b : Int) (w : World) (hE : Env w) :
    Calls Tryd.prog 4 #[.string s, .int .i64 a, .int .i64 b] w fun e w' => e = .returned (.bool true) ∧ Below w.heap.size w w' := by
  by_cases hlt : (4096 : Int) < s.size
  · go_enter Tryd.func4, Tryd.ntmps4
    go_wp2_with fail
    refine (wakes_calls w hE).mono ?_
    rintro e w' ⟨rfl, hB⟩
    go_wp2_with fail
    go_ret
    exact ⟨rfl, hB⟩
  · have hsz : s.size ≤ 4096 := by omega
    go_enter Tryd.func4, Tryd.ntmps4
    go_wp2_with fail
    rw [← atN_eq a s.size]
    try rw [← atN_eq b s.size]
    have hka := atN_le a s.size
    have hkb := atN_le b s.size
    generalize atN a s.size = ka at *
    generalize atN b s.size = kb at *
    have hp := whereP_le (s.data.toList.take ka)
    have hq := whereP_le (s.data.toList.take kb)
    have hpl : (s.data.toList.take ka).length ≤ 4096 := by simp; omega
    have hql : (s.data.toList.take kb).length ≤ 4096 := by simp; omega
    have HLT : Aside0 ((ka < kb → lexLt (whereP (s.data.toList.take ka)) (whereP (s.data.toList.take kb))) ∧ (ka = kb → whereP (s.data.toList.take ka) = whereP (s.data.toList.take kb))) :=
      .mk ⟨fun h => where_lt _ _ _ h (by simp; omega), fun h => by rw [h]⟩
    have HP := Aside0.mk (lines_where (s.data.toList.take ka))
    refine (where_calls s ka w (by omega)).mono ?_
    rintro e w1 ⟨rfl, hB⟩
    rw [atN_nat ka s.size hka]
    have hw2 := where_calls s kb
    rw [atN_nat kb s.size hkb] at hw2
    generalize whereP (s.data.toList.take ka) = p at *
    generalize whereP (s.data.toList.take kb) = q at *
    obtain ⟨lp, cp⟩ := p
    obtain ⟨lq, cq⟩ := q
    simp only at hp hq
    have HW2 := Aside0.mk hw2
    clear hw2
    go_wp2_with fail
    have K1 := Aside0.mk (heap_alloc_new w1 (.cells #[.int .i64 (lp : Int), .int .i64 (cp : Int)] 39))
    have hB1 : Below w1.heap.size w1 (w1.alloc (.cells #[.int .i64 (lp : Int), .int .i64 (cp : Int)] 39)) := (Below.refl _ _).alloc (Nat.le_refl _) _
    have hB2 := below_then hB hB.size hB1
    have h1s : w1.heap.size < (w1.alloc (.cells #[.int .i64 (lp : Int), .int .i64 (cp : Int)] 39)).heap.size := by simp
    have hg0 := hB.size
    clear hB hB1
    generalize w1.alloc (.cells #[.int .i64 (lp : Int), .int .i64 (cp : Int)] 39) = w2 at *
    generalize w1.heap.size = g1 at *
    refine (HW2.out w2 (by omega)).mono ?_
    rintro e w3 ⟨rfl, hB⟩
    go_upto_region 7 with fail
    have hB3 : Below w3.heap.size w3 (w3.alloc (.cells #[.int .i64 (lq : Int), .int .i64 (cq : Int)] 39)) := (Below.refl _ _).alloc (Nat.le_refl _) _
    replace K1 := Aside0.mk (blk_below (blk_below K1.out hB) hB3)
    have K2 := Aside0.mk (heap_alloc_new w3 (.cells #[.int .i64 (lq : Int), .int .i64 (cq : Int)] 39))
    have hg1 : g1 < w3.heap.size := Nat.lt_of_lt_of_le h1s hB.size
    have HB := Aside0.mk (below_then (below_then hB2 hB2.size hB) (below_then hB2 hB2.size hB).size hB3)
    clear hB hB3 hB2 h1s HW2
    generalize w3.alloc (.cells #[.int .i64 (lq : Int), .int .i64 (cq : Int)] 39) = w4 at *
    generalize w3.heap.size = g2 at *
    go_cut [76] (fun c76 wx => c76 = .bool false ∧ Below w4.heap.size w4 wx)
    case first =>
      obtain ⟨c0, c1, z0, z1⟩ := cells2 K1.out
      obtain ⟨d0, d1, y0, y1⟩ := cells2 K2.out
      have hl := HLT.out
      rcases Nat.lt_trichotomy ka kb with h | h | h
      · have h1 := hl.1 h
        simp only [lexLt] at h1
        have e3 : ((ka : Int) ≤ (kb : Int)) := by omega
        have e4 : ¬ ((ka : Int) = (kb : Int)) := by omega
        rcases h1 with h1 | ⟨h1, h2⟩
        · have e1 : ¬ ((lq : Int) < (lp : Int)) := by omega
          have e2 : ¬ ((lp : Int) = (lq : Int)) := by omega
          clear hl h h1 hka hkb hp hq hpl hql hsz hlt hg0 hg1
          go_wp2_with fail
          go_meet
          exact ⟨rfl, Below.refl _ _⟩
        · have e1 : ¬ ((lq : Int) < (lp : Int)) := by omega
          have e2 : ((lp : Int) = (lq : Int)) := by omega
          have e5 : ¬ ((cq : Int) < (cp : Int)) := by omega
          have e6 : ¬ ((cp : Int) = (cq : Int)) := by omega
          clear hl h h1 h2 hka hkb hp hq hpl hql hsz hlt hg0 hg1
          go_wp2_with fail
          go_meet
          exact ⟨rfl, Below.refl _ _⟩
      · have h1 := hl.2 h
        simp only [Prod.mk.injEq] at h1
        obtain ⟨rfl, rfl⟩ := h1
        subst h
        clear hl hka hkb hp hq hpl hql hsz hlt hg0 hg1
        go_wp2_with fail
        go_meet
        exact ⟨rfl, Below.refl _ _⟩
      · have e3 : ¬ ((ka : Int) ≤ (kb : Int)) := by omega
        have e4 : ¬ ((ka : Int) = (kb : Int)) := by omega
        have e5 : ¬ ((ka : Int) < (kb : Int)) := by omega
        clear hl h hka hkb hp hq hpl hql hsz hlt hg0 hg1
        go_wp2_with fail
        go_meet
        exact ⟨rfl, Below.refl _ _⟩
    case rest =>
      obtain ⟨rfl, hB⟩ := hcut
      replace K1 := Aside0.mk (blk_below K1.out hB)
      replace HB := Aside0.mk (below_then HB.out HB.out.size hB)
      clear hB K2
      have hg2 : g1 < wc.heap.size := blk_lt K1.out
      go_wp2_with fail
      have HL : Aside0 (LIn wc (.slice (some ⟨wc.heap.size, 0, none⟩) 1 1) [⟨#[]⟩] (wc.alloc (.cells #[.string ⟨#[]⟩] 9))) := .mk ⟨⟨rfl, .inr ⟨wc.heap.size, 1, #[.string ⟨#[]⟩], rfl, Nat.le_refl _, heap_alloc_new wc _, Nat.le_refl _, by decide, rfl, rfl⟩⟩, (Below.refl _ _).alloc (Nat.le_refl _) _⟩
      generalize wc.alloc (.cells #[.string ⟨#[]⟩] 9) = wd at *
      go_loopw [9, 10] (fun ls i wr => ∃ (j : Nat) (hs : List ByteArray) (x : ByteArray), i = .int .i64 j ∧ j ≤ s.size ∧ hs.map (fun y => y.data.toList) = (linesP (s.data.toList.take j)).1 ∧ x.data.toList = (linesP (s.data.toList.take j)).2 ∧ LIn wc ls (hs ++ [x]) wr) (fun _ i _ => s.size - (intOf i).toNat)
      case atStart => exact ⟨0, [], ⟨#[]⟩, rfl, Nat.zero_le _, rfl, rfl, HL.out⟩
      case round =>
        obtain ⟨j, hs, x, rfl, hj, h1, h2, h3⟩ := hrel
        clear HL
        have HL := Aside0.mk h3
        have H1 := Aside0.mk h1
        have H2 := Aside0.mk h2
        clear h1 h2 h3
        by_cases hjs : j < s.size
        · have hjl : j < s.data.toList.length := by simpa using hjs
          have HT : Aside0 (linesP (s.data.toList.take (j + 1)) = stepH (linesP (s.data.toList.take j)) (s[j]'hjs)) := .mk (by
            rw [← linesP_snoc, List.take_add_one, List.getElem?_eq_getElem hjl]; rfl)
          have HLn := linesP_len (s.data.toList.take j)
          have hjt : (s.data.toList.take j).length ≤ j := by simp; omega
          have hhl : hs.length ≤ 4096 := by rw [← List.length_map (f := fun y : ByteArray => y.data.toList), H1.out]; omega
          have hxl : x.data.toList.length ≤ 4096 := by rw [H2.out]; omega
          by_cases hc : s[j]'hjs = 10
          · have e0 : (((s[j]'hjs).toNat : Int) == 10) = true := by rw [hc]; rfl
            rw [hc] at HT
            clear hc HLn hjt hxl
            go_wp2_with (at_builtin; refine push_strs_step wc.heap.size u9 (hs ++ [x]) ⟨#[]⟩ rfl _ _ rfl rfl rfl rfl HL.out.own HL.out.below.size (by rw [List.length_append, List.length_singleton]; omega) ?_; rintro v1 w5 ho hgr; have HV := Aside0.mk ho; have HG := Aside0.mk hgr; clear ho hgr)
            refine ⟨⟨j + 1, hs ++ [x], ⟨#[]⟩, by simp, by omega, ?_, ?_, HL.out.push HV.out HG.out⟩, by simp [intOf]; omega⟩
            · rw [HT.out, List.map_append, H1.out]
              show _ = (linesP (s.data.toList.take j)).1 ++ [(linesP (s.data.toList.take j)).2]
              rw [← H2.out]; rfl
            · rw [HT.out]; rfl
          · have e0 : (((s[j]'hjs).toNat : Int) == 10) = false := by
              simp only [beq_eq_false_iff_ne, ne_eq]; intro h; exact hc (UInt8.toNat_inj.1 (show (s[j]'hjs).toNat = 10 by omega))
            have HT2 : Aside0 (linesP (s.data.toList.take (j + 1)) = ((linesP (s.data.toList.take j)).1, (linesP (s.data.toList.take j)).2 ++ [s[j]'hjs])) := .mk (HT.out.trans (if_neg hc))
            clear hc HLn hjt HT
            go_wp2_with fail
            obtain ⟨g, cap, hv, hcells, hfr, hset⟩ := HL.out.open_
            subst hv
            have q0 := hcells hs.length x (by simp)
            have HS := Aside0.mk hset
            clear hcells hset HL
            generalize hs.length = m at q0 hfr HS hhl ⊢
            have hwm : IntKind.i64.wrap (m : Int) = (m : Int) := by rw [IntKind.wrap_i64]; omega
            have hwj : IntKind.i64.wrap ((j : Int) + 1) = (j : Int) + 1 := by rw [IntKind.wrap_i64]; omega
            have HSL : Aside0 (∀ wx, (Instr.slice 9 (.string s) (some (.int .i64 (j : Int))) (some (.int .i64 ((j : Int) + 1))) none).run Tryd.prog wx = .ok (.string (s.extract j (j + 1))) wx) := .mk (fun wx => (run_slice_string (P := Tryd.prog) wx 9 s .i64 .i64 (j : Int) ((j : Int) + 1) Tryd.underlying9 (by omega) (by omega) (by omega)).trans rfl)
            refine wp_region_held_drew (S := fun w' => True) (by kernel_rfl) trivial (fun hHeld => ?_)
            have hD : Below wr.heap.size wr wr.drew := (Below.refl _ _).drew
            have HS2 := Aside0.mk (HS.out wr.drew hD)
            have z0 : wr.drew.frozen? ⟨g, m, none⟩ = false := hfr
            have q1 : wr.drew.cell? ⟨g, m, none⟩ = some (.string x) := q0
            have hxz : x.size ≤ 4096 := by simpa using hxl
            clear q0 hfr hD HS
            generalize wr.drew = wz at *
            refine tK 91 0 hHeld ?_
            refine tK 92 1 hHeld ?_
            refine tK (v := .int .i64 ((m : Int) + 1)) 93 2 hHeld ?_
            refine tK (v := .int .i64 (m : Int)) 94 3 hHeld ?_
            refine tK 95 4 hHeld ?_
            refine tK 96 5 hHeld ?_
            refine tK (v := .int .i64 ((m : Int) + 1)) 97 6 hHeld ?_
            refine tK (v := .int .i64 (m : Int)) 98 7 hHeld ?_
            refine tK (v := .pointer (some ⟨g, m, none⟩)) 99 8 hHeld ?_ (hy := fun w hSw => by (try dsimp only at hSw); go_simp <;> (intro h; omega))
            refine tK 101 10 hHeld ?_
            refine tK 102 11 hHeld ?_
            refine tK 103 12 hHeld ?_
            refine tK (v := .int .i64 ((j : Int) + 1)) 104 13 hHeld ?_
            refine tK (v := .string (s.extract j (j + 1))) 105 14 hHeld ?_ (hy := fun w hSw => by (try dsimp only at hSw); go_simp; rw [HSL.out]; rfl)
            refine wpAnyH_ready (rs := [9]) (by kernel_rfl) (by simp) ?_
            refine AllReadyH.cons rfl (fun K hK => ?_) AllReadyH.nil
            go_simp
            refine hK.out _ _ trivial (fun hHeld => nA ?_)
            clear hK K
            refine tK (v := .string (x ++ s.extract j (j + 1))) 106 15 hHeld ?_ (hy := fun w hSw => by (try dsimp only at hSw); go_simp; omega)
            refine tK (v := .pointer (some ⟨g, m, none⟩)) 107 16 hHeld ?_ (hy := fun w hSw => by (try dsimp only at hSw); go_simp <;> (intro h; omega))
            refine wpAnyH_ready (rs := [17]) (by kernel_rfl) (by simp) ?_
            refine AllReadyH.cons rfl (fun K hK => ?_) AllReadyH.nil
            go_simp
            refine hK.out _ _ trivial (fun hHeld => ?_)
            clear hK K
            refine wpAnyH_done (by kernel_rfl) ?_ _
            go_wp2_with fail
            refine ⟨⟨j + 1, hs, x ++ s.extract j (j + 1), by simp, by omega, ?_, ?_, HS2.out _⟩, by simp [intOf]; omega⟩
            · rw [HT2.out, H1.out]
            · rw [HT2.out, app_one x s j hjs, H2.out]
        · have hjn : j = s.size := by omega
          have hall : s.data.toList.take j = s.data.toList := List.take_of_length_le (by rw [hjn]; simp)
          have hxs : (hs ++ [x]).map (fun y => y.data.toList) = linesOf s.data.toList := by
            rw [List.map_append, H1.out, hall]
            show _ ++ [x.data.toList] = _
            rw [H2.out, hall]; rfl
          obtain ⟨f1, f2, f3⟩ := lines_facts s ka _ hxs
          have hlc := line_cut s.data.toList ka
          have hgl := lines_glue (s.data.toList.take ka)
          have hpp := HP.out
          simp only [Prod.mk.injEq] at hpp
          obtain ⟨hlp, hcp⟩ := hpp
          obtain ⟨g, cap, hv, hcells, -, -⟩ := HL.out.open_
          have hBr := HL.out.below
          subst hv
          generalize (linesP (s.data.toList.take ka)).1 = H at *
          generalize (linesP (s.data.toList.take ka)).2 = cu at *
          have hLl : (lineB s.data.toList ka).length ≤ 4096 := Nat.le_trans (line_len _ _) (by simp; omega)
          have HLine := line_calls s ka
          rw [atN_nat ka s.size hka] at HLine
          generalize lineB s.data.toList ka = L at *
          have k1 := blk_below K1.out hBr
          have hbb := below_then HB.out HB.out.size hBr
          have hEr := hE.below hbb
          have hrn : H.length < hs.length + 1 := by rw [List.length_append, List.length_singleton] at f1; exact f1
          have hm : hs.length ≤ 5000 := by
            have := congrArg List.length hxs
            have h1 := linesP_len s.data.toList
            simp [linesOf] at this
            simp at h1
            omega
          have hHl : H.length ≤ 4096 := by omega
          have hcul : cu.length ≤ 4096 := by omega
          subst hlp hcp
          have C0 := Aside0.mk (show wr.cell? ⟨g1, 0, none⟩ = some (.int .i64 ((H.length : Int) + 1)) from bcl k1)
          have C1 := Aside0.mk (show wr.cell? ⟨g1, 1, none⟩ = some (.int .i64 ((cu.length : Int) + 1)) from bcl k1)
          have CL := Aside0.mk (hcells _ _ f2)
          have CI := Aside0.mk (fun i hi => hcells i _ (f3 i hi))
          have HE := Aside0.mk hEr
          have HB2 := Aside0.mk hbb
          have HG := Aside0.mk hgl
          have HLC := Aside0.mk hlc
          have HLN := Aside0.mk HLine
          clear HB HL K1 H1 H2 HLT HP hall hxs hgl hlc HLine f1 f2 f3 hcells hbb hEr k1 hBr hE hpl hql hp hq hg0 hg1 hg2 hj
          obtain ⟨r, hr⟩ : ∃ r, r = H.length := ⟨_, rfl⟩
          obtain ⟨k, hk⟩ : ∃ k, k = cu.length := ⟨_, rfl⟩
          obtain ⟨m, hmm⟩ : ∃ m, m = hs.length := ⟨_, rfl⟩
          rw [← hr] at C0 CL hrn hHl
          rw [← hk] at C1 hcul
          rw [← hmm] at hrn hm ⊢
          have HR := Aside0.mk hr
          have HK := Aside0.mk hk
          clear hr hk hmm
          go_wp2_with fail
          refine wp_region_held_drew (S := fun w' => w'.cell? ⟨g1, 0, none⟩ = some (.int .i64 ((r : Int) + 1)) ∧ w'.cell? ⟨g1, 1, none⟩ = some (.int .i64 ((k : Int) + 1)) ∧ w'.cell? ⟨g, r, none⟩ = some (.string ⟨L.toArray⟩)) (by kernel_rfl) ⟨C0.out, C1.out, CL.out⟩ (fun hHeld => ?_)
          have hD : Below wr.heap.size wr wr.drew := (Below.refl _ _).drew
          have HD := Aside0.mk hD
          replace HE := Aside0.mk (HE.out.below hD)
          replace HB2 := Aside0.mk (below_then HB2.out HB2.out.size hD)
          clear hD C0 C1 CL hjs hjn
          generalize wr.drew = wz at *
          have hwr : IntKind.i64.wrap (r : Int) = (r : Int) := by rw [IntKind.wrap_i64]; omega
          have hwL : IntKind.i64.wrap ((L.length : Int) + 1) = (L.length : Int) + 1 := by rw [IntKind.wrap_i64]; omega
          have hkL : (k : Int) ≤ (L.length : Int) := by have := HLC.out.2; have := HK.out; omega
          have n1 : ¬ ((r : Int) + 1 < 1) := by omega
          have n2 : ¬ ((m : Int) + 1 < (r : Int) + 1) := by omega
          have n3 : ¬ ((k : Int) + 1 < 1) := by omega
          have n4 : ¬ ((L.length : Int) + 1 < (k : Int) + 1) := by omega
          refine tK 108 0 hHeld ?_
          refine tK 109 1 hHeld ?_
          refine tK (v := .bool false) 110 2 hHeld ?_
          refine tK 111 3 hHeld ?_
          refine tK 112 4 hHeld ?_
          refine tK 113 5 hHeld ?_
          refine tK 114 6 hHeld ?_
          refine tK (v := .int .i64 ((m : Int) + 1)) 115 7 hHeld ?_
          refine tK (v := .bool false) 116 8 hHeld ?_
          refine tK (v := .bool false) 117 9 hHeld ?_
          refine tK 118 10 hHeld ?_
          refine tK 119 11 hHeld ?_
          refine tK 120 12 hHeld ?_
          refine tK 122 14 hHeld ?_
          refine tK 123 15 hHeld ?_
          refine tK 124 16 hHeld ?_
          refine tK (v := .int .i64 (r : Int)) 125 17 hHeld ?_
          refine tK (v := .pointer (some ⟨g, r, none⟩)) 126 18 hHeld ?_ (hy := fun w hSw => by (try dsimp only at hSw); go_simp <;> (intro h; omega))
          refine tK 127 19 hHeld ?_
          refine cK 121 13 (HLN.out wz (by omega) HE.out) ?_
          rintro en wy ⟨rfl, hB⟩
          refine ⟨_, rfl, ⟨pwc hB hHeld.1, pwc hB hHeld.2.1, pwc hB hHeld.2.2⟩, fun hHeld => nA ?_⟩
          replace HE := Aside0.mk (HE.out.below hB)
          replace HB2 := Aside0.mk (below_then HB2.out HB2.out.size hB)
          replace HD := Aside0.mk (below_then HD.out HD.out.size hB)
          clear hB HLN
          refine tK (v := .bool false) 128 20 hHeld ?_
          refine tK (v := .bool false) 129 21 hHeld ?_
          refine tK 130 22 hHeld ?_
          refine tK 131 23 hHeld ?_
          refine tK 132 24 hHeld ?_
          refine tK (v := .bool false) 133 25 hHeld ?_
          refine tK (v := .bool false) 134 26 hHeld ?_
          refine tK 135 27 hHeld ?_
          refine tK 136 28 hHeld ?_
          refine tK 137 29 hHeld ?_
          refine tK 138 30 hHeld ?_
          refine tK 139 31 hHeld ?_
          refine tK 140 32 hHeld ?_
          refine tK (v := .int .i64 (r : Int)) 141 33 hHeld ?_
          refine tK (v := .pointer (some ⟨g, r, none⟩)) 142 34 hHeld ?_ (hy := fun w hSw => by (try dsimp only at hSw); go_simp <;> (intro h; omega))
          refine tK 143 35 hHeld ?_
          refine tK (v := .int .i64 (L.length : Int)) 144 36 hHeld ?_
          refine tK (v := .int .i64 ((L.length : Int) + 1)) 145 37 hHeld ?_
          refine tK (v := .bool false) 146 38 hHeld ?_
          refine tK (v := .bool false) 147 39 hHeld ?_
          refine wpAnyH_done (by kernel_rfl) ?_ _
          have CR := Aside0.mk (fun i hi => (HD.out.cell (p := ⟨g, i, none⟩) (cell_lt (CI.out i hi))).trans (CI.out i hi))
          have HH := Aside0.mk hHeld
          clear HD CI hHeld n1 n2 n3 n4
          go_wp2_with fail
          have hGl : (glue H).length ≤ 4096 := by
            have := congrArg List.length HG.out
            simp at this
            omega
          go_loopw [11, 12] (fun tv i wr2 => ∃ (i0 : Nat) (tb : ByteArray), i = .int .i64 i0 ∧ tv = .string tb ∧ tb.data.toList = glue (H.take i0) ∧ i0 ≤ r ∧ Below wy.heap.size wy wr2) (fun _ i _ => r - (intOf i).toNat)
          case atStart => exact ⟨0, ⟨#[]⟩, rfl, rfl, rfl, Nat.zero_le _, Below.refl _ _⟩
          case round =>
            obtain ⟨i0, tb, rfl, rfl, ht, hir, hB⟩ := hrel
            have c0 := (hB.cell (p := ⟨g1, 0, none⟩) (cell_lt HH.out.1)).trans HH.out.1
            have HT := Aside0.mk ht
            have htz : tb.size ≤ 4096 := by
              have h1 := congrArg List.length ht
              have h2 := glue_take H i0
              simp at h1
              omega
            clear ht
            by_cases hlr : i0 < r
            · have hiH : i0 < H.length := by have := HR.out; omega
              have cI := (hB.cell (p := ⟨g, i0, none⟩) (cell_lt (CR.out i0 hiH))).trans (CR.out i0 hiH)
              have hstep : Aside0 (glue (H.take (i0 + 1)) = glue (H.take i0) ++ H.getD i0 [] ++ [10]) := .mk (by
                rw [List.take_add_one, List.getElem?_eq_getElem hiH, ← glue_snoc, List.getD_eq_getElem?_getD, List.getElem?_eq_getElem hiH]; rfl)
              have hyl : (H.getD i0 []).length ≤ 4096 := by
                have h1 := glue_take H (i0 + 1)
                rw [hstep.out] at h1
                simp only [List.length_append, List.length_cons, List.length_nil] at h1
                omega
              have HB3 := Aside0.mk hB
              generalize H.getD i0 [] = y at *
              have q0 : ¬ (9223372036854775807 < tb.size + y.length) := by omega
              have q1 : ¬ (9223372036854775807 < tb.size + y.length + 1) := by omega
              have n1 : ((i0 : Int) + 1 < (r : Int) + 1) := by omega
              have n2 : ((i0 : Int) < (m : Int) + 1) := by omega
              have hwi : IntKind.i64.wrap ((i0 : Int) + 1) = (i0 : Int) + 1 := by rw [IntKind.wrap_i64]; omega
              clear hB hwr hwL hkL hGl
              go_wp2_with fail
              refine ⟨⟨i0 + 1, (tb ++ ⟨y.toArray⟩) ++ ⟨#[10]⟩, by simp, rfl, ?_, by omega, HB3.out⟩, by simp [intOf]; omega⟩
              rw [hstep.out, ← HT.out]
              simp [ByteArray.data_append]
            · have hir2 : i0 = r := by omega
              subst hir2
              have HEQ : Aside0 (tb ++ (⟨L.toArray⟩ : ByteArray).extract 0 k = s.extract 0 ka) := .mk (bytes_eq (by
                rw [ByteArray.data_append, Array.toList_append, extract_take, extract_take, HT.out, ← HG.out, HK.out, HR.out, List.take_length]
                show _ ++ List.take _ L = _
                rw [HLC.out.1]))
              have C0 := Aside0.mk c0
              have C1 := Aside0.mk ((hB.cell (p := ⟨g1, 1, none⟩) (cell_lt HH.out.2.1)).trans HH.out.2.1)
              have CL := Aside0.mk ((hB.cell (p := ⟨g, i0, none⟩) (cell_lt HH.out.2.2)).trans HH.out.2.2)
              have HE3 := Aside0.mk (HE.out.below hB)
              have HB3 := Aside0.mk (below_then HB2.out HB2.out.size hB)
              clear hB HE HB2 hGl hir hHeld hwL
              go_wp2_with fail
              clear c0 hlr
              refine wp_region_held_drew (S := fun w' => w'.cell? ⟨g1, 0, none⟩ = some (.int .i64 ((i0 : Int) + 1)) ∧ w'.cell? ⟨g1, 1, none⟩ = some (.int .i64 ((k : Int) + 1)) ∧ w'.cell? ⟨g, i0, none⟩ = some (.string ⟨L.toArray⟩)) (by kernel_rfl) ⟨C0.out, C1.out, CL.out⟩ (fun hHeld => ?_)
              have hD : Below wr.heap.size wr wr.drew := (Below.refl _ _).drew
              replace HE3 := Aside0.mk (HE3.out.below hD)
              replace HB3 := Aside0.mk (below_then HB3.out HB3.out.size hD)
              clear hD C0 C1 CL HH CR
              generalize wr.drew = wv at *
              have hwk : IntKind.i64.wrap (k : Int) = (k : Int) := by rw [IntKind.wrap_i64]; omega
              have hkn : (ka : Int) ≤ (s.size : Int) := by omega
              refine tK 162 0 hHeld ?_
              refine tK 163 1 hHeld ?_
              refine tK 164 2 hHeld ?_
              refine tK 165 3 hHeld ?_
              refine tK (v := .int .i64 (i0 : Int)) 166 4 hHeld ?_
              refine tK (v := .pointer (some ⟨g, i0, none⟩)) 167 5 hHeld ?_ (hy := fun w hSw => by (try dsimp only at hSw); go_simp <;> (intro h; omega))
              refine tK 168 6 hHeld ?_
              refine tK 169 7 hHeld ?_
              refine tK 170 8 hHeld ?_
              refine tK (v := .int .i64 (k : Int)) 171 9 hHeld ?_
              refine tK (v := .string ((⟨L.toArray⟩ : ByteArray).extract 0 k)) 172 10 hHeld ?_
              refine tK 174 12 hHeld ?_
              refine tK 175 13 hHeld ?_
              refine tK (v := .string (s.extract 0 ka)) 176 14 hHeld ?_
              refine tK (v := .string (s.extract 0 ka)) 173 11 hHeld ?_ (hy := fun w hSw => by (try dsimp only at hSw); go_simp; rw [HEQ.out, if_neg (by omega)])
              refine tK (v := .bool true) 177 15 hHeld ?_
              refine tK 178 16 hHeld ?_
              refine cK 179 17 (wakes_calls wv HE3.out) ?_
              rintro en wu ⟨rfl, hB⟩
              refine ⟨_, rfl, ⟨pwc hB hHeld.1, pwc hB hHeld.2.1, pwc hB hHeld.2.2⟩, fun hHeld => nA ?_⟩
              replace HB3 := Aside0.mk (below_then HB3.out HB3.out.size hB)
              clear hB
              refine tK (v := .bool true) 180 18 hHeld ?_
              refine tK 6 19 hHeld ?_
              refine wpAnyH_done (by kernel_rfl) ?_ _
              go_wp2_with fail
              go_ret
              exact ⟨rfl, HB3.out⟩
end Go.Proofs.YtamfknhgjkmdfaaDoor.X
