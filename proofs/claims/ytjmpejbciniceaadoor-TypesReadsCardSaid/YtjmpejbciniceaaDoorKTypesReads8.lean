/- Texts of this claim, joined: HRead2, HRegG, HRr, HRw, HOf. -/
import Derived.Test.YtjmpejbciniceaaDoorKTypesReads2
import Derived.Test.YtjmpejbciniceaaDoorKTypesReads3
import Derived.Test.YtjmpejbciniceaaDoorKTypesReads5
import Derived.Test.YtjmpejbciniceaaDoorKTypesReads6
import Derived.Test.YtjmpejbciniceaaDoorKTypesReads7
namespace Go.Proofs.YtjmpejbciniceaaDoor.X
open Go.RowKit Go.Proofs.YtjmpejbciniceaaDoorW.PrintWords Go.Proofs.YtjmpejbciniceaaDoorW.PrintLast Go.Proofs.YtjmpejbciniceaaDoorW.PrintMore
set_option linter.unusedVariables false
set_option linter.unusedSimpArgs false
set_option maxRecDepth 100000 in
set_option maxHeartbeats 3200000 in
theorem read_any {A : Option Addr} {c : Nat} {xs : List S37} {w : World} (hw : Kd.C k37 w A xs.length xs) (hn : xs.length ≤ 200000) {a m : Int} {i : Nat} (hi : i ≤ xs.length) (hmn : (if (xs.length : Int) < a then (xs.length : Int) else a) = m) (hmx : (if 0 < m then m else 0) = (i : Int)) (f : Nat) (hf : 6 * xs.length + 5 ≤ f) (r : Except (List Tk) (S43 × List Tk)) (HR : Aside0 (parE f 0 (toks xs i) = r)) :
    Calls Tryd.prog 12 #[.slice A xs.length c, .int .i64 a] w (RPost xs i w r) := by
  have hmf : ∀ (fn : Fn) (first cap : Array Value) (w : World), (Instr.makeFunc fn first cap).run Tryd.prog w = .ok (.func fn first cap) w := fun _ _ _ _ => rfl
  have hB4 : Below w.heap.size w ((((w.alloc (.cells #[.int .i8 0, .slice none 0 0] 43)).alloc (.cells #[.int .i64 0] 3)).alloc (.cells #[.nilIface] 24)).alloc (.cells #[.slice A xs.length c, .int .i64 (i : Int)] 80)) := (((below1 w _ _).alloc (by simp) _).alloc (by simp; omega) _).alloc (by simp; omega) _
  have hG := heap_alloc_new (((w.alloc (.cells #[.int .i8 0, .slice none 0 0] 43)).alloc (.cells #[.int .i64 0] 3)).alloc (.cells #[.nilIface] 24)) (.cells #[.slice A xs.length c, .int .i64 (i : Int)] 80)
  have h2 := blk_alloc (heap_alloc_new ((w.alloc (.cells #[.int .i8 0, .slice none 0 0] 43)).alloc (.cells #[.int .i64 0] 3)) (.cells #[.nilIface] 24)) (.cells #[.slice A xs.length c, .int .i64 (i : Int)] 80)
  have h1 := blk_alloc (blk_alloc (heap_alloc_new (w.alloc (.cells #[.int .i8 0, .slice none 0 0] 43)) (.cells #[.int .i64 0] 3)) (.cells #[.nilIface] 24)) (.cells #[.slice A xs.length c, .int .i64 (i : Int)] 80)
  have h0 := blk_alloc (blk_alloc (blk_alloc (heap_alloc_new w (.cells #[.int .i8 0, .slice none 0 0] 43)) (.cells #[.int .i64 0] 3)) (.cells #[.nilIface] 24)) (.cells #[.slice A xs.length c, .int .i64 (i : Int)] 80)
  have hsz : ((((w.alloc (.cells #[.int .i8 0, .slice none 0 0] 43)).alloc (.cells #[.int .i64 0] 3)).alloc (.cells #[.nilIface] 24)).alloc (.cells #[.slice A xs.length c, .int .i64 (i : Int)] 80)).heap.size = w.heap.size + 1 + 1 + 1 + 1 := by simp
  rw [show (((w.alloc (.cells #[.int .i8 0, .slice none 0 0] 43)).alloc (.cells #[.int .i64 0] 3)).alloc (.cells #[.nilIface] 24)).heap.size = w.heap.size + 1 + 1 + 1 from by simp] at hG
  rw [show ((w.alloc (.cells #[.int .i8 0, .slice none 0 0] 43)).alloc (.cells #[.int .i64 0] 3)).heap.size = w.heap.size + 1 + 1 from by simp] at h2
  rw [show (w.alloc (.cells #[.int .i8 0, .slice none 0 0] 43)).heap.size = w.heap.size + 1 from by simp] at h1
  have HT : Aside0 (Tr w (w.heap.size + 1 + 1 + 1) A c xs i ((((w.alloc (.cells #[.int .i8 0, .slice none 0 0] 43)).alloc (.cells #[.int .i64 0] 3)).alloc (.cells #[.nilIface] 24)).alloc (.cells #[.slice A xs.length c, .int .i64 (i : Int)] 80))) := .mk ⟨hG, hw, by omega, hB4⟩
  have HB0 := Aside0.mk h0
  have HB1 := Aside0.mk h1
  have HB2 := Aside0.mk h2
  clear hw hB4 hG h0 h1 h2
  go_enter_defers Tryd.func12, Tryd.ntmps12
  go_wp2_with fail
  generalize ((((w.alloc (.cells #[.int .i8 0, .slice none 0 0] 43)).alloc (.cells #[.int .i64 0] 3)).alloc (.cells #[.nilIface] 24)).alloc (.cells #[.slice A xs.length c, .int .i64 (i : Int)] 80)) = wa at *
  refine (whole_read HT.out hn (by omega) f (by omega)).mono ?_
  rw [show parE f 0 (toks xs i) = r from HR.out]
  have hgg : w.heap.size ≠ (w.heap.size + 1 + 1 + 1) := by omega
  cases r with
  | error u =>
    rintro e w5 ⟨hk5, q, j2, rfl, hu, hj2, hq, hbl⟩
    replace HB0 := Aside0.mk (hk5.blk HB0.out (by omega) (by simp))
    replace HB1 := Aside0.mk (hk5.blk HB1.out (by omega) (by simp))
    replace HB2 := Aside0.mk (hk5.blk HB2.out (by omega) (by simp))
    have hws : wa.heap.size ≤ w5.heap.size := hk5.1
    have HQ := Aside0.mk hq
    have HBL := Aside0.mk hbl
    clear hk5 hq hbl
    refine leaves_cons (f := 38) (args := #[.pointer (some ⟨w.heap.size, 0, none⟩), .pointer (some ⟨(w.heap.size + 1), 0, none⟩), .pointer (some ⟨(w.heap.size + 1 + 1), 0, none⟩)]) (by simp) (by simp [go_sem]) ?_
    refine (read_catch q w.heap.size (w.heap.size + 1) (w.heap.size + 1 + 1) _ _ _ _ _ HB0.out HB1.out HB2.out (by omega) (by omega) (by omega)).mono ?_
    rintro e u' w'' ⟨rfl, rfl, rfl⟩
    simp [Leaves, settle]
    refine ⟨.tuple #[.agg #[.int .i8 0, .slice none 0 0], .int .i64 0, .iface 60 (.pointer (some ⟨q, 0, none⟩))], ?_, ?_⟩
    · refine results_12 _ _ w.heap.size (w.heap.size + 1) (w.heap.size + 1 + 1) _ _ _ _ rfl rfl rfl (caught_0 HB0.out (by omega) (by omega)) (caught_1 HB1.out (by omega) (by omega)) (caught_2 HB2.out (by omega) (by omega))
    · exact ⟨caught_below HBL.out (Nat.le_refl _) (by omega) (by omega), q, j2, hu, hj2, rfl, caught_far HQ.out (obj_ne HQ.out HB0.out (by decide)) (obj_ne HQ.out HB1.out (by decide)) (obj_ne HQ.out HB2.out (by decide))⟩
  | ok x =>
    obtain ⟨t, u⟩ := x
    rintro e w5 ⟨hk5, v, j, rfl, hm, hT5, hij, hj, hu⟩
    replace hu : u = toks xs j := hu
    have hlt : i < xs.length := par_lt HR.out
    obtain ⟨At, ct, rfl⟩ := Kd.R_slice hm
    have HM : Aside0 (k43.R 43 w5 w.heap.size (fun k => (w.heap.size + 1 + 1 + 1) < k) (.slice At t.f1.length ct) t.f1) := .mk (Kd.R_lower (Kd.R_mono (Kd.R_bound hm) fun k hk => by omega) (by omega))
    replace HB0 := Aside0.mk (hk5.blk HB0.out (by omega) (by simp))
    replace HB1 := Aside0.mk (hk5.blk HB1.out (by omega) (by simp))
    replace HB2 := Aside0.mk (hk5.blk HB2.out (by omega) (by simp))
    have hws : wa.heap.size ≤ w5.heap.size := hk5.1
    replace HT := Aside0.mk hT5
    clear hk5 hm hT5
    have c0 := (blk_cell HB0.out 0).trans rfl
    have c1 := (blk_cell HB0.out 1).trans rfl
    have z0 := blk_frozen HB0.out 0
    have z1 := blk_frozen HB0.out 1
    simp at c0 c1
    go_wp2_with fail
    clear c0 c1 z0 z1
    replace HM := Aside0.mk (Kd.R_far (Kd.R_far HM.out (p := ⟨w.heap.size, 0, none⟩) (fun k hk => by show k ≠ w.heap.size; omega) (.int .i8 t.f0)) (p := ⟨w.heap.size, 1, none⟩) (fun k hk => by show k ≠ w.heap.size; omega) (.slice At t.f1.length ct))
    replace HT := Aside0.mk ((HT.out.far ⟨w.heap.size, 0, none⟩ (.int .i8 t.f0) (by show _ ≠ w.heap.size; omega) (Nat.le_refl _)).far ⟨w.heap.size, 1, none⟩ (.slice At t.f1.length ct) (by show _ ≠ w.heap.size; omega) (Nat.le_refl _))
    replace HB0 : Aside0 (((w5.setCell ⟨w.heap.size, 0, none⟩ (.int .i8 t.f0)).setCell ⟨w.heap.size, 1, none⟩ (.slice At t.f1.length ct)).heap[w.heap.size]? = some (.cells #[.int .i8 t.f0, .slice At t.f1.length ct] 43 (0, 0))) := .mk (blk_put (cs := #[.int .i8 t.f0, .slice none 0 0]) (blk_put HB0.out 0 _ rfl) 1 _ rfl)
    replace HB1 := Aside0.mk (blk_put_far (p := ⟨w.heap.size, 1, none⟩) (u := .slice At t.f1.length ct) (blk_put_far (p := ⟨w.heap.size, 0, none⟩) (u := .int .i8 t.f0) HB1.out (by show _ ≠ w.heap.size; omega)) (by show _ ≠ w.heap.size; omega))
    replace HB2 := Aside0.mk (blk_put_far (p := ⟨w.heap.size, 1, none⟩) (u := .slice At t.f1.length ct) (blk_put_far (p := ⟨w.heap.size, 0, none⟩) (u := .int .i8 t.f0) HB2.out (by show _ ≠ w.heap.size; omega)) (by show _ ≠ w.heap.size; omega))
    generalize (w5.setCell ⟨w.heap.size, 0, none⟩ (.int .i8 t.f0)).setCell ⟨w.heap.size, 1, none⟩ (.slice At t.f1.length ct) = w6 at *
    have hI : IsT w6 (.agg #[.int .i8 t.f0, .slice At t.f1.length ct]) t := by
      obtain ⟨A', c', he, hl, hr⟩ := Kd.R_reads HM.out
      injection he with e1 e2 e3
      subst e1 e3
      exact ⟨_, _, rfl, hl, hr⟩
    refine (Check_calls hI).mono ?_
    clear hI
    rintro e w7 ⟨rfl, hB⟩
    replace HM := Aside0.mk (Kd.R_below HM.out hB)
    replace HT := Aside0.mk (HT.out.after hB)
    replace HB0 := Aside0.mk (blk_below HB0.out hB)
    replace HB1 := Aside0.mk (blk_below HB1.out hB)
    replace HB2 := Aside0.mk (blk_below HB2.out hB)
    clear hB
    obtain ⟨ck, hck⟩ : ∃ ck, ck = checkI t := ⟨_, rfl⟩
    rw [← hck]
    have HC := Aside0.mk hck
    clear hck
    by_cases hc : ck = 0
    · subst hc
      go_wp2_with fail
      have d0 := (blk_cell HB0.out 0).trans rfl
      have d1 := (blk_cell HB0.out 1).trans rfl
      have d2 := (blk_cell HT.out.blk 1).trans rfl
      simp at d0 d1 d2
      refine wp_region_held_drew (S := fun w' => (w'.cell? ⟨w.heap.size, 0, none⟩ = some (.int .i8 t.f0) ∧ w'.cell? ⟨w.heap.size, 1, none⟩ = some (.slice At t.f1.length ct)) ∧ w'.cell? ⟨w.heap.size + 1 + 1 + 1, 1, none⟩ = some (.int .i64 (j : Int))) (by kernel_rfl) ⟨⟨d0, d1⟩, d2⟩ (fun hHeld => ?_)
      have hD := (Below.refl w7.heap.size w7).drew
      replace HM := Aside0.mk (Kd.R_below HM.out hD)
      replace HT := Aside0.mk (HT.out.after hD)
      replace HB0 := Aside0.mk (blk_below HB0.out hD)
      replace HB1 := Aside0.mk (blk_below HB1.out hD)
      replace HB2 := Aside0.mk (blk_below HB2.out hD)
      clear hD d0 d1 d2
      generalize w7.drew = w8 at *
      refine takeH (d := some 38) (v := ?_) 0 rfl rfl (by kernel_rfl) (by kernel_rfl) (by kernel_rfl) (fun _ _ _ h => post_put (d := 38) (by decide) h) (by rfl) ?_ hHeld ?_
      rotate_left
      · intro w hSw
        try dsimp only at hSw
        go_simp <;> with_reducible rfl
      try simp only [Act.put, List.setIfInBounds_toArray, List.set_cons_zero, List.set_cons_succ]
      refine takeH (d := some 39) (v := ?_) 1 rfl rfl (by kernel_rfl) (by kernel_rfl) (by kernel_rfl) (fun _ _ _ h => post_put (d := 39) (by decide) h) (by rfl) ?_ hHeld ?_
      rotate_left
      · intro w hSw
        try dsimp only at hSw
        go_simp <;> with_reducible rfl
      try simp only [Act.put, List.setIfInBounds_toArray, List.set_cons_zero, List.set_cons_succ]
      refine takeH (d := some 40) (v := ?_) 2 rfl rfl (by kernel_rfl) (by kernel_rfl) (by kernel_rfl) (fun _ _ _ h => post_put (d := 40) (by decide) h) (by rfl) ?_ hHeld ?_
      rotate_left
      · intro w hSw
        try dsimp only at hSw
        go_simp <;> with_reducible rfl
      try simp only [Act.put, List.setIfInBounds_toArray, List.set_cons_zero, List.set_cons_succ]
      refine takeH (d := some 41) (v := ?_) 3 rfl rfl (by kernel_rfl) (by kernel_rfl) (by kernel_rfl) (fun _ _ _ h => post_put (d := 41) (by decide) h) (by rfl) ?_ hHeld ?_
      rotate_left
      · intro w hSw
        try dsimp only at hSw
        go_simp <;> with_reducible rfl
      try simp only [Act.put, List.setIfInBounds_toArray, List.set_cons_zero, List.set_cons_succ]
      refine takeH (d := some 42) (v := ?_) 4 rfl rfl (by kernel_rfl) (by kernel_rfl) (by kernel_rfl) (fun _ _ _ h => post_put (d := 42) (by decide) h) (by rfl) ?_ hHeld ?_
      rotate_left
      · intro w hSw
        try dsimp only at hSw
        go_simp <;> with_reducible rfl
      try simp only [Act.put, List.setIfInBounds_toArray, List.set_cons_zero, List.set_cons_succ]
      refine wpAnyH_ready (rs := [5]) (by kernel_rfl) (by simp) ?_
      refine AllReadyH.cons rfl (fun K hK => ?_) AllReadyH.nil
      have d0 := (blk_cell HB0.out 0).trans rfl
      have y0 := blk_frozen HB0.out 0
      have d1 := (blk_cell HB0.out 1).trans rfl
      have y1 := blk_frozen HB0.out 1
      simp at d0 d1
      go_simp
      clear d0 y0 d1 y1
      replace HM := Aside0.mk (Kd.R_far (Kd.R_far HM.out (p := ⟨w.heap.size, 0, none⟩) (fun k hk => by show k ≠ w.heap.size; omega) (.int .i8 t.f0)) (p := ⟨w.heap.size, 1, none⟩) (fun k hk => by show k ≠ w.heap.size; omega) (.slice At t.f1.length ct))
      replace HT := Aside0.mk ((HT.out.far ⟨w.heap.size, 0, none⟩ (.int .i8 t.f0) (by show _ ≠ w.heap.size; omega) (Nat.le_refl _)).far ⟨w.heap.size, 1, none⟩ (.slice At t.f1.length ct) (by show _ ≠ w.heap.size; omega) (Nat.le_refl _))
      replace HB0 : Aside0 (((w8.setCell ⟨w.heap.size, 0, none⟩ (.int .i8 t.f0)).setCell ⟨w.heap.size, 1, none⟩ (.slice At t.f1.length ct)).heap[w.heap.size]? = some (.cells #[.int .i8 t.f0, .slice At t.f1.length ct] 43 (0, 0))) := .mk (blk_put (cs := #[.int .i8 t.f0, .slice At t.f1.length ct]) (blk_put HB0.out 0 _ rfl) 1 _ rfl)
      replace HB1 := Aside0.mk (blk_put_far (p := ⟨w.heap.size, 1, none⟩) (u := .slice At t.f1.length ct) (blk_put_far (p := ⟨w.heap.size, 0, none⟩) (u := .int .i8 t.f0) HB1.out (by show _ ≠ w.heap.size; omega)) (by show _ ≠ w.heap.size; omega))
      replace HB2 := Aside0.mk (blk_put_far (p := ⟨w.heap.size, 1, none⟩) (u := .slice At t.f1.length ct) (blk_put_far (p := ⟨w.heap.size, 0, none⟩) (u := .int .i8 t.f0) HB2.out (by show _ ≠ w.heap.size; omega)) (by show _ ≠ w.heap.size; omega))
      generalize (w8.setCell ⟨w.heap.size, 0, none⟩ (.int .i8 t.f0)).setCell ⟨w.heap.size, 1, none⟩ (.slice At t.f1.length ct) = w9 at *
      have d0 := (blk_cell HB0.out 0).trans rfl
      have d1 := (blk_cell HB0.out 1).trans rfl
      have d2 := (blk_cell HT.out.blk 1).trans rfl
      simp at d0 d1 d2
      refine hK.out _ _ ⟨⟨d0, d1⟩, d2⟩ (fun hHeld => ?_)
      clear hK K d0 d1 d2
      try simp only [Act.put, List.setIfInBounds_toArray, List.set_cons_zero, List.set_cons_succ]
      refine wpAnyH_ready (rs := [6]) (by kernel_rfl) (by simp) ?_
      refine AllReadyH.cons rfl (fun K hK => ?_) AllReadyH.nil
      have d0 := (blk_cell HB1.out 0).trans rfl
      have y0 := blk_frozen HB1.out 0
      simp at d0
      go_simp
      clear d0 y0
      replace HM := Aside0.mk (Kd.R_far HM.out (p := ⟨w.heap.size + 1, 0, none⟩) (fun k hk => by show k ≠ w.heap.size + 1; omega) (.int .i64 (j : Int)))
      replace HT := Aside0.mk (HT.out.far ⟨w.heap.size + 1, 0, none⟩ (.int .i64 (j : Int)) (by show _ ≠ w.heap.size + 1; omega) (by show _ ≤ w.heap.size + 1; omega))
      replace HB0 := Aside0.mk (blk_put_far (p := ⟨w.heap.size + 1, 0, none⟩) (u := .int .i64 (j : Int)) HB0.out (by show _ ≠ w.heap.size + 1; omega))
      replace HB2 := Aside0.mk (blk_put_far (p := ⟨w.heap.size + 1, 0, none⟩) (u := .int .i64 (j : Int)) HB2.out (by show _ ≠ w.heap.size + 1; omega))
      replace HB1 : Aside0 ((w9.setCell ⟨w.heap.size + 1, 0, none⟩ (.int .i64 (j : Int))).heap[w.heap.size + 1]? = some (.cells #[.int .i64 (j : Int)] 3 (0, 0))) := .mk (blk_put (cs := #[.int .i64 0]) HB1.out 0 _ rfl)
      generalize w9.setCell ⟨w.heap.size + 1, 0, none⟩ (.int .i64 (j : Int)) = w10 at *
      have d0 := (blk_cell HB0.out 0).trans rfl
      have d1 := (blk_cell HB0.out 1).trans rfl
      have d2 := (blk_cell HT.out.blk 1).trans rfl
      simp at d0 d1 d2
      refine hK.out _ _ ⟨⟨d0, d1⟩, d2⟩ (fun hHeld => ?_)
      clear hK K d0 d1 d2
      try simp only [Act.put, List.setIfInBounds_toArray, List.set_cons_zero, List.set_cons_succ]
      refine wpAnyH_ready (rs := [7]) (by kernel_rfl) (by simp) ?_
      refine AllReadyH.cons rfl (fun K hK => ?_) AllReadyH.nil
      have d0 := (blk_cell HB2.out 0).trans rfl
      have y0 := blk_frozen HB2.out 0
      simp at d0
      go_simp
      clear d0 y0
      replace HM := Aside0.mk (Kd.R_far HM.out (p := ⟨w.heap.size + 1 + 1, 0, none⟩) (fun k hk => by show k ≠ w.heap.size + 1 + 1; omega) (.nilIface))
      replace HT := Aside0.mk (HT.out.far ⟨w.heap.size + 1 + 1, 0, none⟩ .nilIface (by show _ ≠ w.heap.size + 1 + 1; omega) (by show _ ≤ w.heap.size + 1 + 1; omega))
      replace HB0 := Aside0.mk (blk_put_far (p := ⟨w.heap.size + 1 + 1, 0, none⟩) (u := .nilIface) HB0.out (by show _ ≠ w.heap.size + 1 + 1; omega))
      replace HB1 := Aside0.mk (blk_put_far (p := ⟨w.heap.size + 1 + 1, 0, none⟩) (u := .nilIface) HB1.out (by show _ ≠ w.heap.size + 1 + 1; omega))
      replace HB2 : Aside0 ((w10.setCell ⟨w.heap.size + 1 + 1, 0, none⟩ .nilIface).heap[w.heap.size + 1 + 1]? = some (.cells #[.nilIface] 24 (0, 0))) := .mk (blk_put (cs := #[.nilIface]) HB2.out 0 _ rfl)
      generalize w10.setCell ⟨w.heap.size + 1 + 1, 0, none⟩ .nilIface = w11 at *
      have d0 := (blk_cell HB0.out 0).trans rfl
      have d1 := (blk_cell HB0.out 1).trans rfl
      have d2 := (blk_cell HT.out.blk 1).trans rfl
      simp at d0 d1 d2
      refine hK.out _ _ ⟨⟨d0, d1⟩, d2⟩ (fun hHeld => ?_)
      clear hK K d0 d1 d2
      try simp only [Act.put, List.setIfInBounds_toArray, List.set_cons_zero, List.set_cons_succ]
      refine wpAnyH_done (by kernel_rfl) ?_ _
      go_wp2_with fail
      refine leaves_cons (f := 38) (args := #[.pointer (some ⟨w.heap.size, 0, none⟩), .pointer (some ⟨(w.heap.size + 1), 0, none⟩), .pointer (some ⟨(w.heap.size + 1 + 1), 0, none⟩)]) (by simp) (by simp [go_sem]) ?_
      refine (read_idle _ _ _ _).mono ?_
      rintro e u' w'' ⟨rfl, rfl, rfl⟩
      exact ⟨_, results_12 _ _ _ _ _ _ _ _ _ rfl rfl rfl HB0.out HB1.out HB2.out, HT.out.below, .inl ⟨HC.out.symm, _, j, rfl, Kd.R_mono HM.out (fun _ _ => trivial), hj, hu⟩⟩
    · have hc2 : (ck != 0) = true := by rw [bne_iff_ne]; exact hc
      obtain ⟨ad, hA, _, _, _, x3⟩ := word_at (Kd.C_below HT.out.words HT.out.below) i hlt _ (List.getElem?_eq_getElem hlt)
      subst hA
      have HX : Aside0 (((xs[i]?).getD z37).f3 = (xs[i]'hlt).f3) := .mk (by rw [List.getElem?_eq_getElem hlt]; rfl)
      generalize (xs[i]'hlt).f3 = P at *
      have hltI : (i : Int) < (xs.length : Int) := by omega
      clear HM
      go_wp2_with fail
      have hD := below1 w7 #[.int .i64 ck, .int .i64 P, .string ⟨#[]⟩] 62
      have HQ := Aside0.mk (heap_alloc_new w7 (.cells #[.int .i64 ck, .int .i64 P, .string ⟨#[]⟩] 62))
      replace HB0 := Aside0.mk (blk_below HB0.out hD)
      replace HB1 := Aside0.mk (blk_below HB1.out hD)
      replace HB2 := Aside0.mk (blk_below HB2.out hD)
      have HBL := Aside0.mk (below_then HT.out.below HT.out.below.size hD)
      clear hD x3
      generalize w7.heap.size = q at *
      generalize w7.alloc (.cells #[.int .i64 ck, .int .i64 P, .string ⟨#[]⟩] 62) = w8 at *
      refine leaves_cons (f := 38) (args := #[.pointer (some ⟨w.heap.size, 0, none⟩), .pointer (some ⟨(w.heap.size + 1), 0, none⟩), .pointer (some ⟨(w.heap.size + 1 + 1), 0, none⟩)]) (by simp) (by simp [go_sem]) ?_
      refine (read_catch q w.heap.size (w.heap.size + 1) (w.heap.size + 1 + 1) _ _ _ _ _ HB0.out HB1.out HB2.out (by omega) (by omega) (by omega)).mono ?_
      rintro e u' w'' ⟨rfl, rfl, rfl⟩
      simp [Leaves, settle]
      refine ⟨.tuple #[.agg #[.int .i8 0, .slice none 0 0], .int .i64 0, .iface 60 (.pointer (some ⟨q, 0, none⟩))], ?_, ?_⟩
      · refine results_12 _ _ w.heap.size (w.heap.size + 1) (w.heap.size + 1 + 1) _ _ _ _ rfl rfl rfl (caught_0 HB0.out (by omega) (by omega)) (caught_1 HB1.out (by omega) (by omega)) (caught_2 HB2.out (by omega) (by omega))
      · refine ⟨caught_below HBL.out (Nat.le_refl _) (by omega) (by omega), .inr ⟨by show checkI t ≠ 0; rw [← HC.out]; exact hc, q, rfl, ?_⟩⟩
        show FaultAt51 _ _ (checkI t) _ _
        rw [HX.out, ← HC.out]
        exact caught_far HQ.out (obj_ne HQ.out HB0.out (by decide)) (obj_ne HQ.out HB1.out (by decide)) (obj_ne HQ.out HB2.out (by decide))
end Go.Proofs.YtjmpejbciniceaaDoor.X
namespace Go.Proofs.YtjmpejbciniceaaDoor.X
open Go.RowKit Go.Proofs.YtjmpejbciniceaaDoorW.PrintWords Go.Proofs.YtjmpejbciniceaaDoorW.PrintLast Go.Proofs.YtjmpejbciniceaaDoorW.PrintMore
set_option linter.unusedVariables false
set_option linter.unusedSimpArgs false
section
variable {P : Program} {ops : Array Oper} {Q : Exit → Act → World → Prop} {md : Region.Mode} {S : World → Prop}
theorem tK (d i : Nat) {oi : Oper} {v : Value} {fuel : Nat} {listed : Array Bool} {a a' : Act} {w : World} (hS : S w) (h : wpAnyH P md ops Q S fuel (listed.setIfInBounds i true) a' w)
    (hi : ops[i]? = some oi := by rfl) (hd : oi.dst = some d := by rfl)
    (hy : ∀ w, S w → (execOp a.eval oi).run P w = .ok (.value v) w := by intro w hSw; (try dsimp only at hSw); go_simp <;> with_reducible rfl)
    (ha : a.put (some d) v = a' := by simp only [Act.put, List.setIfInBounds_toArray, List.set_cons_zero, List.set_cons_succ] <;> with_reducible rfl)
    (hs : Region.noSelect ops = true := by kernel_rfl) (hf : Region.free md ops listed i = true := by kernel_rfl) (hr : (Region.ready md ops listed).contains i = true := by kernel_rfl)
    (hQ : ∀ c a w, Q (.panic c) (a.put (some d) v) w → Q (.panic c) a w := by exact fun _ _ _ h => h) (hw : Region.wanted oi (yielded ops a.tmps) = true := by rfl) : wpAnyH P md ops Q S (fuel + 1) listed a w := by
  subst ha
  exact takeH i hi hd hs hf hr hQ hw hy hS h
theorem pK (d i : Nat) {oi : Oper} {fuel : Nat} {listed : Array Bool} {a a' : Act} {w : World} (hS : S w) (h : wpAnyH P md ops Q S fuel (listed.setIfInBounds i true) a' w)
    (hi : ops[i]? = some oi := by rfl) (hd : oi.dst = some d := by rfl)
    (ha : a.put (some d) undef = a' := by simp only [Act.put, List.setIfInBounds_toArray, List.set_cons_zero, List.set_cons_succ] <;> with_reducible rfl)
    (hs : Region.noSelect ops = true := by kernel_rfl) (hf : Region.free md ops listed i = true := by kernel_rfl) (hr : (Region.ready md ops listed).contains i = true := by kernel_rfl)
    (hQ : ∀ c a w, Q (.panic c) (a.put (some d) undef) w → Q (.panic c) a w := by exact fun _ _ _ h => h) (hw : Region.wanted oi (yielded ops a.tmps) = false := by rfl) : wpAnyH P md ops Q S (fuel + 1) listed a w := by
  subst ha
  exact passH i hi hd hs hf hr hQ hw hS h
theorem nA {fuel : Nat} {listed : Array Bool} {a a' : Act} {w : World} (h : wpAnyH P md ops Q S fuel listed a' w) (ha : a = a' := by first | (simp only [Act.put, List.setIfInBounds_toArray, List.set_cons_zero, List.set_cons_succ] <;> with_reducible rfl) | with_reducible rfl) : wpAnyH P md ops Q S fuel listed a w := by
  subst ha
  exact h
end
theorem pwc {w w1 : World} (h : Below w.heap.size w w1) {a : Addr} {v : Value} (hc : w.cell? a = some v) : w1.cell? a = some v := pw_cell_below h hc
theorem three (w : World) (o0 o1 o2 : Obj) : (((w.alloc o0).alloc o1).alloc o2).heap[w.heap.size]? = some o0 ∧ (((w.alloc o0).alloc o1).alloc o2).heap[w.heap.size + 1]? = some o1 ∧ (((w.alloc o0).alloc o1).alloc o2).heap[w.heap.size + 2]? = some o2 ∧ Below w.heap.size w (((w.alloc o0).alloc o1).alloc o2) :=
  ⟨blk_alloc (blk_alloc (heap_alloc_new w o0) o1) o2, by have := blk_alloc (heap_alloc_new (w.alloc o0) o1) o2; simpa using this, by have := heap_alloc_new ((w.alloc o0).alloc o1) o2; simpa using this, (((Below.refl _ _).alloc (Nat.le_refl _) _).alloc (by simp) _).alloc (by simp; omega) _⟩
theorem two_ (w : World) (o0 o1 : Obj) : ((w.alloc o0).alloc o1).heap[w.heap.size]? = some o0 ∧ ((w.alloc o0).alloc o1).heap[w.heap.size + 1]? = some o1 ∧ Below w.heap.size w ((w.alloc o0).alloc o1) :=
  ⟨blk_alloc (heap_alloc_new w o0) o1, by have := heap_alloc_new (w.alloc o0) o1; simpa using this, ((Below.refl _ _).alloc (Nat.le_refl _) _).alloc (by simp) _⟩
end Go.Proofs.YtjmpejbciniceaaDoor.X
namespace Go.Proofs.YtjmpejbciniceaaDoor.X
open Go.RowKit Go.Proofs.YtjmpejbciniceaaDoorW.PrintWords Go.Proofs.YtjmpejbciniceaaDoorW.PrintLast Go.Proofs.YtjmpejbciniceaaDoorW.PrintMore
set_option linter.unusedVariables false
set_option linter.unusedSimpArgs false
structure RR (w0 : World) (g : Nat) (A : Option Addr) (c : Nat) (xs : List S37) (i : Nat) (e p : Int) (t : ByteArray) (w : World) : Prop where
  mk ::
  blk : w.heap[g]? = some (.cells #[.slice A xs.length c, .int .i64 (i : Int), .int .i64 e, .int .i64 p, .string t] 85 (0, 0))
  words : Kd.C k37 w0 A xs.length xs
  low : w0.heap.size ≤ g
  below : Below w0.heap.size w0 w
theorem RR.after {w0 : World} {g : Nat} {A : Option Addr} {c : Nat} {xs : List S37} {i : Nat} {e p : Int} {t : ByteArray} {w w' : World} (h : RR w0 g A c xs i e p t w) (hb : Below w.heap.size w w') : RR w0 g A c xs i e p t w' :=
  ⟨blk_below h.blk hb, h.words, h.low, below_then h.below h.below.size hb⟩
theorem RR.move {w0 : World} {g : Nat} {A : Option Addr} {c : Nat} {xs : List S37} {i : Nat} {e p : Int} {t : ByteArray} {w : World} (h : RR w0 g A c xs i e p t w) (j : Nat) : RR w0 g A c xs j e p t (w.setCell ⟨g, 1, none⟩ (.int .i64 (j : Int))) :=
  ⟨blk_put h.blk 1 _ (by simp), h.words, h.low, h.below.setCell (p := ⟨g, 1, none⟩) h.low _⟩
theorem RR.far {w0 : World} {g : Nat} {A : Option Addr} {c : Nat} {xs : List S37} {i : Nat} {e p : Int} {t : ByteArray} {w : World} (h : RR w0 g A c xs i e p t w) (q : Addr) (u : Value) (hq : g ≠ q.block) (hl : w0.heap.size ≤ q.block) : RR w0 g A c xs i e p t (w.setCell q u) :=
  ⟨blk_far h.blk hq u, h.words, h.low, h.below.setCell hl u⟩
set_option maxRecDepth 100000 in
set_option maxHeartbeats 3200000 in
theorem is_end {g : Nat} {A : Option Addr} {c : Nat} {i : Nat} {w : World} {n : Nat} (hn : n ≤ 200000) (hi : i ≤ n) (k : Int) (s : ByteArray) (e0 : w.cell? ⟨g, 0, none⟩ = some (.slice A n c)) (e1 : w.cell? ⟨g, 1, none⟩ = some (.int .i64 (i : Int))) (hlt : n ≤ i) :
    Calls Tryd.prog 117 #[.pointer (some ⟨g, 0, none⟩), .int .i8 k, .string s] w fun en w' => en = .returned (.bool false) ∧ Below w.heap.size w w' := by
  go_enter Tryd.func117, Tryd.ntmps117
  go_wp2_with fail
  refine wp_region_held_drew (S := fun w' => w'.cell? ⟨g, 0, none⟩ = some (.slice A n c) ∧ w'.cell? ⟨g, 1, none⟩ = some (.int .i64 (i : Int))) (by kernel_rfl) ⟨e0, e1⟩ (fun hHeld => ?_)
  have HD := Aside0.mk ((Below.refl w.heap.size w).drew)
  generalize w.drew = w1 at *
  refine tK 7 0 hHeld ?_
  refine tK 8 1 hHeld ?_
  refine tK 9 2 hHeld ?_
  refine tK 10 3 hHeld ?_
  refine tK 11 4 hHeld ?_
  refine tK 12 5 hHeld ?_
  refine tK 13 6 hHeld ?_
  refine tK 14 7 hHeld ?_
  refine tK 15 8 hHeld ?_
  refine takeH (d := some 16) (v := .bool false) 9 rfl rfl (by kernel_rfl) (by kernel_rfl) (by kernel_rfl) (fun _ _ _ h => h) (by rfl) (fun w hSw => by (try dsimp only at hSw); go_simp <;> first | done | omega | (simp; omega)) hHeld (nA ?_)
  refine tK 17 10 hHeld ?_
  refine pK 18 11 hHeld ?_
  refine pK 19 12 hHeld ?_
  refine pK 20 13 hHeld ?_
  refine pK 21 14 hHeld ?_
  refine pK 22 15 hHeld ?_
  refine pK 23 16 hHeld ?_
  refine pK 24 17 hHeld ?_
  refine pK 25 18 hHeld ?_
  refine pK 26 19 hHeld ?_
  refine pK 27 20 hHeld ?_
  refine pK 28 21 hHeld ?_
  refine pK 29 22 hHeld ?_
  refine pK 30 23 hHeld ?_
  refine tK 31 24 hHeld ?_
  refine tK 32 25 hHeld ?_
  refine pK 33 26 hHeld ?_
  refine pK 34 27 hHeld ?_
  refine pK 35 28 hHeld ?_
  refine pK 36 29 hHeld ?_
  refine pK 37 30 hHeld ?_
  refine pK 38 31 hHeld ?_
  refine pK 39 32 hHeld ?_
  refine pK 40 33 hHeld ?_
  refine pK 41 34 hHeld ?_
  refine pK 42 35 hHeld ?_
  refine pK 43 36 hHeld ?_
  refine pK 44 37 hHeld ?_
  refine pK 45 38 hHeld ?_
  refine tK 46 39 hHeld ?_
  refine tK 6 40 hHeld ?_
  refine wpAnyH_done (by kernel_rfl) ?_ _
  clear hHeld
  go_wp2_with fail
  go_ret
  exact ⟨rfl, HD.out⟩
set_option maxRecDepth 100000 in
set_option maxHeartbeats 3200000 in
theorem is_kind {g : Nat} {ad : Addr} {c : Nat} {i : Nat} {w : World} {n : Nat} (hn : n ≤ 200000) (hi : i ≤ n) (k : Int) (s : ByteArray) (e0 : w.cell? ⟨g, 0, none⟩ = some (.slice (some ad) n c)) (e1 : w.cell? ⟨g, 1, none⟩ = some (.int .i64 (i : Int))) (hlt : i < n) (K : Int) (T : ByteArray) (x0 : w.cell? (ad.add (i * 4)) = some (.int .i8 K)) (x1 : w.cell? ⟨(ad.add (i * 4)).block, (ad.add (i * 4)).off + 1, none⟩ = some (.string T)) (HK : Aside0 (¬ K = k)) :
    Calls Tryd.prog 117 #[.pointer (some ⟨g, 0, none⟩), .int .i8 k, .string s] w fun en w' => en = .returned (.bool false) ∧ Below w.heap.size w w' := by
  go_enter Tryd.func117, Tryd.ntmps117
  go_wp2_with fail
  refine wp_region_held_drew (S := fun w' => (w'.cell? ⟨g, 0, none⟩ = some (.slice (some ad) n c) ∧ w'.cell? ⟨g, 1, none⟩ = some (.int .i64 (i : Int))) ∧ w'.cell? (ad.add (i * 4)) = some (.int .i8 K) ∧ w'.cell? ⟨(ad.add (i * 4)).block, (ad.add (i * 4)).off + 1, none⟩ = some (.string T)) (by kernel_rfl) ⟨⟨e0, e1⟩, x0, x1⟩ (fun hHeld => ?_)
  have HD := Aside0.mk ((Below.refl w.heap.size w).drew)
  generalize w.drew = w1 at *
  refine tK 7 0 hHeld ?_
  refine tK 8 1 hHeld ?_
  refine tK 9 2 hHeld ?_
  refine tK 10 3 hHeld ?_
  refine tK 11 4 hHeld ?_
  refine tK 12 5 hHeld ?_
  refine tK 13 6 hHeld ?_
  refine tK 14 7 hHeld ?_
  refine tK 15 8 hHeld ?_
  refine takeH (d := some 16) (v := .bool true) 9 rfl rfl (by kernel_rfl) (by kernel_rfl) (by kernel_rfl) (fun _ _ _ h => h) (by rfl) (fun w hSw => by (try dsimp only at hSw); go_simp <;> first | done | omega | (simp; omega)) hHeld (nA ?_)
  refine tK 17 10 hHeld ?_
  refine tK 18 11 hHeld ?_
  refine tK 19 12 hHeld ?_
  refine tK 20 13 hHeld ?_
  refine tK 21 14 hHeld ?_
  refine tK 22 15 hHeld ?_
  refine tK 23 16 hHeld ?_
  refine tK 24 17 hHeld ?_
  refine tK 25 18 hHeld ?_
  refine takeH (d := some 26) (v := .pointer (some (ad.add (i * 4)))) 19 rfl rfl (by kernel_rfl) (by kernel_rfl) (by kernel_rfl) (fun _ _ _ h => h) (by rfl) (fun w hSw => by (try dsimp only at hSw); go_simp <;> first | done | (rw [if_pos (by omega)]) | (intro hcc; omega)) hHeld (nA ?_)
  refine tK 27 20 hHeld ?_
  refine tK 28 21 hHeld ?_
  refine tK 29 22 hHeld ?_
  refine takeH (d := some 30) (v := .bool false) 23 rfl rfl (by kernel_rfl) (by kernel_rfl) (by kernel_rfl) (fun _ _ _ h => h) (by rfl) (fun w hSw => by (try dsimp only at hSw); go_simp <;> first | done | exact HK.out | simp) hHeld (nA ?_)
  refine tK 31 24 hHeld ?_
  refine tK 32 25 hHeld ?_
  refine pK 33 26 hHeld ?_
  refine pK 34 27 hHeld ?_
  refine pK 35 28 hHeld ?_
  refine pK 36 29 hHeld ?_
  refine pK 37 30 hHeld ?_
  refine pK 38 31 hHeld ?_
  refine pK 39 32 hHeld ?_
  refine pK 40 33 hHeld ?_
  refine pK 41 34 hHeld ?_
  refine pK 42 35 hHeld ?_
  refine pK 43 36 hHeld ?_
  refine pK 44 37 hHeld ?_
  refine pK 45 38 hHeld ?_
  refine tK 46 39 hHeld ?_
  refine tK 6 40 hHeld ?_
  refine wpAnyH_done (by kernel_rfl) ?_ _
  clear hHeld
  go_wp2_with fail
  go_ret
  exact ⟨rfl, HD.out⟩
set_option maxRecDepth 100000 in
set_option maxHeartbeats 3200000 in
theorem is_text {g : Nat} {ad : Addr} {c : Nat} {i : Nat} {w : World} {n : Nat} (hn : n ≤ 200000) (hi : i ≤ n) (k : Int) (s : ByteArray) (e0 : w.cell? ⟨g, 0, none⟩ = some (.slice (some ad) n c)) (e1 : w.cell? ⟨g, 1, none⟩ = some (.int .i64 (i : Int))) (hlt : i < n) (K : Int) (T : ByteArray) (x0 : w.cell? (ad.add (i * 4)) = some (.int .i8 K)) (x1 : w.cell? ⟨(ad.add (i * 4)).block, (ad.add (i * 4)).off + 1, none⟩ = some (.string T)) (hk : K = k) (HT : Aside0 (¬ T.toList = s.toList)) :
    Calls Tryd.prog 117 #[.pointer (some ⟨g, 0, none⟩), .int .i8 k, .string s] w fun en w' => en = .returned (.bool false) ∧ Below w.heap.size w w' := by
  subst hk
  go_enter Tryd.func117, Tryd.ntmps117
  go_wp2_with fail
  refine wp_region_held_drew (S := fun w' => (w'.cell? ⟨g, 0, none⟩ = some (.slice (some ad) n c) ∧ w'.cell? ⟨g, 1, none⟩ = some (.int .i64 (i : Int))) ∧ w'.cell? (ad.add (i * 4)) = some (.int .i8 K) ∧ w'.cell? ⟨(ad.add (i * 4)).block, (ad.add (i * 4)).off + 1, none⟩ = some (.string T)) (by kernel_rfl) ⟨⟨e0, e1⟩, x0, x1⟩ (fun hHeld => ?_)
  have HD := Aside0.mk ((Below.refl w.heap.size w).drew)
  generalize w.drew = w1 at *
  refine tK 7 0 hHeld ?_
  refine tK 8 1 hHeld ?_
  refine tK 9 2 hHeld ?_
  refine tK 10 3 hHeld ?_
  refine tK 11 4 hHeld ?_
  refine tK 12 5 hHeld ?_
  refine tK 13 6 hHeld ?_
  refine tK 14 7 hHeld ?_
  refine tK 15 8 hHeld ?_
  refine takeH (d := some 16) (v := .bool true) 9 rfl rfl (by kernel_rfl) (by kernel_rfl) (by kernel_rfl) (fun _ _ _ h => h) (by rfl) (fun w hSw => by (try dsimp only at hSw); go_simp <;> first | done | omega | (simp; omega)) hHeld (nA ?_)
  refine tK 17 10 hHeld ?_
  refine tK 18 11 hHeld ?_
  refine tK 19 12 hHeld ?_
  refine tK 20 13 hHeld ?_
  refine tK 21 14 hHeld ?_
  refine tK 22 15 hHeld ?_
  refine tK 23 16 hHeld ?_
  refine tK 24 17 hHeld ?_
  refine tK 25 18 hHeld ?_
  refine takeH (d := some 26) (v := .pointer (some (ad.add (i * 4)))) 19 rfl rfl (by kernel_rfl) (by kernel_rfl) (by kernel_rfl) (fun _ _ _ h => h) (by rfl) (fun w hSw => by (try dsimp only at hSw); go_simp <;> first | done | (rw [if_pos (by omega)]) | (intro hcc; omega)) hHeld (nA ?_)
  refine tK 27 20 hHeld ?_
  refine tK 28 21 hHeld ?_
  refine tK 29 22 hHeld ?_
  refine takeH (d := some 30) (v := .bool true) 23 rfl rfl (by kernel_rfl) (by kernel_rfl) (by kernel_rfl) (fun _ _ _ h => h) (by rfl) (fun w hSw => by (try dsimp only at hSw); go_simp <;> first | done | exact HK.out | simp) hHeld (nA ?_)
  refine tK 31 24 hHeld ?_
  refine tK 32 25 hHeld ?_
  refine tK 33 26 hHeld ?_
  refine tK 34 27 hHeld ?_
  refine tK 35 28 hHeld ?_
  refine tK 36 29 hHeld ?_
  refine tK 37 30 hHeld ?_
  refine tK 38 31 hHeld ?_
  refine tK 39 32 hHeld ?_
  refine tK 40 33 hHeld ?_
  refine takeH (d := some 41) (v := .pointer (some (ad.add (i * 4)))) 34 rfl rfl (by kernel_rfl) (by kernel_rfl) (by kernel_rfl) (fun _ _ _ h => h) (by rfl) (fun w hSw => by (try dsimp only at hSw); go_simp <;> first | done | (rw [if_pos (by omega)]) | (intro hcc; omega)) hHeld (nA ?_)
  refine tK 42 35 hHeld ?_
  refine tK 43 36 hHeld ?_
  refine tK 44 37 hHeld ?_
  refine takeH (d := some 45) (v := .bool false) 38 rfl rfl (by kernel_rfl) (by kernel_rfl) (by kernel_rfl) (fun _ _ _ h => h) (by rfl) (fun w hSw => by (try dsimp only at hSw); go_simp <;> first | done | exact HT.out) hHeld (nA ?_)
  refine tK 46 39 hHeld ?_
  refine tK 6 40 hHeld ?_
  refine wpAnyH_done (by kernel_rfl) ?_ _
  clear hHeld
  go_wp2_with fail
  go_ret
  exact ⟨rfl, HD.out⟩
set_option maxRecDepth 100000 in
set_option maxHeartbeats 3200000 in
theorem is_yes {g : Nat} {ad : Addr} {c : Nat} {i : Nat} {w : World} {n : Nat} (hn : n ≤ 200000) (hi : i ≤ n) (k : Int) (s : ByteArray) (e0 : w.cell? ⟨g, 0, none⟩ = some (.slice (some ad) n c)) (e1 : w.cell? ⟨g, 1, none⟩ = some (.int .i64 (i : Int))) (hlt : i < n) (K : Int) (T : ByteArray) (x0 : w.cell? (ad.add (i * 4)) = some (.int .i8 K)) (x1 : w.cell? ⟨(ad.add (i * 4)).block, (ad.add (i * 4)).off + 1, none⟩ = some (.string T)) (hk : K = k) (HT : Aside0 (T.toList = s.toList)) :
    Calls Tryd.prog 117 #[.pointer (some ⟨g, 0, none⟩), .int .i8 k, .string s] w fun en w' => en = .returned (.bool true) ∧ Below w.heap.size w w' := by
  subst hk
  go_enter Tryd.func117, Tryd.ntmps117
  go_wp2_with fail
  refine wp_region_held_drew (S := fun w' => (w'.cell? ⟨g, 0, none⟩ = some (.slice (some ad) n c) ∧ w'.cell? ⟨g, 1, none⟩ = some (.int .i64 (i : Int))) ∧ w'.cell? (ad.add (i * 4)) = some (.int .i8 K) ∧ w'.cell? ⟨(ad.add (i * 4)).block, (ad.add (i * 4)).off + 1, none⟩ = some (.string T)) (by kernel_rfl) ⟨⟨e0, e1⟩, x0, x1⟩ (fun hHeld => ?_)
  have HD := Aside0.mk ((Below.refl w.heap.size w).drew)
  generalize w.drew = w1 at *
  refine tK 7 0 hHeld ?_
  refine tK 8 1 hHeld ?_
  refine tK 9 2 hHeld ?_
  refine tK 10 3 hHeld ?_
  refine tK 11 4 hHeld ?_
  refine tK 12 5 hHeld ?_
  refine tK 13 6 hHeld ?_
  refine tK 14 7 hHeld ?_
  refine tK 15 8 hHeld ?_
  refine takeH (d := some 16) (v := .bool true) 9 rfl rfl (by kernel_rfl) (by kernel_rfl) (by kernel_rfl) (fun _ _ _ h => h) (by rfl) (fun w hSw => by (try dsimp only at hSw); go_simp <;> first | done | omega | (simp; omega)) hHeld (nA ?_)
  refine tK 17 10 hHeld ?_
  refine tK 18 11 hHeld ?_
  refine tK 19 12 hHeld ?_
  refine tK 20 13 hHeld ?_
  refine tK 21 14 hHeld ?_
  refine tK 22 15 hHeld ?_
  refine tK 23 16 hHeld ?_
  refine tK 24 17 hHeld ?_
  refine tK 25 18 hHeld ?_
  refine takeH (d := some 26) (v := .pointer (some (ad.add (i * 4)))) 19 rfl rfl (by kernel_rfl) (by kernel_rfl) (by kernel_rfl) (fun _ _ _ h => h) (by rfl) (fun w hSw => by (try dsimp only at hSw); go_simp <;> first | done | (rw [if_pos (by omega)]) | (intro hcc; omega)) hHeld (nA ?_)
  refine tK 27 20 hHeld ?_
  refine tK 28 21 hHeld ?_
  refine tK 29 22 hHeld ?_
  refine takeH (d := some 30) (v := .bool true) 23 rfl rfl (by kernel_rfl) (by kernel_rfl) (by kernel_rfl) (fun _ _ _ h => h) (by rfl) (fun w hSw => by (try dsimp only at hSw); go_simp <;> first | done | exact HK.out | simp) hHeld (nA ?_)
  refine tK 31 24 hHeld ?_
  refine tK 32 25 hHeld ?_
  refine tK 33 26 hHeld ?_
  refine tK 34 27 hHeld ?_
  refine tK 35 28 hHeld ?_
  refine tK 36 29 hHeld ?_
  refine tK 37 30 hHeld ?_
  refine tK 38 31 hHeld ?_
  refine tK 39 32 hHeld ?_
  refine tK 40 33 hHeld ?_
  refine takeH (d := some 41) (v := .pointer (some (ad.add (i * 4)))) 34 rfl rfl (by kernel_rfl) (by kernel_rfl) (by kernel_rfl) (fun _ _ _ h => h) (by rfl) (fun w hSw => by (try dsimp only at hSw); go_simp <;> first | done | (rw [if_pos (by omega)]) | (intro hcc; omega)) hHeld (nA ?_)
  refine tK 42 35 hHeld ?_
  refine tK 43 36 hHeld ?_
  refine tK 44 37 hHeld ?_
  refine takeH (d := some 45) (v := .bool true) 38 rfl rfl (by kernel_rfl) (by kernel_rfl) (by kernel_rfl) (fun _ _ _ h => h) (by rfl) (fun w hSw => by (try dsimp only at hSw); go_simp <;> first | done | exact HT.out) hHeld (nA ?_)
  refine tK 46 39 hHeld ?_
  refine tK 6 40 hHeld ?_
  refine wpAnyH_done (by kernel_rfl) ?_ _
  clear hHeld
  go_wp2_with fail
  go_ret
  exact ⟨rfl, HD.out⟩
theorem is_calls {w0 : World} {g : Nat} {A : Option Addr} {c : Nat} {xs : List S37} {i : Nat} {e p : Int} {t : ByteArray} {w : World} (h : RR w0 g A c xs i e p t w) (hn : xs.length ≤ 200000) (hi : i ≤ xs.length) (k : Int) (s : ByteArray) :
    Calls Tryd.prog 117 #[.pointer (some ⟨g, 0, none⟩), .int .i8 k, .string s] w fun en w' => ((nextIs xs i k s.toList ∧ en = .returned (.bool true)) ∨ (¬ nextIs xs i k s.toList ∧ en = .returned (.bool false))) ∧ Below w.heap.size w w' := by
  have e0 := (blk_cell h.blk 0).trans rfl
  have e1 := (blk_cell h.blk 1).trans rfl
  simp at e0 e1
  by_cases hlt : i < xs.length
  · have hg : xs[i]? = some (xs[i]'hlt) := List.getElem?_eq_getElem hlt
    obtain ⟨ad, rfl, x0, x1, _, _⟩ := word_at (Kd.C_below h.words h.below) i hlt _ hg
    by_cases hk : (xs[i]'hlt).f0 = k
    · by_cases ht : (xs[i]'hlt).f1.toList = s.toList
      · exact (is_yes hn hi k s e0 e1 hlt _ _ x0 x1 hk (.mk ht)).mono fun e w' h => ⟨.inl ⟨⟨_, hg, hk, ht⟩, h.1⟩, h.2⟩
      · exact (is_text hn hi k s e0 e1 hlt _ _ x0 x1 hk (.mk ht)).mono fun e w' h => ⟨.inr ⟨fun ⟨x, h1, _, h3⟩ => by rw [hg] at h1; injection h1 with h1; subst h1; exact ht h3, h.1⟩, h.2⟩
    · exact (is_kind hn hi k s e0 e1 hlt _ _ x0 x1 (.mk hk)).mono fun e w' h => ⟨.inr ⟨fun ⟨x, h1, h2, _⟩ => by rw [hg] at h1; injection h1 with h1; subst h1; exact hk h2, h.1⟩, h.2⟩
  · exact (is_end hn hi k s e0 e1 (by omega)).mono fun e w' h => ⟨.inr ⟨fun ⟨x, h1, _, _⟩ => by rw [List.getElem?_eq_none (by omega)] at h1; simp at h1, h.1⟩, h.2⟩
def SignPost (w0 : World) (g : Nat) (A : Option Addr) (c : Nat) (xs : List S37) (i : Nat) (e p : Int) (t : ByteArray) (k : Int) (s : List UInt8) (w : World) (en : Ending) (w' : World) : Prop :=
  KeepBut w w' g none ∧ ((e = 0 ∧ nextIs xs i k s ∧ en = .returned (.bool true) ∧ RR w0 g A c xs (i + 1) e p t w') ∨ (¬ (e = 0 ∧ nextIs xs i k s) ∧ en = .returned (.bool false) ∧ RR w0 g A c xs i e p t w'))
set_option maxRecDepth 100000 in
set_option maxHeartbeats 3200000 in
theorem psign_calls {w0 : World} {g : Nat} {A : Option Addr} {c : Nat} {xs : List S37} {i : Nat} {e p : Int} {t : ByteArray} {w : World} (h : RR w0 g A c xs i e p t w) (hn : xs.length ≤ 200000) (hi : i ≤ xs.length) (s : ByteArray) :
    Calls Tryd.prog 85 #[.pointer (some ⟨g, 0, none⟩), .string s] w (SignPost w0 g A c xs i e p t 4 s.toList w) := by
  have HR := Aside0.mk h
  have e2 := (blk_cell h.blk 2).trans rfl
  simp at e2
  by_cases he : e = 0
  · have hee : (e == 0) = true := beq_iff_eq.mpr he
    go_enter Tryd.func85, Tryd.ntmps85
    go_wp2_with fail
    clear e2
    refine (is_calls HR.out hn hi 4 s).mono ?_
    rintro en w1 ⟨hI, hB⟩
    replace HR := Aside0.mk (HR.out.after hB)
    have HK := Aside0.mk (KeepBut.of_below hB g none)
    clear hB h
    rcases hI with ⟨hy, rfl⟩ | ⟨hno, rfl⟩
    · have HY := Aside0.mk hy
      have e1 := (blk_cell HR.out.blk 1).trans rfl
      have z1 := blk_frozen HR.out.blk 1
      simp at e1
      clear hy
      go_wp2_with fail
      go_ret
      exact ⟨HK.out.set_ 1 _, .inl ⟨he, HY.out, rfl, HR.out.move (i + 1)⟩⟩
    · have HN := Aside0.mk hno
      clear hno
      go_wp2_with fail
      go_ret
      exact ⟨HK.out, .inr ⟨fun h => HN.out h.2, rfl, HR.out⟩⟩
  · have hee : (e == 0) = false := beq_eq_false_iff_ne.mpr he
    clear h
    go_enter Tryd.func85, Tryd.ntmps85
    go_wp2_with fail
    go_ret
    exact ⟨KeepBut.refl _ _ _, .inr ⟨fun h => he h.1, rfl, HR.out⟩⟩
set_option maxRecDepth 100000 in
set_option maxHeartbeats 3200000 in
theorem pkey_calls {w0 : World} {g : Nat} {A : Option Addr} {c : Nat} {xs : List S37} {i : Nat} {e p : Int} {t : ByteArray} {w : World} (h : RR w0 g A c xs i e p t w) (hn : xs.length ≤ 200000) (hi : i ≤ xs.length) (s : ByteArray) :
    Calls Tryd.prog 140 #[.pointer (some ⟨g, 0, none⟩), .string s] w (SignPost w0 g A c xs i e p t 3 s.toList w) := by
  have HR := Aside0.mk h
  have e2 := (blk_cell h.blk 2).trans rfl
  simp at e2
  by_cases he : e = 0
  · have hee : (e == 0) = true := beq_iff_eq.mpr he
    go_enter Tryd.func140, Tryd.ntmps140
    go_wp2_with fail
    clear e2
    refine (is_calls HR.out hn hi 3 s).mono ?_
    rintro en w1 ⟨hI, hB⟩
    replace HR := Aside0.mk (HR.out.after hB)
    have HK := Aside0.mk (KeepBut.of_below hB g none)
    clear hB h
    rcases hI with ⟨hy, rfl⟩ | ⟨hno, rfl⟩
    · have HY := Aside0.mk hy
      have e1 := (blk_cell HR.out.blk 1).trans rfl
      have z1 := blk_frozen HR.out.blk 1
      simp at e1
      clear hy
      go_wp2_with fail
      go_ret
      exact ⟨HK.out.set_ 1 _, .inl ⟨he, HY.out, rfl, HR.out.move (i + 1)⟩⟩
    · have HN := Aside0.mk hno
      clear hno
      go_wp2_with fail
      go_ret
      exact ⟨HK.out, .inr ⟨fun h => HN.out h.2, rfl, HR.out⟩⟩
  · have hee : (e == 0) = false := beq_eq_false_iff_ne.mpr he
    clear h
    go_enter Tryd.func140, Tryd.ntmps140
    go_wp2_with fail
    go_ret
    exact ⟨KeepBut.refl _ _ _, .inr ⟨fun h => he h.1, rfl, HR.out⟩⟩
end Go.Proofs.YtjmpejbciniceaaDoor.X
namespace Go.Proofs.YtjmpejbciniceaaDoor.X
open Go.RowKit Go.Proofs.YtjmpejbciniceaaDoorW.PrintWords Go.Proofs.YtjmpejbciniceaaDoorW.PrintLast Go.Proofs.YtjmpejbciniceaaDoorW.PrintMore
set_option linter.unusedVariables false
set_option linter.unusedSimpArgs false
theorem RR.fault {w0 : World} {g : Nat} {A : Option Addr} {c : Nat} {xs : List S37} {i : Nat} {e p : Int} {t : ByteArray} {w : World} (h : RR w0 g A c xs i e p t w) (e' p' : Int) (t' : ByteArray) :
    RR w0 g A c xs i e' p' t' (((w.setCell ⟨g, 2, none⟩ (.int .i64 e')).setCell ⟨g, 3, none⟩ (.int .i64 p')).setCell ⟨g, 4, none⟩ (.string t')) :=
  ⟨blk_put (cs := #[.slice A xs.length c, .int .i64 (i : Int), .int .i64 e', .int .i64 p', .string t]) (blk_put (cs := #[.slice A xs.length c, .int .i64 (i : Int), .int .i64 e', .int .i64 p, .string t]) (blk_put h.blk 2 _ (by simp)) 3 _ (by simp)) 4 _ (by simp), h.words, h.low, ((h.below.setCell (p := ⟨g, 2, none⟩) h.low _).setCell (p := ⟨g, 3, none⟩) h.low _).setCell (p := ⟨g, 4, none⟩) h.low _⟩
theorem RR.cells {w0 : World} {g : Nat} {A : Option Addr} {c : Nat} {xs : List S37} {i : Nat} {e p : Int} {t : ByteArray} {w : World} (h : RR w0 g A c xs i e p t w) :
    w.cell? ⟨g, 0, none⟩ = some (.slice A xs.length c) ∧ w.cell? ⟨g, 1, none⟩ = some (.int .i64 (i : Int)) ∧ w.cell? ⟨g, 2, none⟩ = some (.int .i64 e) ∧ w.cell? ⟨g, 3, none⟩ = some (.int .i64 p) ∧ w.cell? ⟨g, 4, none⟩ = some (.string t) :=
  ⟨(blk_cell h.blk 0).trans rfl, (blk_cell h.blk 1).trans rfl, (blk_cell h.blk 2).trans rfl, (blk_cell h.blk 3).trans rfl, (blk_cell h.blk 4).trans rfl⟩
def RWPost (w0 : World) (g : Nat) (A : Option Addr) (c : Nat) (xs : List S37) (i : Nat) (e p : Int) (t : ByteArray) (w : World) (en : Ending) (w' : World) : Prop := en = .returned (.tuple #[]) ∧ KeepBut w w' g none ∧ RR w0 g A c xs i e p t w'
theorem rwrong_done {w0 : World} {g : Nat} {A : Option Addr} {c : Nat} {xs : List S37} {i : Nat} {e p : Int} {t : ByteArray} {w : World} (h : RR w0 g A c xs i e p t w) (he : e ≠ 0) : Calls Tryd.prog 142 #[.pointer (some ⟨g, 0, none⟩)] w (RWPost w0 g A c xs i e p t w) := by
  obtain ⟨e0, e1, e2, e3, e4⟩ := h.cells
  have hee : (e != 0) = true := bne_iff_ne.mpr he
  have HR := Aside0.mk h
  clear h
  go_enter Tryd.func142, Tryd.ntmps142
  go_wp2_with fail
  go_end0
  exact ⟨rfl, KeepBut.refl _ _ _, HR.out⟩
set_option maxRecDepth 100000 in
set_option maxHeartbeats 3200000 in
theorem rwrong_at {w0 : World} {g : Nat} {A : Option Addr} {c : Nat} {xs : List S37} {i : Nat} {p : Int} {t : ByteArray} {w : World} (h : RR w0 g A c xs i 0 p t w) (hn : xs.length ≤ 200000) (hlt : i < xs.length) : Calls Tryd.prog 142 #[.pointer (some ⟨g, 0, none⟩)] w (RWPost w0 g A c xs i 40 (wrAt xs i) (wrWd xs i) w) := by
  have hx := List.getElem?_eq_getElem hlt
  obtain ⟨ad, rfl, _, x1, _, x3⟩ := word_at (Kd.C_below h.words h.below) i hlt _ hx
  have e1 : wrAt xs i = xs[i].f3 := by unfold wrAt; rw [hx]
  have e2 : wrWd xs i = xs[i].f1 := by unfold wrWd; rw [hx]
  rw [e1, e2]
  clear e1 e2 hx
  generalize xs[i].f3 = P at *
  generalize xs[i].f1 = T at *
  have hb4 : (ad.add (i * 4)).block < w.heap.size := World.block_lt_of_cell? w ⟨(ad.add (i * 4)).block, (ad.add (i * 4)).off + 1, none⟩ x1
  have HR := Aside0.mk h
  have X1 := Aside0.mk x1
  have X3 := Aside0.mk x3
  clear x1 x3
  have hltI : decide ((i : Int) < (xs.length : Int)) = true := decide_eq_true (by omega)
  have hgq : g < w.heap.size := blk_lt h.blk
  obtain ⟨e0, e1, e2, -, -⟩ := h.cells
  have hB := (Below.refl w.heap.size w).alloc (Nat.le_refl _) (.cells #[.int .i64 40, .int .i64 0, .string ⟨#[]⟩] 29)
  have KQ := Aside0.mk (heap_alloc_new w (.cells #[.int .i64 40, .int .i64 0, .string ⟨#[]⟩] 29))
  have HN := Aside0.mk (h.after hB)
  have HK := Aside0.mk (KeepBut.of_below hB g none)
  have HB := Aside0.mk hB
  clear h hB
  go_enter Tryd.func142, Tryd.ntmps142
  go_wp2_with fail
  clear e0 e1 e2
  generalize w.alloc (.cells #[.int .i64 40, .int .i64 0, .string ⟨#[]⟩] 29) = wa at *
  obtain ⟨e0, e1, e2, -, -⟩ := HN.out.cells
  refine wp_region_held_drew (S := fun w' => w'.cell? ⟨g, 0, none⟩ = some (.slice (some ad) xs.length c) ∧ w'.cell? ⟨g, 1, none⟩ = some (.int .i64 (i : Int))) (by kernel_rfl) ⟨e0, e1⟩ (fun hHeld => ?_)
  clear e0 e1 e2
  have hB := (Below.refl wa.heap.size wa).drew
  replace HN := Aside0.mk (HN.out.after hB)
  replace KQ := Aside0.mk (blk_below KQ.out hB)
  replace HK := Aside0.mk (HK.out.trans (KeepBut.of_below hB g none) (.inl rfl))
  replace HB := Aside0.mk (below_then HB.out HB.out.size hB)
  clear hB
  generalize wa.drew = wb at *
  refine tK 11 0 hHeld ?_
  refine tK 12 1 hHeld ?_
  refine tK 13 2 hHeld ?_
  refine tK 14 3 hHeld ?_
  refine tK 15 4 hHeld ?_
  refine tK 16 5 hHeld ?_
  refine tK 17 6 hHeld ?_
  refine tK 18 7 hHeld ?_
  refine tK 19 8 hHeld ?_
  refine tK 20 9 hHeld ?_
  try rw [hltI]
  refine wpAnyH_done (by kernel_rfl) ?_ _
  clear hHeld
  go_wp2_with fail
  obtain ⟨e0, e1, e2, -, -⟩ := HN.out.cells
  refine wp_region_held_drew (S := fun w' => (w'.cell? ⟨g, 0, none⟩ = some (.slice (some ad) xs.length c) ∧ w'.cell? ⟨g, 1, none⟩ = some (.int .i64 (i : Int))) ∧ w'.cell? ⟨(ad.add (i * 4)).block, (ad.add (i * 4)).off + 3, none⟩ = some (.int .i64 P)) (by kernel_rfl) ⟨⟨e0, e1⟩, pwc HB.out X3.out⟩ (fun hHeld => ?_)
  clear e0 e1 e2
  have hB := (Below.refl wb.heap.size wb).drew
  replace HN := Aside0.mk (HN.out.after hB)
  replace KQ := Aside0.mk (blk_below KQ.out hB)
  replace HK := Aside0.mk (HK.out.trans (KeepBut.of_below hB g none) (.inl rfl))
  replace HB := Aside0.mk (below_then HB.out HB.out.size hB)
  clear hB
  generalize wb.drew = wc at *
  refine tK 21 0 hHeld ?_
  refine tK 22 1 hHeld ?_
  refine tK 23 2 hHeld ?_
  refine tK 24 3 hHeld ?_
  refine tK 25 4 hHeld ?_
  refine tK 26 5 hHeld ?_
  refine tK 27 6 hHeld ?_
  refine tK 28 7 hHeld ?_
  refine takeH (d := some 29) (v := .pointer (some (ad.add (i * 4)))) 8 rfl rfl (by kernel_rfl) (by kernel_rfl) (by kernel_rfl) (fun _ _ _ h => h) (by rfl) (fun w hSw => by (try dsimp only at hSw); go_simp <;> first | done | (rw [if_pos (by omega)]) | (intro hcc; omega)) hHeld (nA ?_)
  refine tK 30 9 hHeld ?_
  refine tK 31 10 hHeld ?_
  refine tK 32 11 hHeld ?_
  have hmq0 := blk_lt KQ.out
  refine wpAnyH_ready (rs := [12]) (by kernel_rfl) (by simp) ?_
  refine AllReadyH.cons rfl (fun K hK => ?_) AllReadyH.nil
  have d := (blk_cell KQ.out 1).trans rfl
  have y := blk_frozen KQ.out 1
  simp at d
  go_simp
  clear d y
  have hf : ∀ (a : Addr) (u : Value), a.block < w.heap.size → wc.cell? a = some u → (wc.setCell ⟨w.heap.size, 1, none⟩ (.int .i64 P)).cell? a = some u := fun a u ha hu => by
    rw [World.cell?_setCell_far _ _ _ _ (by show w.heap.size ≠ a.block; omega)]
    exact hu
  refine hK.out _ _ ⟨⟨hf _ _ hgq hHeld.1.1, hf _ _ hgq hHeld.1.2⟩, hf _ _ hb4 hHeld.2⟩ (fun hHeld => nA ?_)
  clear hK K hf
  replace HN := Aside0.mk (HN.out.far ⟨w.heap.size, 1, none⟩ (.int .i64 P) (by show g ≠ w.heap.size; omega) (by have := HN.out.low; show _ ≤ w.heap.size; omega))
  replace HK := Aside0.mk (Go.Proofs.YtjmpejbciniceaaDoorW.PrintWords.keep_far HK.out (p := ⟨w.heap.size, 1, none⟩) (Nat.le_refl _) (.int .i64 P))
  replace HB := Aside0.mk (HB.out.setCell (p := ⟨w.heap.size, 1, none⟩) (Nat.le_refl _) (.int .i64 P))
  replace KQ : Aside0 ((wc.setCell ⟨w.heap.size, 1, none⟩ (.int .i64 P)).heap[w.heap.size]? = some (.cells #[.int .i64 40, .int .i64 P, .string ⟨#[]⟩] 29 (0, 0))) := .mk (blk_put KQ.out 1 _ (by simp))
  generalize wc.setCell ⟨w.heap.size, 1, none⟩ (.int .i64 P) = wd at *
  refine wpAnyH_done (by kernel_rfl) ?_ _
  clear hHeld
  go_wp2_with fail
  obtain ⟨e0, e1, e2, -, -⟩ := HN.out.cells
  refine wp_region_held_drew (S := fun w' => (w'.cell? ⟨g, 0, none⟩ = some (.slice (some ad) xs.length c) ∧ w'.cell? ⟨g, 1, none⟩ = some (.int .i64 (i : Int))) ∧ w'.cell? ⟨(ad.add (i * 4)).block, (ad.add (i * 4)).off + 1, none⟩ = some (.string T)) (by kernel_rfl) ⟨⟨e0, e1⟩, pwc HB.out X1.out⟩ (fun hHeld => ?_)
  clear e0 e1 e2
  have hB := (Below.refl wd.heap.size wd).drew
  replace HN := Aside0.mk (HN.out.after hB)
  replace KQ := Aside0.mk (blk_below KQ.out hB)
  replace HK := Aside0.mk (HK.out.trans (KeepBut.of_below hB g none) (.inl rfl))
  replace HB := Aside0.mk (below_then HB.out HB.out.size hB)
  clear hB
  generalize wd.drew = we at *
  refine tK 33 0 hHeld ?_
  refine tK 34 1 hHeld ?_
  refine tK 35 2 hHeld ?_
  refine tK 36 3 hHeld ?_
  refine tK 37 4 hHeld ?_
  refine tK 38 5 hHeld ?_
  refine tK 39 6 hHeld ?_
  refine tK 40 7 hHeld ?_
  refine takeH (d := some 41) (v := .pointer (some (ad.add (i * 4)))) 8 rfl rfl (by kernel_rfl) (by kernel_rfl) (by kernel_rfl) (fun _ _ _ h => h) (by rfl) (fun w hSw => by (try dsimp only at hSw); go_simp <;> first | done | (rw [if_pos (by omega)]) | (intro hcc; omega)) hHeld (nA ?_)
  refine tK 42 9 hHeld ?_
  refine tK 43 10 hHeld ?_
  refine tK 44 11 hHeld ?_
  have hmq0 := blk_lt KQ.out
  refine wpAnyH_ready (rs := [12]) (by kernel_rfl) (by simp) ?_
  refine AllReadyH.cons rfl (fun K hK => ?_) AllReadyH.nil
  have d := (blk_cell KQ.out 2).trans rfl
  have y := blk_frozen KQ.out 2
  simp at d
  go_simp
  clear d y
  have hf : ∀ (a : Addr) (u : Value), a.block < w.heap.size → we.cell? a = some u → (we.setCell ⟨w.heap.size, 2, none⟩ (.string T)).cell? a = some u := fun a u ha hu => by
    rw [World.cell?_setCell_far _ _ _ _ (by show w.heap.size ≠ a.block; omega)]
    exact hu
  refine hK.out _ _ ⟨⟨hf _ _ hgq hHeld.1.1, hf _ _ hgq hHeld.1.2⟩, hf _ _ hb4 hHeld.2⟩ (fun hHeld => nA ?_)
  clear hK K hf
  replace HN := Aside0.mk (HN.out.far ⟨w.heap.size, 2, none⟩ (.string T) (by show g ≠ w.heap.size; omega) (by have := HN.out.low; show _ ≤ w.heap.size; omega))
  replace HK := Aside0.mk (Go.Proofs.YtjmpejbciniceaaDoorW.PrintWords.keep_far HK.out (p := ⟨w.heap.size, 2, none⟩) (Nat.le_refl _) (.string T))
  replace HB := Aside0.mk (HB.out.setCell (p := ⟨w.heap.size, 2, none⟩) (Nat.le_refl _) (.string T))
  replace KQ : Aside0 ((we.setCell ⟨w.heap.size, 2, none⟩ (.string T)).heap[w.heap.size]? = some (.cells #[.int .i64 40, .int .i64 P, .string T] 29 (0, 0))) := .mk (blk_put KQ.out 2 _ (by simp))
  generalize we.setCell ⟨w.heap.size, 2, none⟩ (.string T) = wf at *
  refine wpAnyH_done (by kernel_rfl) ?_ _
  clear hHeld
  obtain ⟨-, -, e2, e3, e4⟩ := HN.out.cells
  have z2 := blk_frozen HN.out.blk 2
  have z3 := blk_frozen HN.out.blk 3
  have z4 := blk_frozen HN.out.blk 4
  have d0 := (blk_cell KQ.out 0).trans rfl
  have d1 := (blk_cell KQ.out 1).trans rfl
  have d2 := (blk_cell KQ.out 2).trans rfl
  simp at d0 d1 d2
  go_wp2_with fail
  go_end0
  exact ⟨rfl, ((HK.out.set_ 2 _).set_ 3 _).set_ 4 _, HN.out.fault _ _ _⟩
set_option maxRecDepth 100000 in
set_option maxHeartbeats 3200000 in
theorem rwrong_none {w0 : World} {g : Nat} {A : Option Addr} {c : Nat} {xs : List S37} {i : Nat} {p : Int} {t : ByteArray} {w : World} (h : RR w0 g A c xs i 0 p t w) (hn : xs.length ≤ 200000) (h0 : xs.length = 0) : Calls Tryd.prog 142 #[.pointer (some ⟨g, 0, none⟩)] w (RWPost w0 g A c xs i 40 0 ⟨#[]⟩ w) := by
  have HR := Aside0.mk h
  have hltI : decide ((i : Int) < 0) = false := decide_eq_false (by omega)
  have hgq : g < w.heap.size := blk_lt h.blk
  obtain ⟨e0, e1, e2, -, -⟩ := h.cells
  rw [h0] at e0
  have hB := (Below.refl w.heap.size w).alloc (Nat.le_refl _) (.cells #[.int .i64 40, .int .i64 0, .string ⟨#[]⟩] 29)
  have KQ := Aside0.mk (heap_alloc_new w (.cells #[.int .i64 40, .int .i64 0, .string ⟨#[]⟩] 29))
  have HN := Aside0.mk (h.after hB)
  have HK := Aside0.mk (KeepBut.of_below hB g none)
  have HB := Aside0.mk hB
  clear h hB
  go_enter Tryd.func142, Tryd.ntmps142
  go_wp2_with fail
  clear e0 e1 e2
  generalize w.alloc (.cells #[.int .i64 40, .int .i64 0, .string ⟨#[]⟩] 29) = wa at *
  obtain ⟨e0, e1, e2, -, -⟩ := HN.out.cells
  rw [h0] at e0
  refine wp_region_held_drew (S := fun w' => w'.cell? ⟨g, 0, none⟩ = some (.slice A 0 c) ∧ w'.cell? ⟨g, 1, none⟩ = some (.int .i64 (i : Int))) (by kernel_rfl) ⟨e0, e1⟩ (fun hHeld => ?_)
  clear e0 e1 e2
  have hB := (Below.refl wa.heap.size wa).drew
  replace HN := Aside0.mk (HN.out.after hB)
  replace KQ := Aside0.mk (blk_below KQ.out hB)
  replace HK := Aside0.mk (HK.out.trans (KeepBut.of_below hB g none) (.inl rfl))
  replace HB := Aside0.mk (below_then HB.out HB.out.size hB)
  clear hB
  generalize wa.drew = wb at *
  refine tK 11 0 hHeld ?_
  refine tK 12 1 hHeld ?_
  refine tK 13 2 hHeld ?_
  refine tK 14 3 hHeld ?_
  refine tK 15 4 hHeld ?_
  refine tK 16 5 hHeld ?_
  refine tK 17 6 hHeld ?_
  refine tK 18 7 hHeld ?_
  refine tK 19 8 hHeld ?_
  refine tK 20 9 hHeld ?_
  try rw [hltI]
  refine wpAnyH_done (by kernel_rfl) ?_ _
  clear hHeld
  obtain ⟨e0, -, -, -, -⟩ := HN.out.cells
  rw [h0] at e0
  obtain ⟨-, -, e2, e3, e4⟩ := HN.out.cells
  have z2 := blk_frozen HN.out.blk 2
  have z3 := blk_frozen HN.out.blk 3
  have z4 := blk_frozen HN.out.blk 4
  have d0 := (blk_cell KQ.out 0).trans rfl
  have d1 := (blk_cell KQ.out 1).trans rfl
  have d2 := (blk_cell KQ.out 2).trans rfl
  simp at d0 d1 d2
  go_wp2_with fail
  go_end0
  exact ⟨rfl, ((HK.out.set_ 2 _).set_ 3 _).set_ 4 _, HN.out.fault _ _ _⟩
set_option maxRecDepth 100000 in
set_option maxHeartbeats 3200000 in
theorem rwrong_past {w0 : World} {g : Nat} {A : Option Addr} {c : Nat} {xs : List S37} {i : Nat} {p : Int} {t : ByteArray} {w : World} {x : S37} (h : RR w0 g A c xs i 0 p t w) (hn : xs.length ≤ 200000) {m : Nat} (h0 : xs.length = m + 1) (hle : xs.length ≤ i) (hii : i ≤ 9223372036854775807) (hx : xs[m]? = some x) : Calls Tryd.prog 142 #[.pointer (some ⟨g, 0, none⟩)] w (RWPost w0 g A c xs i 40 (wrap64 (x.f3 + x.f1.size)) ⟨#[]⟩ w) := by
  obtain ⟨ad, rfl, x0, x1, x2, x3⟩ := word_at (Kd.C_below h.words h.below) m (by omega) _ hx
  have hb4 : (ad.add (m * 4)).block < w.heap.size := World.block_lt_of_cell? w ⟨(ad.add (m * 4)).block, (ad.add (m * 4)).off + 1, none⟩ x1
  clear hx
  obtain ⟨k, T, u, P⟩ := x
  simp only at x0 x1 x2 x3 ⊢
  have HR := Aside0.mk h
  have X0 := Aside0.mk x0
  have X1 := Aside0.mk x1
  have X2 := Aside0.mk x2
  have X3 := Aside0.mk x3
  clear x0 x1 x2 x3
  have hltI : decide ((i : Int) < ((m + 1 : Nat) : Int)) = false := decide_eq_false (by omega)
  have hgt : decide ((0 : Int) < ((m + 1 : Nat) : Int)) = true := decide_eq_true (by omega)
  have hwr : IntKind.i64.wrap (((m + 1 : Nat) : Int) - 1) = (m : Int) := by rw [IntWalk.i64_in _ (by omega)]; omega
  have hwr3 : IntKind.i64.wrap ((m : Int) + 1 - 1) = (m : Int) := by rw [IntWalk.i64_in _ (by omega)]; omega
  have hwr2 : IntKind.i64.wrap (m : Int) = (m : Int) := IntWalk.i64_in _ (by omega)
  have hgq : g < w.heap.size := blk_lt h.blk
  obtain ⟨e0, e1, e2, -, -⟩ := h.cells
  rw [h0] at e0
  have hB := (Below.refl w.heap.size w).alloc (Nat.le_refl _) (.cells #[.int .i64 40, .int .i64 0, .string ⟨#[]⟩] 29)
  have KQ := Aside0.mk (heap_alloc_new w (.cells #[.int .i64 40, .int .i64 0, .string ⟨#[]⟩] 29))
  have HN := Aside0.mk (h.after hB)
  have HK := Aside0.mk (KeepBut.of_below hB g none)
  have HB := Aside0.mk hB
  clear h hB
  go_enter Tryd.func142, Tryd.ntmps142
  go_wp2_with fail
  clear e0 e1 e2
  generalize w.alloc (.cells #[.int .i64 40, .int .i64 0, .string ⟨#[]⟩] 29) = wa at *
  obtain ⟨e0, e1, e2, -, -⟩ := HN.out.cells
  rw [h0] at e0
  refine wp_region_held_drew (S := fun w' => w'.cell? ⟨g, 0, none⟩ = some (.slice (some ad) (m + 1) c) ∧ w'.cell? ⟨g, 1, none⟩ = some (.int .i64 (i : Int))) (by kernel_rfl) ⟨e0, e1⟩ (fun hHeld => ?_)
  clear e0 e1 e2
  have hB := (Below.refl wa.heap.size wa).drew
  replace HN := Aside0.mk (HN.out.after hB)
  replace KQ := Aside0.mk (blk_below KQ.out hB)
  replace HK := Aside0.mk (HK.out.trans (KeepBut.of_below hB g none) (.inl rfl))
  replace HB := Aside0.mk (below_then HB.out HB.out.size hB)
  clear hB
  generalize wa.drew = wb at *
  refine tK 11 0 hHeld ?_
  refine tK 12 1 hHeld ?_
  refine tK 13 2 hHeld ?_
  refine tK 14 3 hHeld ?_
  refine tK 15 4 hHeld ?_
  refine tK 16 5 hHeld ?_
  refine tK 17 6 hHeld ?_
  refine tK 18 7 hHeld ?_
  refine tK 19 8 hHeld ?_
  refine tK 20 9 hHeld ?_
  try rw [hltI]
  refine wpAnyH_done (by kernel_rfl) ?_ _
  clear hHeld
  obtain ⟨e0, -, -, -, -⟩ := HN.out.cells
  rw [h0] at e0
  go_wp2_with fail
  clear e0
  obtain ⟨e0, e1, e2, -, -⟩ := HN.out.cells
  rw [h0] at e0
  refine wp_region_held_drew (S := fun w' => (w'.cell? ⟨g, 0, none⟩ = some (.slice (some ad) (m + 1) c) ∧ w'.cell? ⟨g, 1, none⟩ = some (.int .i64 (i : Int))) ∧ w'.cell? (ad.add (m * 4)) = some (.int .i8 k) ∧ w'.cell? ⟨(ad.add (m * 4)).block, (ad.add (m * 4)).off + 1, none⟩ = some (.string T) ∧ w'.cell? ⟨(ad.add (m * 4)).block, (ad.add (m * 4)).off + 2, none⟩ = some (.int .i64 u) ∧ w'.cell? ⟨(ad.add (m * 4)).block, (ad.add (m * 4)).off + 3, none⟩ = some (.int .i64 P)) (by kernel_rfl) ⟨⟨e0, e1⟩, pwc HB.out X0.out, pwc HB.out X1.out, pwc HB.out X2.out, pwc HB.out X3.out⟩ (fun hHeld => ?_)
  clear e0 e1 e2
  have hB := (Below.refl wb.heap.size wb).drew
  replace HN := Aside0.mk (HN.out.after hB)
  replace KQ := Aside0.mk (blk_below KQ.out hB)
  replace HK := Aside0.mk (HK.out.trans (KeepBut.of_below hB g none) (.inl rfl))
  replace HB := Aside0.mk (below_then HB.out HB.out.size hB)
  clear hB
  generalize wb.drew = wc at *
  refine tK 51 0 hHeld ?_
  refine tK 52 1 hHeld ?_
  refine tK 53 2 hHeld ?_
  refine tK 54 3 hHeld ?_
  refine tK 55 4 hHeld ?_
  refine tK 56 5 hHeld ?_
  refine tK 57 6 hHeld ?_
  refine tK 58 7 hHeld ?_
  refine tK 59 8 hHeld ?_
  refine tK 60 9 hHeld ?_
  refine takeH (d := some 61) (v := .pointer (some (ad.add (m * 4)))) 10 rfl rfl (by kernel_rfl) (by kernel_rfl) (by kernel_rfl) (fun _ _ _ h => h) (by rfl) (fun w hSw => by (try dsimp only at hSw); go_simp <;> first | done | (simp only [hwr2]; rw [if_pos (by omega)]; rfl) | (rw [if_pos (by omega)]) | (intro hcc; omega)) hHeld (nA ?_)
  refine tK 62 11 hHeld ?_
  have hmq0 := blk_lt KQ.out
  refine wpAnyH_ready (rs := [12]) (by kernel_rfl) (by simp) ?_
  refine AllReadyH.cons rfl (fun K hK => ?_) AllReadyH.nil
  go_simp
  have hB : Below wc.heap.size wc (wc.alloc (.cells #[.int .i8 0, .string ⟨#[]⟩, .int .i64 0, .int .i64 0] 37)) := (Below.refl _ _).alloc (Nat.le_refl _) _
  refine hK.out _ _ ⟨⟨pwc hB hHeld.1.1, pwc hB hHeld.1.2⟩, pwc hB hHeld.2.1, pwc hB hHeld.2.2.1, pwc hB hHeld.2.2.2.1, pwc hB hHeld.2.2.2.2⟩ (fun hHeld => nA ?_)
  clear hK K
  have KM := Aside0.mk (heap_alloc_new wc (.cells #[.int .i8 0, .string ⟨#[]⟩, .int .i64 0, .int .i64 0] 37))
  replace HN := Aside0.mk (HN.out.after hB)
  replace KQ := Aside0.mk (blk_below KQ.out hB)
  replace HK := Aside0.mk (HK.out.trans (KeepBut.of_below hB g none) (.inl rfl))
  replace HB := Aside0.mk (below_then HB.out HB.out.size hB)
  have hmq := blk_lt KQ.out
  clear hB
  have hws := HB.out.size
  have hqm : w.heap.size < wc.heap.size := by have := hmq0; omega
  generalize wc.alloc (.cells #[.int .i8 0, .string ⟨#[]⟩, .int .i64 0, .int .i64 0] 37) = wd at *
  generalize wc.heap.size = mb at *
  refine wpAnyH_ready (rs := [13]) (by kernel_rfl) (by simp) ?_
  refine AllReadyH.cons rfl (fun K hK => ?_) AllReadyH.nil
  have m0 := (blk_cell KM.out 0).trans rfl
  have n0 := blk_frozen KM.out 0
  have m1 := (blk_cell KM.out 1).trans rfl
  have n1 := blk_frozen KM.out 1
  have m2 := (blk_cell KM.out 2).trans rfl
  have n2 := blk_frozen KM.out 2
  have m3 := (blk_cell KM.out 3).trans rfl
  have n3 := blk_frozen KM.out 3
  simp at m0 m1 m2 m3
  go_simp
  clear m0 m1 m2 m3 n0 n1 n2 n3
  have hf : ∀ (a : Addr) (v : Value), a.block < w.heap.size → wd.cell? a = some v → ((((wd.setCell ⟨mb, 0, none⟩ (.int .i8 k)).setCell ⟨mb, 1, none⟩ (.string T)).setCell ⟨mb, 2, none⟩ (.int .i64 u)).setCell ⟨mb, 3, none⟩ (.int .i64 P)).cell? a = some v := fun a v ha hv => by
    rw [World.cell?_setCell_far _ _ _ _ (by show mb ≠ a.block; omega), World.cell?_setCell_far _ _ _ _ (by show mb ≠ a.block; omega), World.cell?_setCell_far _ _ _ _ (by show mb ≠ a.block; omega), World.cell?_setCell_far _ _ _ _ (by show mb ≠ a.block; omega)]
    exact hv
  refine hK.out _ _ ⟨⟨hf _ _ hgq hHeld.1.1, hf _ _ hgq hHeld.1.2⟩, hf _ _ hb4 hHeld.2.1, hf _ _ hb4 hHeld.2.2.1, hf _ _ hb4 hHeld.2.2.2.1, hf _ _ hb4 hHeld.2.2.2.2⟩ (fun hHeld => nA ?_)
  clear hK K hf hHeld
  replace HN := Aside0.mk (HN.out.far ⟨mb, 0, none⟩ (.int .i8 k) (by show g ≠ mb; omega) (by have := HN.out.low; show _ ≤ mb; omega))
  replace HK := Aside0.mk (Go.Proofs.YtjmpejbciniceaaDoorW.PrintWords.keep_far HK.out (p := ⟨mb, 0, none⟩) (by show _ ≤ mb; omega) (.int .i8 k))
  replace KQ := Aside0.mk (blk_far KQ.out (p := ⟨mb, 0, none⟩) (by show _ ≠ mb; omega) (.int .i8 k))
  replace HN := Aside0.mk (HN.out.far ⟨mb, 1, none⟩ (.string T) (by show g ≠ mb; omega) (by have := HN.out.low; show _ ≤ mb; omega))
  replace HK := Aside0.mk (Go.Proofs.YtjmpejbciniceaaDoorW.PrintWords.keep_far HK.out (p := ⟨mb, 1, none⟩) (by show _ ≤ mb; omega) (.string T))
  replace KQ := Aside0.mk (blk_far KQ.out (p := ⟨mb, 1, none⟩) (by show _ ≠ mb; omega) (.string T))
  replace HN := Aside0.mk (HN.out.far ⟨mb, 2, none⟩ (.int .i64 u) (by show g ≠ mb; omega) (by have := HN.out.low; show _ ≤ mb; omega))
  replace HK := Aside0.mk (Go.Proofs.YtjmpejbciniceaaDoorW.PrintWords.keep_far HK.out (p := ⟨mb, 2, none⟩) (by show _ ≤ mb; omega) (.int .i64 u))
  replace KQ := Aside0.mk (blk_far KQ.out (p := ⟨mb, 2, none⟩) (by show _ ≠ mb; omega) (.int .i64 u))
  replace HN := Aside0.mk (HN.out.far ⟨mb, 3, none⟩ (.int .i64 P) (by show g ≠ mb; omega) (by have := HN.out.low; show _ ≤ mb; omega))
  replace HK := Aside0.mk (Go.Proofs.YtjmpejbciniceaaDoorW.PrintWords.keep_far HK.out (p := ⟨mb, 3, none⟩) (by show _ ≤ mb; omega) (.int .i64 P))
  replace KQ := Aside0.mk (blk_far KQ.out (p := ⟨mb, 3, none⟩) (by show _ ≠ mb; omega) (.int .i64 P))
  replace KM : Aside0 (((((wd.setCell ⟨mb, 0, none⟩ (.int .i8 k)).setCell ⟨mb, 1, none⟩ (.string T)).setCell ⟨mb, 2, none⟩ (.int .i64 u)).setCell ⟨mb, 3, none⟩ (.int .i64 P)).heap[mb]? = some (.cells #[.int .i8 k, .string T, .int .i64 u, .int .i64 P] 37 (0, 0))) := .mk (blk_put (cs := #[.int .i8 k, .string T, .int .i64 u, .int .i64 0]) (blk_put (cs := #[.int .i8 k, .string T, .int .i64 0, .int .i64 0]) (blk_put (cs := #[.int .i8 k, .string ⟨#[]⟩, .int .i64 0, .int .i64 0]) (blk_put KM.out 0 _ (by simp)) 1 _ (by simp)) 2 _ (by simp)) 3 _ (by simp))
  clear HB
  generalize (((wd.setCell ⟨mb, 0, none⟩ (.int .i8 k)).setCell ⟨mb, 1, none⟩ (.string T)).setCell ⟨mb, 2, none⟩ (.int .i64 u)).setCell ⟨mb, 3, none⟩ (.int .i64 P) = we at *
  refine wpAnyH_done (by kernel_rfl) ?_ _
  have m1 := (blk_cell KM.out 1).trans rfl
  have m3 := (blk_cell KM.out 3).trans rfl
  simp at m1 m3
  have dd := (blk_cell KQ.out 1).trans rfl
  have yy := blk_frozen KQ.out 1
  simp at dd
  have KQ2 := Aside0.mk (blk_put (cs' := #[.int .i64 40, .int .i64 (wrap64 (P + T.size)), .string ⟨#[]⟩]) KQ.out 1 (.int .i64 (wrap64 (P + T.size))) (by simp))
  have HN2 := Aside0.mk (HN.out.far ⟨w.heap.size, 1, none⟩ (.int .i64 (wrap64 (P + T.size))) (by show g ≠ w.heap.size; omega) (by have := HN.out.low; show _ ≤ w.heap.size; omega))
  have HK2 := Aside0.mk (Go.Proofs.YtjmpejbciniceaaDoorW.PrintWords.keep_far HK.out (p := ⟨w.heap.size, 1, none⟩) (Nat.le_refl _) (.int .i64 (wrap64 (P + T.size))))
  clear KQ HN HK
  obtain ⟨-, -, e2, e3, e4⟩ := HN2.out.cells
  have z2 := blk_frozen HN2.out.blk 2
  have z3 := blk_frozen HN2.out.blk 3
  have z4 := blk_frozen HN2.out.blk 4
  have d0 := (blk_cell KQ2.out 0).trans rfl
  have d1 := (blk_cell KQ2.out 1).trans rfl
  have d2 := (blk_cell KQ2.out 2).trans rfl
  simp at d0 d1 d2
  go_wp2_with fail
  go_end0
  exact ⟨rfl, ((HK2.out.set_ 2 _).set_ 3 _).set_ 4 _, HN2.out.fault _ _ _⟩
theorem rwrong_calls {w0 : World} {g : Nat} {A : Option Addr} {c : Nat} {xs : List S37} {i : Nat} {e p : Int} {t : ByteArray} {w : World} (h : RR w0 g A c xs i e p t w) (hn : xs.length ≤ 200000) (hi : i ≤ xs.length) :
    Calls Tryd.prog 142 #[.pointer (some ⟨g, 0, none⟩)] w fun en w' => en = .returned (.tuple #[]) ∧ KeepBut w w' g none ∧ ((e ≠ 0 ∧ RR w0 g A c xs i e p t w') ∨ (e = 0 ∧ RR w0 g A c xs i 40 (wrAt xs i) (wrWd xs i) w')) := by
  by_cases he : e = 0
  · subst he
    by_cases h0 : xs.length = 0
    · have e1 : wrAt xs i = 0 := by rw [List.eq_nil_of_length_eq_zero h0]; rfl
      have e2 : wrWd xs i = ⟨#[]⟩ := by rw [List.eq_nil_of_length_eq_zero h0]; rfl
      rw [e1, e2]
      exact (rwrong_none h hn h0).mono fun _ _ k => ⟨k.1, k.2.1, .inr ⟨rfl, k.2.2⟩⟩
    · by_cases hlt : i < xs.length
      · exact (rwrong_at h hn hlt).mono fun _ _ k => ⟨k.1, k.2.1, .inr ⟨rfl, k.2.2⟩⟩
      · obtain ⟨m, hm⟩ : ∃ m, xs.length = m + 1 := ⟨xs.length - 1, by omega⟩
        have hl : m < xs.length := by omega
        have hx := List.getElem?_eq_getElem hl
        have hz : xs[i]? = none := List.getElem?_eq_none (by omega)
        have e1 : wrAt xs i = wrap64 (xs[m].f3 + xs[m].f1.size) := by unfold wrAt; rw [hz, List.getLast?_eq_getElem?, hm, Nat.add_sub_cancel, hx]
        have e2 : wrWd xs i = ⟨#[]⟩ := by unfold wrWd; rw [hz]
        rw [e1, e2]
        exact (rwrong_past h hn hm (by omega) (by omega) hx).mono fun _ _ k => ⟨k.1, k.2.1, .inr ⟨rfl, k.2.2⟩⟩
  · exact (rwrong_done h he).mono fun _ _ k => ⟨k.1, k.2.1, .inl ⟨he, k.2.2⟩⟩
set_option maxRecDepth 100000 in
set_option maxHeartbeats 3200000 in
theorem rwant_calls {w0 : World} {g : Nat} {A : Option Addr} {c : Nat} {xs : List S37} {i : Nat} {e p : Int} {t : ByteArray} {w : World} (h : RR w0 g A c xs i e p t w) (hn : xs.length ≤ 200000) (hi : i ≤ xs.length) (s : ByteArray) :
    Calls Tryd.prog 141 #[.pointer (some ⟨g, 0, none⟩), .string s] w fun en w' => en = .returned (.tuple #[]) ∧ KeepBut w w' g none ∧ ((e ≠ 0 ∧ RR w0 g A c xs i e p t w') ∨ (e = 0 ∧ nextIs xs i 4 s.toList ∧ RR w0 g A c xs (i + 1) e p t w') ∨ (e = 0 ∧ ¬ nextIs xs i 4 s.toList ∧ RR w0 g A c xs i 40 (wrAt xs i) (wrWd xs i) w')) := by
  have HR := Aside0.mk h
  clear h
  go_enter Tryd.func141, Tryd.ntmps141
  go_wp2_with fail
  refine (psign_calls HR.out hn hi s).mono ?_
  rintro en w1 ⟨hK, ⟨he, hy, rfl, hR⟩ | ⟨hno, rfl, hR⟩⟩
  · have HK := Aside0.mk hK
    have HY := Aside0.mk hy
    replace HR := Aside0.mk hR
    clear hK hy hR
    go_wp2_with fail
    go_end0
    exact ⟨rfl, HK.out, .inr (.inl ⟨he, HY.out, HR.out⟩)⟩
  · have HK := Aside0.mk hK
    have HN := Aside0.mk hno
    replace HR := Aside0.mk hR
    clear hK hno hR
    go_wp2_with fail
    refine (rwrong_calls HR.out hn hi).mono ?_
    rintro en w2 ⟨rfl, hK, hp⟩
    replace HK := Aside0.mk (HK.out.trans hK (.inl rfl))
    have HP := Aside0.mk hp
    clear hK hp
    go_wp2_with fail
    go_end0
    refine ⟨rfl, HK.out, ?_⟩
    rcases HP.out with ⟨he, hr⟩ | ⟨he, hr⟩
    · exact .inl ⟨he, hr⟩
    · exact .inr (.inr ⟨he, fun h => HN.out ⟨he, h⟩, hr⟩)
end Go.Proofs.YtjmpejbciniceaaDoor.X
namespace Go.Proofs.YtjmpejbciniceaaDoor.X
open Go.RowKit Go.Proofs.YtjmpejbciniceaaDoorW.PrintWords Go.Proofs.YtjmpejbciniceaaDoorW.PrintLast Go.Proofs.YtjmpejbciniceaaDoorW.PrintMore
set_option linter.unusedVariables false
set_option linter.unusedSimpArgs false
theorem C_two {w : World} {g : Nat} {a b : S43} {Aa Ab : Option Addr} {ca cb : Nat} {cap : Nat} {t : TypeId}
    (hb : w.heap[g]? = some (.cells #[.int .i8 a.f0, .slice Aa a.f1.length ca, .int .i8 b.f0, .slice Ab b.f1.length cb] t (0, 0))) (ha1 : a.f1.length ≤ ca) (hb1 : b.f1.length ≤ cb)
    (hca : Kd.C k43 w Aa a.f1.length a.f1) (hcb : Kd.C k43 w Ab b.f1.length b.f1) : Kd.C k43 w (some ⟨g, 0, none⟩) 2 [a, b] := by
  have hc := blk_cell hb
  refine ⟨rfl, by omega, fun _ => ⟨_, rfl, fun j p hj => ?_⟩⟩
  match j, hj with
  | 0, hj =>
    obtain rfl : a = p := by simpa using hj
    refine ⟨_, rfl, k43_mk w a ha1 hca, fun i u hu => ?_⟩
    match i, hu with
    | 0, hu => simpa [Addr.add] using (hc 0).trans hu
    | 1, hu => simpa [Addr.add] using (hc 1).trans hu
  | 1, hj =>
    obtain rfl : b = p := by simpa using hj
    refine ⟨_, rfl, k43_mk w b hb1 hcb, fun i u hu => ?_⟩
    match i, hu with
    | 0, hu => simpa [Addr.add, k43, Kd.fix] using (hc 2).trans hu
    | 1, hu => simpa [Addr.add, k43, Kd.fix] using (hc 3).trans hu
set_option maxHeartbeats 800000 in
theorem Of_calls {k : Int} {a b : S43} {va vb : Value} {w : World} (ha : IsT w va a) (hb : IsT w vb b) :
    Calls Tryd.prog 30 #[.int .i8 k, va, vb] w fun e w' => ∃ v, e = .returned v ∧ IsT w' v ⟨k, [a, b]⟩ ∧ Below w.heap.size w w' := by
  obtain ⟨Aa, ca, rfl, ha1, ha2⟩ := ha
  obtain ⟨Ab, cb, rfl, hb1, hb2⟩ := hb
  have HA := Aside0.mk ha2
  have HB := Aside0.mk hb2
  clear ha2 hb2
  have hB4 : Below w.heap.size w ((((w.alloc (.cells #[.int .i8 a.f0, .slice Aa a.f1.length ca] 43)).alloc (.cells #[.int .i8 b.f0, .slice Ab b.f1.length cb] 43)).alloc (.cells #[.int .i8 k, .slice (some ⟨w.heap.size + 1 + 1 + 1, 0, none⟩) 2 2] 43)).alloc (.cells #[.int .i8 a.f0, .slice Aa a.f1.length ca, .int .i8 b.f0, .slice Ab b.f1.length cb] 43)) :=
    ((((Below.refl _ _).alloc (Nat.le_refl _) _).alloc (by simp) _).alloc (by simp; omega) _).alloc (by simp; omega) _
  have hb4 := heap_alloc_new (((w.alloc (.cells #[.int .i8 a.f0, .slice Aa a.f1.length ca] 43)).alloc (.cells #[.int .i8 b.f0, .slice Ab b.f1.length cb] 43)).alloc (.cells #[.int .i8 k, .slice (some ⟨w.heap.size + 1 + 1 + 1, 0, none⟩) 2 2] 43)) (.cells #[.int .i8 a.f0, .slice Aa a.f1.length ca, .int .i8 b.f0, .slice Ab b.f1.length cb] 43)
  have hT := C_two (cap := 0) hb4 ha1 hb1 (Kd.C_below HA.out hB4) (Kd.C_below HB.out hB4)
  have HT := Aside0.mk hT
  have HB4 := Aside0.mk hB4
  clear hT hB4 hb4 HA HB
  go_enter Tryd.func30, Tryd.ntmps30
  go_wp2
  refine bodyPost_ret (v := .agg #[.int .i8 k, .slice (some ⟨w.heap.size + 1 + 1 + 1, 0, none⟩) 2 2]) (by simp [results, Tryd.results30, go_sem]) rfl ⟨_, rfl, ⟨_, _, rfl, by simp, ?_⟩, HB4.out⟩
  simpa using HT.out
end Go.Proofs.YtjmpejbciniceaaDoor.X
