/- The walk of the law ScanParted. -/
import Derived.Test.YtjmpejbciniceaaWkScanAhead
import Derived.Test.YtjmpejbciniceaaPureParted
namespace Go.Proofs.Ytjmpejbciniceaa.X
open Go.RowKit Go.Proofs.YtjmpejbciniceaaW.PrintWords Go.Proofs.YtjmpejbciniceaaW.PrintLast Go.Proofs.YtjmpejbciniceaaW.PrintMore
set_option linter.unusedVariables false
set_option linter.unusedSimpArgs false

/-- The cells of the j-th word. -/
theorem at_word {w : World} {A : Option Addr} {n : Nat} {xs : List S29} (h : Kd.C k29 w A n xs) (j : Nat) (hj : j < n) (x : S29) (hx : xs[j]? = some x) : ∃ ad, A = some ad ∧ w.cell? (ad.add (j * 4)) = some (.int .i8 x.f0) ∧ w.cell? ⟨(ad.add (j * 4)).block, (ad.add (j * 4)).off + 1, none⟩ = some (.string x.f1) ∧ w.cell? ⟨(ad.add (j * 4)).block, (ad.add (j * 4)).off + 2, none⟩ = some (.int .i64 x.f2) ∧ w.cell? ⟨(ad.add (j * 4)).block, (ad.add (j * 4)).off + 3, none⟩ = some (.int .i64 x.f3) := by
  obtain ⟨ad, e, h0, h1, h2, h3⟩ := at_T29 h (j : Int) (by omega) (by omega)
  have er : rd_T29 xs (j : Int) = x := by
    unfold rd_T29
    rw [List.getD_eq_getElem?_getD, show ((j : Int)).toNat = j from rfl, hx]
    rfl
  rw [er] at h0 h1 h2 h3
  exact ⟨ad, e, h0, h1, h2, h3⟩
theorem at_end {w : World} {A : Option Addr} {N : Nat} {ws : List SWord} (h : Kd.C k29 w A (ws.length + 1) (ws.map wv ++ [endV N])) : ∃ ad, A = some ad ∧ w.cell? (ad.add (ws.length * 4)) = some (.int .i8 0) ∧ w.cell? ⟨(ad.add (ws.length * 4)).block, (ad.add (ws.length * 4)).off + 3, none⟩ = some (.int .i64 (N : Int)) := by
  obtain ⟨ad, e, h0, h1, h2, h3⟩ := at_word h ws.length (by omega) (endV N) (by rw [List.getElem?_append_right (by simp)]; simp)
  exact ⟨ad, e, h0, h3⟩
theorem bytes_join (a b : List UInt8) : bytesS (a ++ (b ++ [32])) = bytesS a ++ (bytesS b ++ (⟨#[32]⟩ : ByteArray)) := by
  apply ByteArray.ext
  apply Array.ext'
  simp [bytesS]
theorem cut_text {t : ByteArray} {x : SWord} (h : (t.data.toList.drop x.pos).take x.text.length = x.text) : t.extract x.pos (x.pos + (bytesS x.text).size) = bytesS x.text := by
  apply ByteArray.ext
  apply Array.ext'
  have e : (bytesS x.text).size = x.text.length := rfl
  rw [e]
  simp only [ByteArray.data_extract, Array.toList_extract, bytesS, List.extract_eq_take_drop]
  rw [Nat.add_sub_cancel_left]
  exact h
set_option maxRecDepth 100000 in
set_option maxHeartbeats 3200000 in
theorem parted_walk (t : ByteArray) (w : World) (ht : t.size ≤ 140737488351232) : Calls Try.prog 3 #[.string t] w fun e w' => e = .returned (.bool true) ∧ Below w.heap.size w w' := by
  go_enter Try.func3, Try.ntmps3
  go_wp2_with fail
  refine (all_calls _ _).mono ?_
  cases hr : scanAll t with
  | error y =>
    clear hr
    intro e w1 hp
    obtain ⟨q, rfl, hB⟩ := all_error hp
    have HB := Aside0.mk hB
    clear hp hB
    go_wp2_with fail
    go_ret
    exact ⟨rfl, HB.out⟩
  | ok ws =>
    have hts : t.size ≤ 65536 := by unfold scanAll at hr; split at hr <;> first | (simp at hr; done) | omega
    have hP : partedR t.data.toList 0 ws := by
      unfold scanAll at hr
      rw [if_neg (by omega)] at hr
      apply parted_scan
      simpa using hr
    have HP := Aside0.mk hP
    have hn := all_len hr
    clear hr hP
    intro e w1 hp
    obtain ⟨A1, c1, rfl, hR, hB⟩ := all_ok hp
    have HB := Aside0.mk hB
    have hC := (Kd.R_reads' hR).2
    rw [show (ws.map wv ++ [endV t.size]).length = ws.length + 1 from by simp] at hC
    have hc1 := hC.1
    obtain ⟨ad, rfl, x0, x3⟩ := at_end hC.2
    have HC := Aside0.mk hC.2
    have HR := Aside0.mk hR
    clear hp hB hR hC
    generalize hnn : ws.length = n at *
    have HNN := Aside0.mk hnn
    clear hnn
    have q1 : IntKind.i64.wrap ((n : Int) + 1 - 1) = (n : Int) := by rw [IntWalk.i64_in _ (by omega)]; omega
    go_wp2_with fail
    clear q1 x0 x3
    go_loopw [5, 6, 53] (fun at5 jo i wr => ∃ (a j : Nat), at5 = .int .i64 a ∧ i = .int .i64 j ∧ jo = .string (bytesS (joinR (ws.take j))) ∧ j ≤ n ∧ a ≤ t.size ∧ (joinR (ws.take j)).length ≤ a + j ∧ (j < n → ∃ b, partedR t.data.toList b (ws.drop j) ∧ a ≤ b) ∧ Below w1.heap.size w1 wr) (fun _ _ i _ => n - (intOf i).toNat)
    case atStart => exact ⟨0, 0, rfl, rfl, rfl, Nat.zero_le _, Nat.zero_le _, Nat.le_refl _, fun _ => ⟨0, HP.out, Nat.le_refl _⟩, Below.refl _ _⟩
    case round =>
      obtain ⟨a, j, rfl, rfl, rfl, hj, hat, hjl2, hpt, hB⟩ := hrel
      have HB1 := Aside0.mk hB
      clear hB
      by_cases hlt : j < n
      · obtain ⟨b, hb1, hb2⟩ := hpt hlt
        have hjl : j < ws.length := by rw [HNN.out]; exact hlt
        have hd : ws.drop j = ws[j] :: ws.drop (j + 1) := List.drop_eq_getElem_cons hjl
        have hg : (ws.map wv ++ [endV t.size])[j]? = some (wv (ws[j]'hjl)) := by
          rw [List.getElem?_append_left (by simpa using hjl), List.getElem?_map, List.getElem?_eq_getElem hjl]
          rfl
        have htk : joinR (ws.take (j + 1)) = joinR (ws.take j) ++ ((ws[j]'hjl).text ++ [32]) := by
          rw [List.take_add_one, List.getElem?_eq_getElem hjl, join_append]
          simp [joinR]
        rw [hd] at hb1
        generalize ws[j]'hjl = x at *
        obtain ⟨h1, h2, h3, h4⟩ := hb1
        obtain ⟨t1, t2, t3⟩ := parted_text h2 h3
        have HX := Aside0.mk (cut_text t3)
        have HTK := Aside0.mk htk
        have H4 := Aside0.mk h4
        have hlen : (bytesS x.text).size = x.text.length := rfl
        have hne : 0 < (bytesS x.text).size := by rw [hlen]; exact List.length_pos_iff.2 t1
        have hpos : x.pos + (bytesS x.text).size ≤ t.size := by rw [hlen]; simpa using t2
        obtain ⟨ad', e', x0, x1, x2, x3⟩ := at_word (Kd.C_below HC.out HB1.out) j (by omega) (wv x) hg
        injection e' with e'
        subst e'
        dsimp only [wv] at x0 x1 x2 x3
        have hap : a ≤ x.pos := by omega
        clear hd hg htk h1 h2 h3 h4 t1 t2 t3 hpt hb2
        generalize hT : bytesS x.text = T at *
        have HT := Aside0.mk hT
        have HTZ := Aside0.mk hlen
        clear hT hlen
        generalize x.pos = P at *
        generalize x.kind = K at *
        generalize ((x.num : Nat) : Int) = M at *
        go_wp2_with fail
        have hcl := heap_alloc_new wr (.cells #[.int .i8 K, .string T, .int .i64 M, .int .i64 (P : Int)] 29)
        have hBA : Below w1.heap.size w1 (wr.alloc (.cells #[.int .i8 K, .string T, .int .i64 M, .int .i64 (P : Int)] 29)) := HB1.out.alloc HB1.out.size _
        have HBA := Aside0.mk hBA
        clear hBA x0 x1 x2 x3 HB1
        generalize wr.alloc (.cells #[.int .i8 K, .string T, .int .i64 M, .int .i64 (P : Int)] 29) = wa at *
        generalize wr.heap.size = g at *
        have HCL := Aside0.mk hcl
        clear hcl
        refine wp_region_held_drew (S := fun w' => w'.cell? ⟨g, 1, none⟩ = some (.string T) ∧ w'.cell? ⟨g, 3, none⟩ = some (.int .i64 (P : Int))) (by kernel_rfl) ⟨(blk_cell HCL.out 1).trans rfl, (blk_cell HCL.out 3).trans rfl⟩ (fun hHeld => ?_)
        replace HCL := Aside0.mk (blk_below HCL.out (Below.refl _ _).drew)
        replace HBA := Aside0.mk (below_then HBA.out HBA.out.size (Below.refl _ _).drew)
        generalize wa.drew = wd at *
        have hW : IntKind.i64.wrap ((t.size : Int) - (T.size : Int)) = (t.size : Int) - (T.size : Int) := IntWalk.i64_in _ (by omega)
        have W17 := Aside0.mk hW
        clear hW
        have hW : IntKind.i64.wrap ((P : Int) + (T.size : Int)) = (P : Int) + (T.size : Int) := IntWalk.i64_in _ (by omega)
        have W29 := Aside0.mk hW
        clear hW
        have HSL : Aside0 (∀ wx, (Instr.slice 9 (.string t) (some (.int .i64 (P : Int))) (some (.int .i64 ((P : Int) + (T.size : Int)))) none).run Try.prog wx = .ok (.string T) wx) := .mk (fun wx => (run_slice_string (P := Try.prog) wx 9 t .i64 .i64 (P : Int) ((P : Int) + (T.size : Int)) Try.underlying9 (by omega) (by omega) (by omega)).trans (by rw [show (P : Int).toNat = P from rfl, show ((P : Int) + (T.size : Int)).toNat = P + T.size from rfl, HX.out]))
        have HTE : Aside0 (¬T.toList = []) := .mk (by
          rw [bytes_toList]
          intro h
          have h2 : T.data.toList.length = 0 := by rw [h]; rfl
          have h3 : T.data.toList.length = T.size := by simp
          omega)
        refine takeH (d := some 57) (v := ?_) 0 rfl rfl (by kernel_rfl) (by kernel_rfl) (by kernel_rfl) (fun _ _ _ h => h) (by rfl) ?_ hHeld ?_
        rotate_left
        · intro w hSw
          try dsimp only at hSw
          go_simp <;> with_reducible rfl
        try simp only [Act.put, List.setIfInBounds_toArray, List.set_cons_zero, List.set_cons_succ]
        refine takeH (d := some 58) (v := ?_) 1 rfl rfl (by kernel_rfl) (by kernel_rfl) (by kernel_rfl) (fun _ _ _ h => h) (by rfl) ?_ hHeld ?_
        rotate_left
        · intro w hSw
          try dsimp only at hSw
          go_simp <;> with_reducible rfl
        try simp only [Act.put, List.setIfInBounds_toArray, List.set_cons_zero, List.set_cons_succ]
        refine takeH (d := some 59) (v := ?_) 2 rfl rfl (by kernel_rfl) (by kernel_rfl) (by kernel_rfl) (fun _ _ _ h => h) (by rfl) ?_ hHeld ?_
        rotate_left
        · intro w hSw
          try dsimp only at hSw
          go_simp <;> with_reducible rfl
        try simp only [Act.put, List.setIfInBounds_toArray, List.set_cons_zero, List.set_cons_succ]
        refine takeH (d := some 60) (v := .bool false) 3 rfl rfl (by kernel_rfl) (by kernel_rfl) (by kernel_rfl) (fun _ _ _ h => h) (by rfl) (fun w hSw => by (try dsimp only at hSw); go_simp; first | done | omega | rw [decide_eq_false (by omega)]) hHeld ?_
        try simp only [Act.put, List.setIfInBounds_toArray, List.set_cons_zero, List.set_cons_succ]
        refine takeH (d := some 61) (v := ?_) 4 rfl rfl (by kernel_rfl) (by kernel_rfl) (by kernel_rfl) (fun _ _ _ h => h) (by rfl) ?_ hHeld ?_
        rotate_left
        · intro w hSw
          try dsimp only at hSw
          go_simp <;> with_reducible rfl
        try simp only [Act.put, List.setIfInBounds_toArray, List.set_cons_zero, List.set_cons_succ]
        refine takeH (d := some 62) (v := ?_) 5 rfl rfl (by kernel_rfl) (by kernel_rfl) (by kernel_rfl) (fun _ _ _ h => h) (by rfl) ?_ hHeld ?_
        rotate_left
        · intro w hSw
          try dsimp only at hSw
          go_simp <;> with_reducible rfl
        try simp only [Act.put, List.setIfInBounds_toArray, List.set_cons_zero, List.set_cons_succ]
        refine takeH (d := some 63) (v := ?_) 6 rfl rfl (by kernel_rfl) (by kernel_rfl) (by kernel_rfl) (fun _ _ _ h => h) (by rfl) ?_ hHeld ?_
        rotate_left
        · intro w hSw
          try dsimp only at hSw
          go_simp <;> with_reducible rfl
        try simp only [Act.put, List.setIfInBounds_toArray, List.set_cons_zero, List.set_cons_succ]
        refine takeH (d := some 64) (v := .bool false) 7 rfl rfl (by kernel_rfl) (by kernel_rfl) (by kernel_rfl) (fun _ _ _ h => h) (by rfl) (fun w hSw => by (try dsimp only at hSw); go_simp; exact HTE.out) hHeld ?_
        try simp only [Act.put, List.setIfInBounds_toArray, List.set_cons_zero, List.set_cons_succ]
        refine takeH (d := some 65) (v := ?_) 8 rfl rfl (by kernel_rfl) (by kernel_rfl) (by kernel_rfl) (fun _ _ _ h => h) (by rfl) ?_ hHeld ?_
        rotate_left
        · intro w hSw
          try dsimp only at hSw
          go_simp <;> with_reducible rfl
        try simp only [Act.put, List.setIfInBounds_toArray, List.set_cons_zero, List.set_cons_succ]
        refine takeH (d := some 66) (v := ?_) 9 rfl rfl (by kernel_rfl) (by kernel_rfl) (by kernel_rfl) (fun _ _ _ h => h) (by rfl) ?_ hHeld ?_
        rotate_left
        · intro w hSw
          try dsimp only at hSw
          go_simp <;> with_reducible rfl
        try simp only [Act.put, List.setIfInBounds_toArray, List.set_cons_zero, List.set_cons_succ]
        refine takeH (d := some 67) (v := ?_) 10 rfl rfl (by kernel_rfl) (by kernel_rfl) (by kernel_rfl) (fun _ _ _ h => h) (by rfl) ?_ hHeld ?_
        rotate_left
        · intro w hSw
          try dsimp only at hSw
          go_simp <;> with_reducible rfl
        try simp only [Act.put, List.setIfInBounds_toArray, List.set_cons_zero, List.set_cons_succ]
        refine takeH (d := some 68) (v := ?_) 11 rfl rfl (by kernel_rfl) (by kernel_rfl) (by kernel_rfl) (fun _ _ _ h => h) (by rfl) ?_ hHeld ?_
        rotate_left
        · intro w hSw
          try dsimp only at hSw
          go_simp <;> with_reducible rfl
        try simp only [Act.put, List.setIfInBounds_toArray, List.set_cons_zero, List.set_cons_succ]
        refine takeH (d := some 69) (v := ?_) 12 rfl rfl (by kernel_rfl) (by kernel_rfl) (by kernel_rfl) (fun _ _ _ h => h) (by rfl) ?_ hHeld ?_
        rotate_left
        · intro w hSw
          try dsimp only at hSw
          go_simp <;> with_reducible rfl
        try simp only [Act.put, List.setIfInBounds_toArray, List.set_cons_zero, List.set_cons_succ]
        refine takeH (d := some 70) (v := ?_) 13 rfl rfl (by kernel_rfl) (by kernel_rfl) (by kernel_rfl) (fun _ _ _ h => h) (by rfl) ?_ hHeld ?_
        rotate_left
        · intro w hSw
          try dsimp only at hSw
          go_simp <;> with_reducible rfl
        try simp only [Act.put, List.setIfInBounds_toArray, List.set_cons_zero, List.set_cons_succ]
        refine takeH (d := some 71) (v := ?_) 14 rfl rfl (by kernel_rfl) (by kernel_rfl) (by kernel_rfl) (fun _ _ _ h => h) (by rfl) ?_ hHeld ?_
        rotate_left
        · intro w hSw
          try dsimp only at hSw
          go_simp <;> with_reducible rfl
        try simp only [Act.put, List.setIfInBounds_toArray, List.set_cons_zero, List.set_cons_succ]
        refine takeH (d := some 72) (v := ?_) 15 rfl rfl (by kernel_rfl) (by kernel_rfl) (by kernel_rfl) (fun _ _ _ h => h) (by rfl) ?_ hHeld ?_
        rotate_left
        · intro w hSw
          try dsimp only at hSw
          go_simp <;> with_reducible rfl
        try simp only [Act.put, List.setIfInBounds_toArray, List.set_cons_zero, List.set_cons_succ]
        refine takeH (d := some 73) (v := ?_) 16 rfl rfl (by kernel_rfl) (by kernel_rfl) (by kernel_rfl) (fun _ _ _ h => h) (by rfl) ?_ hHeld ?_
        rotate_left
        · intro w hSw
          try dsimp only at hSw
          go_simp <;> with_reducible rfl
        try simp only [Act.put, List.setIfInBounds_toArray, List.set_cons_zero, List.set_cons_succ]
        refine takeH (d := some 74) (v := .int .i64 ((t.size : Int) - (T.size : Int))) 17 rfl rfl (by kernel_rfl) (by kernel_rfl) (by kernel_rfl) (fun _ _ _ h => h) (by rfl) (fun w hSw => by (try dsimp only at hSw); go_simp; rw [W17.out]) hHeld ?_
        try simp only [Act.put, List.setIfInBounds_toArray, List.set_cons_zero, List.set_cons_succ]
        refine takeH (d := some 75) (v := .bool false) 18 rfl rfl (by kernel_rfl) (by kernel_rfl) (by kernel_rfl) (fun _ _ _ h => h) (by rfl) (fun w hSw => by (try dsimp only at hSw); go_simp; first | done | omega | rw [decide_eq_false (by omega)]) hHeld ?_
        try simp only [Act.put, List.setIfInBounds_toArray, List.set_cons_zero, List.set_cons_succ]
        refine takeH (d := some 76) (v := ?_) 19 rfl rfl (by kernel_rfl) (by kernel_rfl) (by kernel_rfl) (fun _ _ _ h => h) (by rfl) ?_ hHeld ?_
        rotate_left
        · intro w hSw
          try dsimp only at hSw
          go_simp <;> with_reducible rfl
        try simp only [Act.put, List.setIfInBounds_toArray, List.set_cons_zero, List.set_cons_succ]
        refine takeH (d := some 77) (v := ?_) 20 rfl rfl (by kernel_rfl) (by kernel_rfl) (by kernel_rfl) (fun _ _ _ h => h) (by rfl) ?_ hHeld ?_
        rotate_left
        · intro w hSw
          try dsimp only at hSw
          go_simp <;> with_reducible rfl
        try simp only [Act.put, List.setIfInBounds_toArray, List.set_cons_zero, List.set_cons_succ]
        refine takeH (d := some 78) (v := ?_) 21 rfl rfl (by kernel_rfl) (by kernel_rfl) (by kernel_rfl) (fun _ _ _ h => h) (by rfl) ?_ hHeld ?_
        rotate_left
        · intro w hSw
          try dsimp only at hSw
          go_simp <;> with_reducible rfl
        try simp only [Act.put, List.setIfInBounds_toArray, List.set_cons_zero, List.set_cons_succ]
        refine takeH (d := some 79) (v := ?_) 22 rfl rfl (by kernel_rfl) (by kernel_rfl) (by kernel_rfl) (fun _ _ _ h => h) (by rfl) ?_ hHeld ?_
        rotate_left
        · intro w hSw
          try dsimp only at hSw
          go_simp <;> with_reducible rfl
        try simp only [Act.put, List.setIfInBounds_toArray, List.set_cons_zero, List.set_cons_succ]
        refine takeH (d := some 80) (v := ?_) 23 rfl rfl (by kernel_rfl) (by kernel_rfl) (by kernel_rfl) (fun _ _ _ h => h) (by rfl) ?_ hHeld ?_
        rotate_left
        · intro w hSw
          try dsimp only at hSw
          go_simp <;> with_reducible rfl
        try simp only [Act.put, List.setIfInBounds_toArray, List.set_cons_zero, List.set_cons_succ]
        refine takeH (d := some 81) (v := ?_) 24 rfl rfl (by kernel_rfl) (by kernel_rfl) (by kernel_rfl) (fun _ _ _ h => h) (by rfl) ?_ hHeld ?_
        rotate_left
        · intro w hSw
          try dsimp only at hSw
          go_simp <;> with_reducible rfl
        try simp only [Act.put, List.setIfInBounds_toArray, List.set_cons_zero, List.set_cons_succ]
        refine takeH (d := some 82) (v := ?_) 25 rfl rfl (by kernel_rfl) (by kernel_rfl) (by kernel_rfl) (fun _ _ _ h => h) (by rfl) ?_ hHeld ?_
        rotate_left
        · intro w hSw
          try dsimp only at hSw
          go_simp <;> with_reducible rfl
        try simp only [Act.put, List.setIfInBounds_toArray, List.set_cons_zero, List.set_cons_succ]
        refine takeH (d := some 83) (v := ?_) 26 rfl rfl (by kernel_rfl) (by kernel_rfl) (by kernel_rfl) (fun _ _ _ h => h) (by rfl) ?_ hHeld ?_
        rotate_left
        · intro w hSw
          try dsimp only at hSw
          go_simp <;> with_reducible rfl
        try simp only [Act.put, List.setIfInBounds_toArray, List.set_cons_zero, List.set_cons_succ]
        refine takeH (d := some 84) (v := ?_) 27 rfl rfl (by kernel_rfl) (by kernel_rfl) (by kernel_rfl) (fun _ _ _ h => h) (by rfl) ?_ hHeld ?_
        rotate_left
        · intro w hSw
          try dsimp only at hSw
          go_simp <;> with_reducible rfl
        try simp only [Act.put, List.setIfInBounds_toArray, List.set_cons_zero, List.set_cons_succ]
        refine takeH (d := some 85) (v := ?_) 28 rfl rfl (by kernel_rfl) (by kernel_rfl) (by kernel_rfl) (fun _ _ _ h => h) (by rfl) ?_ hHeld ?_
        rotate_left
        · intro w hSw
          try dsimp only at hSw
          go_simp <;> with_reducible rfl
        try simp only [Act.put, List.setIfInBounds_toArray, List.set_cons_zero, List.set_cons_succ]
        refine takeH (d := some 86) (v := .int .i64 ((P : Int) + (T.size : Int))) 29 rfl rfl (by kernel_rfl) (by kernel_rfl) (by kernel_rfl) (fun _ _ _ h => h) (by rfl) (fun w hSw => by (try dsimp only at hSw); go_simp; rw [W29.out]) hHeld ?_
        try simp only [Act.put, List.setIfInBounds_toArray, List.set_cons_zero, List.set_cons_succ]
        refine takeH (d := some 87) (v := .string T) 30 rfl rfl (by kernel_rfl) (by kernel_rfl) (by kernel_rfl) (fun _ _ _ h => h) (by rfl) (fun w hSw => by (try dsimp only at hSw); go_simp; rw [HSL.out]; rfl) hHeld ?_
        try simp only [Act.put, List.setIfInBounds_toArray, List.set_cons_zero, List.set_cons_succ]
        refine takeH (d := some 88) (v := ?_) 31 rfl rfl (by kernel_rfl) (by kernel_rfl) (by kernel_rfl) (fun _ _ _ h => h) (by rfl) ?_ hHeld ?_
        rotate_left
        · intro w hSw
          try dsimp only at hSw
          go_simp <;> with_reducible rfl
        try simp only [Act.put, List.setIfInBounds_toArray, List.set_cons_zero, List.set_cons_succ]
        refine takeH (d := some 89) (v := ?_) 32 rfl rfl (by kernel_rfl) (by kernel_rfl) (by kernel_rfl) (fun _ _ _ h => h) (by rfl) ?_ hHeld ?_
        rotate_left
        · intro w hSw
          try dsimp only at hSw
          go_simp <;> with_reducible rfl
        try simp only [Act.put, List.setIfInBounds_toArray, List.set_cons_zero, List.set_cons_succ]
        refine takeH (d := some 90) (v := .bool false) 33 rfl rfl (by kernel_rfl) (by kernel_rfl) (by kernel_rfl) (fun _ _ _ h => h) (by rfl) (fun w hSw => by (try dsimp only at hSw); go_simp) hHeld ?_
        try simp only [Act.put, List.setIfInBounds_toArray, List.set_cons_zero, List.set_cons_succ]
        refine takeH (d := some 91) (v := ?_) 34 rfl rfl (by kernel_rfl) (by kernel_rfl) (by kernel_rfl) (fun _ _ _ h => h) (by rfl) ?_ hHeld ?_
        rotate_left
        · intro w hSw
          try dsimp only at hSw
          go_simp <;> with_reducible rfl
        try simp only [Act.put, List.setIfInBounds_toArray, List.set_cons_zero, List.set_cons_succ]
        refine wpAnyH_done (by kernel_rfl) ?_ _
        clear hHeld
        have e1 := (blk_cell HCL.out 1).trans rfl
        have e3 := (blk_cell HCL.out 3).trans rfl
        simp at e1 e3
        have hjz : (bytesS (joinR (ws.take j))).size = (joinR (ws.take j)).length := rfl
        go_wp2_with fail
        go_roundw
        case rel => exact ⟨P + T.size, j + 1, by go_num, by go_num, by rw [HTK.out, bytes_join, HT.out], hlt, hpos, by rw [HTK.out]; have := HTZ.out; simp at hjl2 ⊢; omega, fun _ => ⟨_, H4.out, by rw [HTZ.out]; exact Nat.le_refl _⟩, HBA.out⟩
        case measure => simp [intOf]; omega
      · obtain rfl : j = n := by omega
        have hz : joinR (ws.take j) = joinR ws := by rw [List.take_of_length_le (by rw [HNN.out]; exact Nat.le_refl _)]
        rw [hz] at hjl2 ⊢
        have hzs : (bytesS (joinR ws)).size = (joinR ws).length := rfl
        have hzl : (bytesS (joinR ws)).data.toList = joinR ws := by simp [bytesS]
        have hAG := parted_again HP.out (joinR ws).length
        have HLAW : Aside0 (∀ r, scanAll (bytesS (joinR ws)) = r → (65536 < (bytesS (joinR ws)).size ∧ ∃ e, r = .error e) ∨ (¬ 65536 < (bytesS (joinR ws)).size ∧ ∃ vs, r = .ok vs ∧ AllSame vs ws)) := .mk (by
          rintro r rfl
          unfold scanAll
          by_cases hb : 65536 < (bytesS (joinR ws)).size
          · exact .inl ⟨hb, _, by rw [if_pos hb]⟩
          · obtain ⟨vs, h1, h2⟩ := hAG
            exact .inr ⟨hb, vs, by rw [if_neg hb, hzl, hzs, h1], h2⟩)
        clear hz hzl hAG hpt
        generalize bytesS (joinR ws) = z at *
        go_wp2_with fail
        refine (all_calls _ _).mono ?_
        rcases HLAW.out _ rfl with ⟨hb, e, hr⟩ | ⟨hb, vs, hr, hsame⟩
        · rw [hr]
          clear hr HLAW
          intro e w2 hp
          obtain ⟨q, rfl, hB⟩ := all_error hp
          have HB2 := Aside0.mk (below_then HB1.out HB1.out.size hB)
          clear hp hB
          go_wp2_with fail
          go_ret
          exact ⟨rfl, below_then HB.out HB.out.size HB2.out⟩
        · rw [hr]
          have HS := Aside0.mk hsame
          have hvl : vs.length = j := by rw [same_len hsame, HNN.out]
          clear hr HLAW hsame
          intro e w2 hp
          obtain ⟨A2, c2, rfl, hR2, hB⟩ := all_ok hp
          rw [hvl] at hR2 ⊢
          have HB2 := Aside0.mk (below_then HB1.out HB1.out.size hB)
          have HR2 := Aside0.mk hR2
          clear hp hB hR2
          have q1 : IntKind.i64.wrap ((j : Int) + 1 - 1) = (j : Int) := by rw [IntWalk.i64_in _ (by omega)]; omega
          have q2 := (Kd.R_reads' HR2.out).2.1
          go_wp2_with fail
          clear q1
          have HC2 := Aside0.mk (Kd.R_reads' HR2.out).2.2
          have hCW : Kd.C k29 w2 (some ad) (j + 1) (ws.map wv ++ [endV t.size]) := Kd.C_below HC.out HB2.out
          have HCW := Aside0.mk hCW
          have HVL := Aside0.mk hvl
          clear hCW hvl
          go_loopw [129] (fun i wr => ∃ k : Nat, i = .int .i64 k ∧ k ≤ j ∧ Below w2.heap.size w2 wr) (fun i _ => j - (intOf i).toNat)
          case atStart => exact ⟨0, rfl, Nat.zero_le _, Below.refl _ _⟩
          case round =>
            obtain ⟨k, rfl, hk, hB⟩ := hrel
            have HB3 := Aside0.mk hB
            clear hB
            by_cases hkl : k < j
            · have h1 : k < ws.length := by rw [HNN.out]; exact hkl
              have h2 : k < vs.length := by rw [HVL.out]; exact hkl
              have hg1 : (ws.map wv ++ [endV t.size])[k]? = some (wv (ws[k]'h1)) := by
                rw [List.getElem?_append_left (by simpa using h1), List.getElem?_map, List.getElem?_eq_getElem h1]
                rfl
              have hg2 : (vs.map wv ++ [endV z.size])[k]? = some (wv (vs[k]'h2)) := by
                rw [List.getElem?_append_left (by simpa using h2), List.getElem?_map, List.getElem?_eq_getElem h2]
                rfl
              obtain ⟨s1, s2, s3⟩ := same_get HS.out k h2 h1
              obtain ⟨ad', e', x0, x1, x2, x3⟩ := at_word (Kd.C_below HCW.out HB3.out) k (by omega) _ hg1
              injection e' with e'
              subst e'
              obtain ⟨ad2, rfl, y0, y1, y2, y3⟩ := at_word (Kd.C_below HC2.out HB3.out) k (by simp; omega) _ hg2
              dsimp only [wv] at x0 x1 x2 x3 y0 y1 y2 y3
              rw [s1] at y0
              rw [s2] at y1
              rw [s3] at y2
              clear hg1 hg2 s1 s2 s3
              generalize (ws[k]'h1).kind = K at *
              generalize bytesS (ws[k]'h1).text = T at *
              generalize (((ws[k]'h1).num : Nat) : Int) = M at *
              generalize (((vs[k]'h2).pos : Nat) : Int) = P at *
              clear x3
              go_wp2_with fail
              have hcl := heap_alloc_new wr (.cells #[.int .i8 K, .string T, .int .i64 M, .int .i64 P] 29)
              have hBA : Below w2.heap.size w2 (wr.alloc (.cells #[.int .i8 K, .string T, .int .i64 M, .int .i64 P] 29)) := HB3.out.alloc HB3.out.size _
              have hBW : Below wr.heap.size wr (wr.alloc (.cells #[.int .i8 K, .string T, .int .i64 M, .int .i64 P] 29)) := (Below.refl _ _).alloc (Nat.le_refl _) _
              have HBA := Aside0.mk hBA
              clear hBA y0 y1 y2 y3
              replace x0 := (hBW.cell (World.block_lt_of_cell? wr _ x0)).trans x0
              replace x1 := (hBW.cell (World.block_lt_of_cell? wr _ x1)).trans x1
              replace x2 := (hBW.cell (World.block_lt_of_cell? wr _ x2)).trans x2
              clear hBW HB3
              generalize wr.alloc (.cells #[.int .i8 K, .string T, .int .i64 M, .int .i64 P] 29) = wa at *
              generalize wr.heap.size = g at *
              have HCL := Aside0.mk hcl
              clear hcl
              refine wp_region_held_drew (S := fun w' => (w'.cell? ⟨g, 0, none⟩ = some (.int .i8 K) ∧ w'.cell? ⟨g, 1, none⟩ = some (.string T) ∧ w'.cell? ⟨g, 2, none⟩ = some (.int .i64 M)) ∧ w'.cell? (ad.add (k * 4)) = some (.int .i8 K) ∧ w'.cell? ⟨(ad.add (k * 4)).block, (ad.add (k * 4)).off + 1, none⟩ = some (.string T) ∧ w'.cell? ⟨(ad.add (k * 4)).block, (ad.add (k * 4)).off + 2, none⟩ = some (.int .i64 M)) (by kernel_rfl) ⟨⟨(blk_cell HCL.out 0).trans rfl, (blk_cell HCL.out 1).trans rfl, (blk_cell HCL.out 2).trans rfl⟩, x0, x1, x2⟩ (fun hHeld => ?_)
              clear x0 x1 x2
              replace HBA := Aside0.mk (below_then HBA.out HBA.out.size (Below.refl _ _).drew)
              generalize wa.drew = wd at *
              refine takeH (d := some 134) (v := ?_) 0 rfl rfl (by kernel_rfl) (by kernel_rfl) (by kernel_rfl) (fun _ _ _ h => h) (by rfl) ?_ hHeld ?_
              rotate_left
              · intro w hSw
                try dsimp only at hSw
                go_simp <;> with_reducible rfl
              try simp only [Act.put, List.setIfInBounds_toArray, List.set_cons_zero, List.set_cons_succ]
              refine takeH (d := some 135) (v := ?_) 1 rfl rfl (by kernel_rfl) (by kernel_rfl) (by kernel_rfl) (fun _ _ _ h => h) (by rfl) ?_ hHeld ?_
              rotate_left
              · intro w hSw
                try dsimp only at hSw
                go_simp <;> with_reducible rfl
              try simp only [Act.put, List.setIfInBounds_toArray, List.set_cons_zero, List.set_cons_succ]
              refine takeH (d := some 136) (v := ?_) 2 rfl rfl (by kernel_rfl) (by kernel_rfl) (by kernel_rfl) (fun _ _ _ h => h) (by rfl) ?_ hHeld ?_
              rotate_left
              · intro w hSw
                try dsimp only at hSw
                go_simp <;> with_reducible rfl
              try simp only [Act.put, List.setIfInBounds_toArray, List.set_cons_zero, List.set_cons_succ]
              refine takeH (d := some 137) (v := ?_) 3 rfl rfl (by kernel_rfl) (by kernel_rfl) (by kernel_rfl) (fun _ _ _ h => h) (by rfl) ?_ hHeld ?_
              rotate_left
              · intro w hSw
                try dsimp only at hSw
                go_simp <;> with_reducible rfl
              try simp only [Act.put, List.setIfInBounds_toArray, List.set_cons_zero, List.set_cons_succ]
              refine takeH (d := some 138) (v := .pointer (some (ad.add (k * 4)))) 4 rfl rfl (by kernel_rfl) (by kernel_rfl) (by kernel_rfl) (fun _ _ _ h => h) (by rfl) (fun w hSw => by (try dsimp only at hSw); go_simp; first | (rw [if_pos (by omega)]) | (intro hcc; omega)) hHeld ?_
              try simp only [Act.put, List.setIfInBounds_toArray, List.set_cons_zero, List.set_cons_succ]
              refine takeH (d := some 139) (v := ?_) 5 rfl rfl (by kernel_rfl) (by kernel_rfl) (by kernel_rfl) (fun _ _ _ h => h) (by rfl) ?_ hHeld ?_
              rotate_left
              · intro w hSw
                try dsimp only at hSw
                go_simp <;> with_reducible rfl
              try simp only [Act.put, List.setIfInBounds_toArray, List.set_cons_zero, List.set_cons_succ]
              refine takeH (d := some 140) (v := ?_) 6 rfl rfl (by kernel_rfl) (by kernel_rfl) (by kernel_rfl) (fun _ _ _ h => h) (by rfl) ?_ hHeld ?_
              rotate_left
              · intro w hSw
                try dsimp only at hSw
                go_simp <;> with_reducible rfl
              try simp only [Act.put, List.setIfInBounds_toArray, List.set_cons_zero, List.set_cons_succ]
              refine takeH (d := some 141) (v := .bool false) 7 rfl rfl (by kernel_rfl) (by kernel_rfl) (by kernel_rfl) (fun _ _ _ h => h) (by rfl) (fun w hSw => by (try dsimp only at hSw); go_simp) hHeld ?_
              try simp only [Act.put, List.setIfInBounds_toArray, List.set_cons_zero, List.set_cons_succ]
              refine takeH (d := some 142) (v := ?_) 8 rfl rfl (by kernel_rfl) (by kernel_rfl) (by kernel_rfl) (fun _ _ _ h => h) (by rfl) ?_ hHeld ?_
              rotate_left
              · intro w hSw
                try dsimp only at hSw
                go_simp <;> with_reducible rfl
              try simp only [Act.put, List.setIfInBounds_toArray, List.set_cons_zero, List.set_cons_succ]
              refine takeH (d := some 143) (v := ?_) 9 rfl rfl (by kernel_rfl) (by kernel_rfl) (by kernel_rfl) (fun _ _ _ h => h) (by rfl) ?_ hHeld ?_
              rotate_left
              · intro w hSw
                try dsimp only at hSw
                go_simp <;> with_reducible rfl
              try simp only [Act.put, List.setIfInBounds_toArray, List.set_cons_zero, List.set_cons_succ]
              refine takeH (d := some 144) (v := ?_) 10 rfl rfl (by kernel_rfl) (by kernel_rfl) (by kernel_rfl) (fun _ _ _ h => h) (by rfl) ?_ hHeld ?_
              rotate_left
              · intro w hSw
                try dsimp only at hSw
                go_simp <;> with_reducible rfl
              try simp only [Act.put, List.setIfInBounds_toArray, List.set_cons_zero, List.set_cons_succ]
              refine takeH (d := some 145) (v := ?_) 11 rfl rfl (by kernel_rfl) (by kernel_rfl) (by kernel_rfl) (fun _ _ _ h => h) (by rfl) ?_ hHeld ?_
              rotate_left
              · intro w hSw
                try dsimp only at hSw
                go_simp <;> with_reducible rfl
              try simp only [Act.put, List.setIfInBounds_toArray, List.set_cons_zero, List.set_cons_succ]
              refine takeH (d := some 146) (v := ?_) 12 rfl rfl (by kernel_rfl) (by kernel_rfl) (by kernel_rfl) (fun _ _ _ h => h) (by rfl) ?_ hHeld ?_
              rotate_left
              · intro w hSw
                try dsimp only at hSw
                go_simp <;> with_reducible rfl
              try simp only [Act.put, List.setIfInBounds_toArray, List.set_cons_zero, List.set_cons_succ]
              refine takeH (d := some 147) (v := .pointer (some (ad.add (k * 4)))) 13 rfl rfl (by kernel_rfl) (by kernel_rfl) (by kernel_rfl) (fun _ _ _ h => h) (by rfl) (fun w hSw => by (try dsimp only at hSw); go_simp; first | (rw [if_pos (by omega)]) | (intro hcc; omega)) hHeld ?_
              try simp only [Act.put, List.setIfInBounds_toArray, List.set_cons_zero, List.set_cons_succ]
              refine takeH (d := some 148) (v := ?_) 14 rfl rfl (by kernel_rfl) (by kernel_rfl) (by kernel_rfl) (fun _ _ _ h => h) (by rfl) ?_ hHeld ?_
              rotate_left
              · intro w hSw
                try dsimp only at hSw
                go_simp <;> with_reducible rfl
              try simp only [Act.put, List.setIfInBounds_toArray, List.set_cons_zero, List.set_cons_succ]
              refine takeH (d := some 149) (v := ?_) 15 rfl rfl (by kernel_rfl) (by kernel_rfl) (by kernel_rfl) (fun _ _ _ h => h) (by rfl) ?_ hHeld ?_
              rotate_left
              · intro w hSw
                try dsimp only at hSw
                go_simp <;> with_reducible rfl
              try simp only [Act.put, List.setIfInBounds_toArray, List.set_cons_zero, List.set_cons_succ]
              refine takeH (d := some 150) (v := .bool false) 16 rfl rfl (by kernel_rfl) (by kernel_rfl) (by kernel_rfl) (fun _ _ _ h => h) (by rfl) (fun w hSw => by (try dsimp only at hSw); go_simp) hHeld ?_
              try simp only [Act.put, List.setIfInBounds_toArray, List.set_cons_zero, List.set_cons_succ]
              refine takeH (d := some 151) (v := ?_) 17 rfl rfl (by kernel_rfl) (by kernel_rfl) (by kernel_rfl) (fun _ _ _ h => h) (by rfl) ?_ hHeld ?_
              rotate_left
              · intro w hSw
                try dsimp only at hSw
                go_simp <;> with_reducible rfl
              try simp only [Act.put, List.setIfInBounds_toArray, List.set_cons_zero, List.set_cons_succ]
              refine takeH (d := some 152) (v := ?_) 18 rfl rfl (by kernel_rfl) (by kernel_rfl) (by kernel_rfl) (fun _ _ _ h => h) (by rfl) ?_ hHeld ?_
              rotate_left
              · intro w hSw
                try dsimp only at hSw
                go_simp <;> with_reducible rfl
              try simp only [Act.put, List.setIfInBounds_toArray, List.set_cons_zero, List.set_cons_succ]
              refine takeH (d := some 153) (v := ?_) 19 rfl rfl (by kernel_rfl) (by kernel_rfl) (by kernel_rfl) (fun _ _ _ h => h) (by rfl) ?_ hHeld ?_
              rotate_left
              · intro w hSw
                try dsimp only at hSw
                go_simp <;> with_reducible rfl
              try simp only [Act.put, List.setIfInBounds_toArray, List.set_cons_zero, List.set_cons_succ]
              refine takeH (d := some 154) (v := ?_) 20 rfl rfl (by kernel_rfl) (by kernel_rfl) (by kernel_rfl) (fun _ _ _ h => h) (by rfl) ?_ hHeld ?_
              rotate_left
              · intro w hSw
                try dsimp only at hSw
                go_simp <;> with_reducible rfl
              try simp only [Act.put, List.setIfInBounds_toArray, List.set_cons_zero, List.set_cons_succ]
              refine takeH (d := some 155) (v := ?_) 21 rfl rfl (by kernel_rfl) (by kernel_rfl) (by kernel_rfl) (fun _ _ _ h => h) (by rfl) ?_ hHeld ?_
              rotate_left
              · intro w hSw
                try dsimp only at hSw
                go_simp <;> with_reducible rfl
              try simp only [Act.put, List.setIfInBounds_toArray, List.set_cons_zero, List.set_cons_succ]
              refine takeH (d := some 156) (v := ?_) 22 rfl rfl (by kernel_rfl) (by kernel_rfl) (by kernel_rfl) (fun _ _ _ h => h) (by rfl) ?_ hHeld ?_
              rotate_left
              · intro w hSw
                try dsimp only at hSw
                go_simp <;> with_reducible rfl
              try simp only [Act.put, List.setIfInBounds_toArray, List.set_cons_zero, List.set_cons_succ]
              refine takeH (d := some 157) (v := .pointer (some (ad.add (k * 4)))) 23 rfl rfl (by kernel_rfl) (by kernel_rfl) (by kernel_rfl) (fun _ _ _ h => h) (by rfl) (fun w hSw => by (try dsimp only at hSw); go_simp; first | (rw [if_pos (by omega)]) | (intro hcc; omega)) hHeld ?_
              try simp only [Act.put, List.setIfInBounds_toArray, List.set_cons_zero, List.set_cons_succ]
              refine takeH (d := some 158) (v := ?_) 24 rfl rfl (by kernel_rfl) (by kernel_rfl) (by kernel_rfl) (fun _ _ _ h => h) (by rfl) ?_ hHeld ?_
              rotate_left
              · intro w hSw
                try dsimp only at hSw
                go_simp <;> with_reducible rfl
              try simp only [Act.put, List.setIfInBounds_toArray, List.set_cons_zero, List.set_cons_succ]
              refine takeH (d := some 159) (v := ?_) 25 rfl rfl (by kernel_rfl) (by kernel_rfl) (by kernel_rfl) (fun _ _ _ h => h) (by rfl) ?_ hHeld ?_
              rotate_left
              · intro w hSw
                try dsimp only at hSw
                go_simp <;> with_reducible rfl
              try simp only [Act.put, List.setIfInBounds_toArray, List.set_cons_zero, List.set_cons_succ]
              refine takeH (d := some 160) (v := .bool false) 26 rfl rfl (by kernel_rfl) (by kernel_rfl) (by kernel_rfl) (fun _ _ _ h => h) (by rfl) (fun w hSw => by (try dsimp only at hSw); go_simp) hHeld ?_
              try simp only [Act.put, List.setIfInBounds_toArray, List.set_cons_zero, List.set_cons_succ]
              refine takeH (d := some 161) (v := ?_) 27 rfl rfl (by kernel_rfl) (by kernel_rfl) (by kernel_rfl) (fun _ _ _ h => h) (by rfl) ?_ hHeld ?_
              rotate_left
              · intro w hSw
                try dsimp only at hSw
                go_simp <;> with_reducible rfl
              try simp only [Act.put, List.setIfInBounds_toArray, List.set_cons_zero, List.set_cons_succ]
              refine wpAnyH_done (by kernel_rfl) ?_ _
              clear hHeld
              go_wp2_with fail
              go_roundw
              case rel => exact ⟨k + 1, by go_num, hkl, HBA.out⟩
              case measure => simp [intOf]; omega
            · obtain rfl : k = j := by omega
              go_wp2_with fail
              go_ret
              exact ⟨rfl, below_then HB.out HB.out.size (below_then HB2.out HB2.out.size HB3.out)⟩
end Go.Proofs.Ytjmpejbciniceaa.X
