/- The contract of scan's method word: signs. -/
import Derived.Test.YtjmpejbciniceaaDoorHWord
namespace Go.Proofs.YtjmpejbciniceaaDoor.X
open Go.RowKit Go.Proofs.YtjmpejbciniceaaDoorW.PrintWords Go.Proofs.YtjmpejbciniceaaDoorW.PrintLast Go.Proofs.YtjmpejbciniceaaDoorW.PrintMore
set_option linter.unusedVariables false
set_option linter.unusedSimpArgs false

set_option maxRecDepth 100000 in
set_option maxHeartbeats 3200000 in
theorem word_signsA {w0 : World} {g : Nat} {s : ByteArray} {a : Nat} {v : Value} {ws : List S37} {w : World} {q : Int} {c : UInt8} (HR : Aside0 (Rd w0 g s a v ws w)) (ha : a < s.size) (hs : s.size ≤ 65536) (hl : ws.length ≤ 100000) (hq : q = 92 ∨ q = 46 ∨ q = 58 ∨ q = 61 ∨ q = 40 ∨ q = 41 ∨ q = 91 ∨ q = 93 ∨ q = 123 ∨ q = 125) (HC : Aside0 (s[a]'ha = c)) (HQ : Aside0 (((s[a]'ha).toNat : Int) = q)) (HL : Aside0 (letU (s[a]'ha) = false)) (HD : Aside0 (digU (s[a]'ha) = false)) (r : SRes) (HE : Aside0 (r = .word 4 [c] 0)) :
    Calls Tryd.prog 26 #[.pointer (some ⟨g, 0, none⟩)] w (WordPost w0 g s a ws w r) := by
  rcases hq with rfl | rfl | rfl | rfl | rfl | rfl | rfl | rfl | rfl | rfl
  all_goals
    go_enter Tryd.func26, Tryd.ntmps26
    go_wp2_with fail
    have e0 := (blk_cell HR.out.blk 0).trans rfl
    have e1 := (blk_cell HR.out.blk 1).trans rfl
    simp at e0 e1
    refine wp_region_held_drew (S := fun w' => w'.cell? ⟨g, 0, none⟩ = some (.string s) ∧ w'.cell? ⟨g, 1, none⟩ = some (.int .i64 (a : Int))) (by kernel_rfl) ⟨e0, e1⟩ (fun hHeld => ?_)
    clear e0 e1
    have HB := Aside0.mk ((Below.refl w.heap.size w).drew)
    replace HR := Aside0.mk (HR.out.after HB.out)
    refine takeA 5 0 (v := ?_) ?_ hHeld ?_
    rotate_left
    · intro w hSw
      try dsimp only at hSw
      go_simp <;> with_reducible rfl
    try simp only [Act.put, List.setIfInBounds_toArray, List.set_cons_zero, List.set_cons_succ]
    refine takeA 6 1 (v := ?_) ?_ hHeld ?_
    rotate_left
    · intro w hSw
      try dsimp only at hSw
      go_simp <;> with_reducible rfl
    try simp only [Act.put, List.setIfInBounds_toArray, List.set_cons_zero, List.set_cons_succ]
    refine takeA 7 2 (v := ?_) ?_ hHeld ?_
    rotate_left
    · intro w hSw
      try dsimp only at hSw
      go_simp <;> with_reducible rfl
    try simp only [Act.put, List.setIfInBounds_toArray, List.set_cons_zero, List.set_cons_succ]
    refine takeA 8 3 (v := ?_) ?_ hHeld ?_
    rotate_left
    · intro w hSw
      try dsimp only at hSw
      go_simp <;> with_reducible rfl
    try simp only [Act.put, List.setIfInBounds_toArray, List.set_cons_zero, List.set_cons_succ]
    refine takeA 9 4 (v := ?_) ?_ hHeld ?_
    rotate_left
    · intro w hSw
      try dsimp only at hSw
      go_simp <;> with_reducible rfl
    try simp only [Act.put, List.setIfInBounds_toArray, List.set_cons_zero, List.set_cons_succ]
    refine takeA 10 5 (v := ?_) ?_ hHeld ?_
    rotate_left
    · intro w hSw
      try dsimp only at hSw
      go_simp <;> with_reducible rfl
    try simp only [Act.put, List.setIfInBounds_toArray, List.set_cons_zero, List.set_cons_succ]
    refine takeA 11 6 (v := ?_) ?_ hHeld ?_
    rotate_left
    · intro w hSw
      try dsimp only at hSw
      go_simp <;> with_reducible rfl
    try simp only [Act.put, List.setIfInBounds_toArray, List.set_cons_zero, List.set_cons_succ]
    refine takeA 12 7 (v := ?_) ?_ hHeld ?_
    rotate_left
    · intro w hSw
      try dsimp only at hSw
      go_simp <;> with_reducible rfl
    try simp only [Act.put, List.setIfInBounds_toArray, List.set_cons_zero, List.set_cons_succ]
    refine takeH (d := some 13) (v := .int .u8 ((s[a]'ha).toNat : Int)) 8 rfl rfl (by kernel_rfl) (by kernel_rfl) (by kernel_rfl) (fun _ _ _ h => h) (by rfl) (fun w hSw => by (try dsimp only at hSw); go_simp; first | done | rfl) hHeld ?_
    try simp only [Act.put, List.setIfInBounds_toArray, List.set_cons_zero, List.set_cons_succ]
    refine takeA 3 9 (v := ?_) ?_ hHeld ?_
    rotate_left
    · intro w hSw
      try dsimp only at hSw
      go_simp <;> with_reducible rfl
    try simp only [Act.put, List.setIfInBounds_toArray, List.set_cons_zero, List.set_cons_succ]
    refine wpAnyH_done (by kernel_rfl) ?_ _
    clear hHeld
    simp only [HQ.out]
    generalize w.drew = w1 at *
    go_wp2_with fail
    refine (letter_q HQ.out _).mono ?_
    rw [HL.out]
    rintro e w2 ⟨rfl, hB⟩
    replace HR := Aside0.mk (HR.out.after hB)
    replace HB := Aside0.mk (below_then HB.out HB.out.size hB)
    clear hB
    go_wp2_with fail
    refine (digit_q HQ.out _).mono ?_
    rw [HD.out]
    rintro e w3 ⟨rfl, hB⟩
    replace HR := Aside0.mk (HR.out.after hB)
    replace HB := Aside0.mk (below_then HB.out HB.out.size hB)
    clear hB
    go_wp2_with fail
    refine wp_region_held_drew (S := fun w' => w'.cell? ⟨g, 0, none⟩ = some (.string s)) (by kernel_rfl) ((blk_cell HR.out.blk 0).trans rfl) (fun hHeld => ?_)
    replace HR := Aside0.mk (HR.out.after ((Below.refl _ _).drew))
    replace HB := Aside0.mk (below_then HB.out HB.out.size ((Below.refl _ _).drew))
    generalize World.drew w3 = w4 at *
    have e0 := (blk_cell HR.out.blk 0).trans rfl
    have e1 := (blk_cell HR.out.blk 1).trans rfl
    simp at e0 e1
    refine takeA (89 + 0) 0 (v := ?_) ?_ hHeld ?_
    rotate_left
    · intro w hSw
      try dsimp only at hSw
      go_simp <;> with_reducible rfl
    try simp only [Act.put, List.setIfInBounds_toArray, List.set_cons_zero, List.set_cons_succ]
    refine takeA (89 + 1) 1 (v := ?_) ?_ hHeld ?_
    rotate_left
    · intro w hSw
      try dsimp only at hSw
      go_simp <;> with_reducible rfl
    try simp only [Act.put, List.setIfInBounds_toArray, List.set_cons_zero, List.set_cons_succ]
    refine takeA (89 + 2) 2 (v := ?_) ?_ hHeld ?_
    rotate_left
    · intro w hSw
      try dsimp only at hSw
      go_simp <;> with_reducible rfl
    try simp only [Act.put, List.setIfInBounds_toArray, List.set_cons_zero, List.set_cons_succ]
    refine takeA (89 + 3) 3 (v := ?_) ?_ hHeld ?_
    rotate_left
    · intro w hSw
      try dsimp only at hSw
      go_simp <;> with_reducible rfl
    try simp only [Act.put, List.setIfInBounds_toArray, List.set_cons_zero, List.set_cons_succ]
    refine takeA (89 + 4) 4 (v := ?_) ?_ hHeld ?_
    rotate_left
    · intro w hSw
      try dsimp only at hSw
      go_simp <;> with_reducible rfl
    try simp only [Act.put, List.setIfInBounds_toArray, List.set_cons_zero, List.set_cons_succ]
    refine takeA (89 + 5) 5 (v := ?_) ?_ hHeld ?_
    rotate_left
    · intro w hSw
      try dsimp only at hSw
      go_simp <;> with_reducible rfl
    try simp only [Act.put, List.setIfInBounds_toArray, List.set_cons_zero, List.set_cons_succ]
    refine takeA (89 + 6) 6 (v := ?_) ?_ hHeld ?_
    rotate_left
    · intro w hSw
      try dsimp only at hSw
      go_simp <;> with_reducible rfl
    try simp only [Act.put, List.setIfInBounds_toArray, List.set_cons_zero, List.set_cons_succ]
    refine takeA (89 + 7) 7 (v := ?_) ?_ hHeld ?_
    rotate_left
    · intro w hSw
      try dsimp only at hSw
      go_simp <;> with_reducible rfl
    try simp only [Act.put, List.setIfInBounds_toArray, List.set_cons_zero, List.set_cons_succ]
    refine takeA (89 + 9) 9 (v := ?_) ?_ hHeld ?_
    rotate_left
    · intro w hSw
      try dsimp only at hSw
      go_simp <;> with_reducible rfl
    try simp only [Act.put, List.setIfInBounds_toArray, List.set_cons_zero, List.set_cons_succ]
    refine takeA (89 + 10) 10 (v := ?_) ?_ hHeld ?_
    rotate_left
    · intro w hSw
      try dsimp only at hSw
      go_simp <;> with_reducible rfl
    try simp only [Act.put, List.setIfInBounds_toArray, List.set_cons_zero, List.set_cons_succ]
    refine takeA (89 + 11) 11 (v := ?_) ?_ hHeld ?_
    rotate_left
    · intro w hSw
      try dsimp only at hSw
      go_simp <;> with_reducible rfl
    try simp only [Act.put, List.setIfInBounds_toArray, List.set_cons_zero, List.set_cons_succ]
    have hW : IntKind.i64.wrap ((a : Int) + 1) = (a : Int) + 1 := IntWalk.i64_in _ (by omega)
    have HW := Aside0.mk hW
    have HSL : Aside0 (∀ wx, (Instr.slice 9 (.string s) (some (.int .i64 (a : Int))) (some (.int .i64 ((a : Int) + 1))) none).run Tryd.prog wx = .ok (.string (s.extract a (a + 1))) wx) := .mk (fun wx => (run_slice_string (P := Tryd.prog) wx 9 s .i64 .i64 (a : Int) ((a : Int) + 1) Tryd.underlying9 (by omega) (by omega) (by omega)).trans rfl)
    clear hW
    refine wpAnyH_ready (rs := [8, 12]) (by kernel_rfl) (by simp) ?_
    refine AllReadyH.cons rfl (fun K hK => ?_) (AllReadyH.cons rfl (fun K hK => ?_) (AllReadyH.nil))
    · go_simp
      refine hK.out _ _ hHeld (fun hHeld => ?_)
      clear hK K
      try simp only [Act.put, List.setIfInBounds_toArray, List.set_cons_zero, List.set_cons_succ]
      refine wpAnyH_ready (rs := [12]) (by kernel_rfl) (by simp) ?_
      refine AllReadyH.cons rfl (fun K hK => ?_) (AllReadyH.nil)
      go_simp
      refine hK.out _ _ hHeld (fun hHeld => ?_)
      clear hK K
      try simp only [Act.put, List.setIfInBounds_toArray, List.set_cons_zero, List.set_cons_succ]
      refine takeH (d := some (89 + 13)) (v := .int .i64 ((a : Int) + 1)) 13 rfl rfl (by kernel_rfl) (by kernel_rfl) (by kernel_rfl) (fun _ _ _ h => h) (by rfl) (fun w hSw => by (try dsimp only at hSw); go_simp; rw [HW.out]) hHeld ?_
      try simp only [Act.put, List.setIfInBounds_toArray, List.set_cons_zero, List.set_cons_succ]
      clear e0 e1
      refine takeH (d := some (89 + 14)) (v := .string (s.extract a (a + 1))) 14 rfl rfl (by kernel_rfl) (by kernel_rfl) (by kernel_rfl) (fun _ _ _ h => h) (by rfl) (fun w hSw => by (try dsimp only at hSw); go_simp; rw [HSL.out]; rfl) hHeld ?_
      try simp only [Act.put, List.setIfInBounds_toArray, List.set_cons_zero, List.set_cons_succ]
      refine callH (d := some 104) 15 rfl rfl (by kernel_rfl) (by rfl) (by kernel_rfl) (put_calls HR.out 4 (s.extract a (a + 1)) 0 hl (by omega) (by simp; omega)) ?_
      rintro e w5 ⟨rfl, v5, hv⟩
      have HV := Aside0.mk hv
      clear hv
      refine ⟨_, rfl, (blk_cell HV.out.blk 0).trans rfl, fun hHeld => ?_⟩
      try simp only [Act.put, List.setIfInBounds_toArray, List.set_cons_zero, List.set_cons_succ]
      refine takeA 2 16 (v := ?_) ?_ hHeld ?_
      rotate_left
      · intro w hSw
        try dsimp only at hSw
        go_simp <;> with_reducible rfl
      try simp only [Act.put, List.setIfInBounds_toArray, List.set_cons_zero, List.set_cons_succ]
      refine wpAnyH_done (by kernel_rfl) ?_ _
      clear hHeld
      go_wp2_with fail
      go_ret
      rw [HE.out]
      have hz : (s.extract a (a + 1)).size = 1 := by simp; omega
      have h2 := one_text s a (a + 1) rfl ha
      rw [HC.out] at h2
      show PutPost w0 g s (a + 1) (ws ++ [⟨4, bytesS [c], ((0 : Nat) : Int), a⟩]) _ _
      rw [← h2]
      have h3 := HV.out
      rw [hz] at h3
      exact ⟨rfl, v5, h3⟩
    · go_simp
      refine hK.out _ _ hHeld (fun hHeld => ?_)
      clear hK K
      try simp only [Act.put, List.setIfInBounds_toArray, List.set_cons_zero, List.set_cons_succ]
      refine takeH (d := some (89 + 13)) (v := .int .i64 ((a : Int) + 1)) 13 rfl rfl (by kernel_rfl) (by kernel_rfl) (by kernel_rfl) (fun _ _ _ h => h) (by rfl) (fun w hSw => by (try dsimp only at hSw); go_simp; rw [HW.out]) hHeld ?_
      try simp only [Act.put, List.setIfInBounds_toArray, List.set_cons_zero, List.set_cons_succ]
      refine wpAnyH_ready (rs := [8]) (by kernel_rfl) (by simp) ?_
      refine AllReadyH.cons rfl (fun K hK => ?_) (AllReadyH.nil)
      go_simp
      refine hK.out _ _ hHeld (fun hHeld => ?_)
      clear hK K
      try simp only [Act.put, List.setIfInBounds_toArray, List.set_cons_zero, List.set_cons_succ]
      clear e0 e1
      refine takeH (d := some (89 + 14)) (v := .string (s.extract a (a + 1))) 14 rfl rfl (by kernel_rfl) (by kernel_rfl) (by kernel_rfl) (fun _ _ _ h => h) (by rfl) (fun w hSw => by (try dsimp only at hSw); go_simp; rw [HSL.out]; rfl) hHeld ?_
      try simp only [Act.put, List.setIfInBounds_toArray, List.set_cons_zero, List.set_cons_succ]
      refine callH (d := some 104) 15 rfl rfl (by kernel_rfl) (by rfl) (by kernel_rfl) (put_calls HR.out 4 (s.extract a (a + 1)) 0 hl (by omega) (by simp; omega)) ?_
      rintro e w5 ⟨rfl, v5, hv⟩
      have HV := Aside0.mk hv
      clear hv
      refine ⟨_, rfl, (blk_cell HV.out.blk 0).trans rfl, fun hHeld => ?_⟩
      try simp only [Act.put, List.setIfInBounds_toArray, List.set_cons_zero, List.set_cons_succ]
      refine takeA 2 16 (v := ?_) ?_ hHeld ?_
      rotate_left
      · intro w hSw
        try dsimp only at hSw
        go_simp <;> with_reducible rfl
      try simp only [Act.put, List.setIfInBounds_toArray, List.set_cons_zero, List.set_cons_succ]
      refine wpAnyH_done (by kernel_rfl) ?_ _
      clear hHeld
      go_wp2_with fail
      go_ret
      rw [HE.out]
      have hz : (s.extract a (a + 1)).size = 1 := by simp; omega
      have h2 := one_text s a (a + 1) rfl ha
      rw [HC.out] at h2
      show PutPost w0 g s (a + 1) (ws ++ [⟨4, bytesS [c], ((0 : Nat) : Int), a⟩]) _ _
      rw [← h2]
      have h3 := HV.out
      rw [hz] at h3
      exact ⟨rfl, v5, h3⟩
end Go.Proofs.YtjmpejbciniceaaDoor.X
