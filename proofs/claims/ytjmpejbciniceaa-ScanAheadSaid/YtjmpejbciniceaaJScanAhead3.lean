/- Texts of this claim, joined: HWord4, HWordAll, PureScanA, HAll, X1, X3a, WkScanAhead. -/
import Derived.Test.YtjmpejbciniceaaJScanAhead0
import Derived.Test.YtjmpejbciniceaaJScanAhead1
import Derived.Test.YtjmpejbciniceaaJScanAhead2
/- The contract of scan's method word: signs. -/
namespace Go.Proofs.Ytjmpejbciniceaa.X
open Go.RowKit Go.Proofs.YtjmpejbciniceaaW.PrintWords Go.Proofs.YtjmpejbciniceaaW.PrintLast Go.Proofs.YtjmpejbciniceaaW.PrintMore
set_option linter.unusedVariables false
set_option linter.unusedSimpArgs false

set_option maxRecDepth 100000 in
set_option maxHeartbeats 3200000 in
theorem word_other {w0 : World} {g : Nat} {s : ByteArray} {a : Nat} {v : Value} {ws : List S29} {w : World} {q : Int} {c : UInt8} (HR : Aside0 (Rd w0 g s a v ws w)) (ha : a < s.size) (hs : s.size ≤ 65536) (hl : ws.length ≤ 100000) (HC : Aside0 (s[a]'ha = c)) (HQ : Aside0 (((s[a]'ha).toNat : Int) = q)) (HL : Aside0 (letU (s[a]'ha) = false)) (HD : Aside0 (digU (s[a]'ha) = false)) (z92 : (q == 92) = false) (z46 : (q == 46) = false) (z58 : (q == 58) = false) (z61 : (q == 61) = false) (z40 : (q == 40) = false) (z41 : (q == 41) = false) (z91 : (q == 91) = false) (z93 : (q == 93) = false) (z123 : (q == 123) = false) (z125 : (q == 125) = false) (z44 : (q == 44) = false) (z124 : (q == 124) = false) (z43 : (q == 43) = false) (z42 : (q == 42) = false) (z47 : (q == 47) = false) (z60 : (q == 60) = false) (z62 : (q == 62) = false) (z63 : (q == 63) = false) (z59 : (q == 59) = false) (z45 : (q == 45) = false) (r : SRes) (HE : Aside0 (r = .fault 10 [c])) :
    Calls Try.prog 17 #[.pointer (some ⟨g, 0, none⟩)] w (WordPost w0 g s a ws w r) := by
  go_enter Try.func17, Try.ntmps17
  go_wp2_with fail
  have e0 := (blk_cell HR.out.blk 0).trans rfl
  have e1 := (blk_cell HR.out.blk 1).trans rfl
  simp at e0 e1
  refine wp_region_held_drew (S := fun w' => w'.cell? ⟨g, 0, none⟩ = some (.string s) ∧ w'.cell? ⟨g, 1, none⟩ = some (.int .i64 (a : Int))) (by kernel_rfl) ⟨e0, e1⟩ (fun hHeld => ?_)
  clear e0 e1
  have HB := Aside0.mk ((Below.refl w.heap.size w).drew)
  replace HR := Aside0.mk (HR.out.after HB.out)
  refine takeH (d := some 5) (v := ?_) 0 rfl rfl (by kernel_rfl) (by kernel_rfl) (by kernel_rfl) (fun _ _ _ h => h) (by rfl) ?_ hHeld ?_
  rotate_left
  · intro w hSw
    try dsimp only at hSw
    go_simp <;> with_reducible rfl
  try simp only [Act.put, List.setIfInBounds_toArray, List.set_cons_zero, List.set_cons_succ]
  refine takeH (d := some 6) (v := ?_) 1 rfl rfl (by kernel_rfl) (by kernel_rfl) (by kernel_rfl) (fun _ _ _ h => h) (by rfl) ?_ hHeld ?_
  rotate_left
  · intro w hSw
    try dsimp only at hSw
    go_simp <;> with_reducible rfl
  try simp only [Act.put, List.setIfInBounds_toArray, List.set_cons_zero, List.set_cons_succ]
  refine takeH (d := some 7) (v := ?_) 2 rfl rfl (by kernel_rfl) (by kernel_rfl) (by kernel_rfl) (fun _ _ _ h => h) (by rfl) ?_ hHeld ?_
  rotate_left
  · intro w hSw
    try dsimp only at hSw
    go_simp <;> with_reducible rfl
  try simp only [Act.put, List.setIfInBounds_toArray, List.set_cons_zero, List.set_cons_succ]
  refine takeH (d := some 8) (v := ?_) 3 rfl rfl (by kernel_rfl) (by kernel_rfl) (by kernel_rfl) (fun _ _ _ h => h) (by rfl) ?_ hHeld ?_
  rotate_left
  · intro w hSw
    try dsimp only at hSw
    go_simp <;> with_reducible rfl
  try simp only [Act.put, List.setIfInBounds_toArray, List.set_cons_zero, List.set_cons_succ]
  refine takeH (d := some 9) (v := ?_) 4 rfl rfl (by kernel_rfl) (by kernel_rfl) (by kernel_rfl) (fun _ _ _ h => h) (by rfl) ?_ hHeld ?_
  rotate_left
  · intro w hSw
    try dsimp only at hSw
    go_simp <;> with_reducible rfl
  try simp only [Act.put, List.setIfInBounds_toArray, List.set_cons_zero, List.set_cons_succ]
  refine takeH (d := some 10) (v := ?_) 5 rfl rfl (by kernel_rfl) (by kernel_rfl) (by kernel_rfl) (fun _ _ _ h => h) (by rfl) ?_ hHeld ?_
  rotate_left
  · intro w hSw
    try dsimp only at hSw
    go_simp <;> with_reducible rfl
  try simp only [Act.put, List.setIfInBounds_toArray, List.set_cons_zero, List.set_cons_succ]
  refine takeH (d := some 11) (v := ?_) 6 rfl rfl (by kernel_rfl) (by kernel_rfl) (by kernel_rfl) (fun _ _ _ h => h) (by rfl) ?_ hHeld ?_
  rotate_left
  · intro w hSw
    try dsimp only at hSw
    go_simp <;> with_reducible rfl
  try simp only [Act.put, List.setIfInBounds_toArray, List.set_cons_zero, List.set_cons_succ]
  refine takeH (d := some 12) (v := ?_) 7 rfl rfl (by kernel_rfl) (by kernel_rfl) (by kernel_rfl) (fun _ _ _ h => h) (by rfl) ?_ hHeld ?_
  rotate_left
  · intro w hSw
    try dsimp only at hSw
    go_simp <;> with_reducible rfl
  try simp only [Act.put, List.setIfInBounds_toArray, List.set_cons_zero, List.set_cons_succ]
  refine takeH (d := some 13) (v := .int .u8 q) 8 rfl rfl (by kernel_rfl) (by kernel_rfl) (by kernel_rfl) (fun _ _ _ h => h) (by rfl) (fun w hSw => by (try dsimp only at hSw); go_simp; rw [HQ.out]) hHeld ?_
  try simp only [Act.put, List.setIfInBounds_toArray, List.set_cons_zero, List.set_cons_succ]
  refine takeH (d := some 3) (v := ?_) 9 rfl rfl (by kernel_rfl) (by kernel_rfl) (by kernel_rfl) (fun _ _ _ h => h) (by rfl) ?_ hHeld ?_
  rotate_left
  · intro w hSw
    try dsimp only at hSw
    go_simp <;> with_reducible rfl
  try simp only [Act.put, List.setIfInBounds_toArray, List.set_cons_zero, List.set_cons_succ]
  refine wpAnyH_done (by kernel_rfl) ?_ _
  clear hHeld
  generalize w.drew = w1 at *
  go_wp2_with fail
  refine (letter_q HQ.out _).mono ?_
  rw [HL.out]
  rintro e w2 ⟨rfl, hB⟩
  replace HR := Aside0.mk (HR.out.after hB)
  replace HB := Aside0.mk (below_then HB.out HB.out.size hB)
  clear hB
  go_wp2_with fail
  refine (digit_q HQ.out _).mono ?_
  rw [HD.out]
  rintro e w3 ⟨rfl, hB⟩
  replace HR := Aside0.mk (HR.out.after hB)
  replace HB := Aside0.mk (below_then HB.out HB.out.size hB)
  clear hB
  go_wp2_with fail
  refine wp_region_held_drew (S := (fun _ => True)) (by kernel_rfl) trivial (fun hHeld => ?_)
  replace HR := Aside0.mk (HR.out.after ((Below.refl _ _).drew))
  replace HB := Aside0.mk (below_then HB.out HB.out.size ((Below.refl _ _).drew))
  generalize World.drew w3 = w4 at *
  have e0 := (blk_cell HR.out.blk 0).trans rfl
  have e1 := (blk_cell HR.out.blk 1).trans rfl
  simp at e0 e1
  refine takeH (d := some (105 + 0)) (v := ?_) 0 rfl rfl (by kernel_rfl) (by kernel_rfl) (by kernel_rfl) (fun _ _ _ h => h) (by rfl) ?_ hHeld ?_
  rotate_left
  · intro w hSw
    try dsimp only at hSw
    go_simp <;> with_reducible rfl
  try simp only [Act.put, List.setIfInBounds_toArray, List.set_cons_zero, List.set_cons_succ]
  refine takeH (d := some (105 + 1)) (v := ?_) 1 rfl rfl (by kernel_rfl) (by kernel_rfl) (by kernel_rfl) (fun _ _ _ h => h) (by rfl) ?_ hHeld ?_
  rotate_left
  · intro w hSw
    try dsimp only at hSw
    go_simp <;> with_reducible rfl
  try simp only [Act.put, List.setIfInBounds_toArray, List.set_cons_zero, List.set_cons_succ]
  refine takeH (d := some (105 + 2)) (v := ?_) 2 rfl rfl (by kernel_rfl) (by kernel_rfl) (by kernel_rfl) (fun _ _ _ h => h) (by rfl) ?_ hHeld ?_
  rotate_left
  · intro w hSw
    try dsimp only at hSw
    go_simp <;> with_reducible rfl
  try simp only [Act.put, List.setIfInBounds_toArray, List.set_cons_zero, List.set_cons_succ]
  refine takeH (d := some (105 + 3)) (v := ?_) 3 rfl rfl (by kernel_rfl) (by kernel_rfl) (by kernel_rfl) (fun _ _ _ h => h) (by rfl) ?_ hHeld ?_
  rotate_left
  · intro w hSw
    try dsimp only at hSw
    go_simp <;> with_reducible rfl
  try simp only [Act.put, List.setIfInBounds_toArray, List.set_cons_zero, List.set_cons_succ]
  refine takeH (d := some (105 + 5)) (v := ?_) 5 rfl rfl (by kernel_rfl) (by kernel_rfl) (by kernel_rfl) (fun _ _ _ h => h) (by rfl) ?_ hHeld ?_
  rotate_left
  · intro w hSw
    try dsimp only at hSw
    go_simp <;> with_reducible rfl
  try simp only [Act.put, List.setIfInBounds_toArray, List.set_cons_zero, List.set_cons_succ]
  refine takeH (d := some (105 + 6)) (v := ?_) 6 rfl rfl (by kernel_rfl) (by kernel_rfl) (by kernel_rfl) (fun _ _ _ h => h) (by rfl) ?_ hHeld ?_
  rotate_left
  · intro w hSw
    try dsimp only at hSw
    go_simp <;> with_reducible rfl
  try simp only [Act.put, List.setIfInBounds_toArray, List.set_cons_zero, List.set_cons_succ]
  refine takeH (d := some (105 + 7)) (v := ?_) 7 rfl rfl (by kernel_rfl) (by kernel_rfl) (by kernel_rfl) (fun _ _ _ h => h) (by rfl) ?_ hHeld ?_
  rotate_left
  · intro w hSw
    try dsimp only at hSw
    go_simp <;> with_reducible rfl
  try simp only [Act.put, List.setIfInBounds_toArray, List.set_cons_zero, List.set_cons_succ]
  refine takeH (d := some (105 + 9)) (v := ?_) 9 rfl rfl (by kernel_rfl) (by kernel_rfl) (by kernel_rfl) (fun _ _ _ h => h) (by rfl) ?_ hHeld ?_
  rotate_left
  · intro w hSw
    try dsimp only at hSw
    go_simp <;> with_reducible rfl
  try simp only [Act.put, List.setIfInBounds_toArray, List.set_cons_zero, List.set_cons_succ]
  refine takeH (d := some (105 + 10)) (v := ?_) 10 rfl rfl (by kernel_rfl) (by kernel_rfl) (by kernel_rfl) (fun _ _ _ h => h) (by rfl) ?_ hHeld ?_
  rotate_left
  · intro w hSw
    try dsimp only at hSw
    go_simp <;> with_reducible rfl
  try simp only [Act.put, List.setIfInBounds_toArray, List.set_cons_zero, List.set_cons_succ]
  refine takeH (d := some (105 + 11)) (v := ?_) 11 rfl rfl (by kernel_rfl) (by kernel_rfl) (by kernel_rfl) (fun _ _ _ h => h) (by rfl) ?_ hHeld ?_
  rotate_left
  · intro w hSw
    try dsimp only at hSw
    go_simp <;> with_reducible rfl
  try simp only [Act.put, List.setIfInBounds_toArray, List.set_cons_zero, List.set_cons_succ]
  have hW : IntKind.i64.wrap ((a : Int) + 1) = (a : Int) + 1 := IntWalk.i64_in _ (by omega)
  have HW := Aside0.mk hW
  have HSL : Aside0 (∀ wx, (Instr.slice 9 (.string s) (some (.int .i64 (a : Int))) (some (.int .i64 ((a : Int) + 1))) none).run Try.prog wx = .ok (.string (s.extract a (a + 1))) wx) := .mk (fun wx => (run_slice_string (P := Try.prog) wx 9 s .i64 .i64 (a : Int) ((a : Int) + 1) Try.underlying9 (by omega) (by omega) (by omega)).trans rfl)
  clear hW
  refine wpAnyH_ready (rs := [4, 8, 12]) (by kernel_rfl) (by simp) ?_
  refine AllReadyH.cons rfl (fun K hK => ?_) (AllReadyH.cons rfl (fun K hK => ?_) (AllReadyH.cons rfl (fun K hK => ?_) (AllReadyH.nil)))
  · go_simp
    refine hK.out _ _ trivial (fun hHeld => ?_)
    clear hK K
    try simp only [Act.put, List.setIfInBounds_toArray, List.set_cons_zero, List.set_cons_succ]
    refine wpAnyH_ready (rs := [8, 12]) (by kernel_rfl) (by simp) ?_
    refine AllReadyH.cons rfl (fun K hK => ?_) (AllReadyH.cons rfl (fun K hK => ?_) (AllReadyH.nil))
    · go_simp
      refine hK.out _ _ trivial (fun hHeld => ?_)
      clear hK K
      try simp only [Act.put, List.setIfInBounds_toArray, List.set_cons_zero, List.set_cons_succ]
      refine wpAnyH_ready (rs := [12]) (by kernel_rfl) (by simp) ?_
      refine AllReadyH.cons rfl (fun K hK => ?_) (AllReadyH.nil)
      go_simp
      refine hK.out _ _ trivial (fun hHeld => ?_)
      clear hK K
      try simp only [Act.put, List.setIfInBounds_toArray, List.set_cons_zero, List.set_cons_succ]
      refine takeH (d := some (105 + 13)) (v := .int .i64 ((a : Int) + 1)) 13 rfl rfl (by kernel_rfl) (by kernel_rfl) (by kernel_rfl) (fun _ _ _ h => h) (by rfl) (fun w hSw => by (try dsimp only at hSw); go_simp; rw [HW.out]) hHeld ?_
      try simp only [Act.put, List.setIfInBounds_toArray, List.set_cons_zero, List.set_cons_succ]
      clear e0 e1
      refine takeH (d := some (105 + 14)) (v := .string (s.extract a (a + 1))) 14 rfl rfl (by kernel_rfl) (by kernel_rfl) (by kernel_rfl) (fun _ _ _ h => h) (by rfl) (fun w hSw => by (try dsimp only at hSw); go_simp; rw [HSL.out]; rfl) hHeld ?_
      try simp only [Act.put, List.setIfInBounds_toArray, List.set_cons_zero, List.set_cons_succ]
      refine callH (d := some 120) 15 rfl rfl (by kernel_rfl) (by rfl) (by kernel_rfl) (fault_calls HR.out 10 (s.extract a (a + 1))) ?_
      intro e w5 hp
      obtain ⟨p, rfl, hq⟩ := hp.lift HB.out
      have HP := Aside0.mk hq
      clear hp hq
      refine ⟨_, rfl, trivial, fun hHeld => ?_⟩
      try simp only [Act.put, List.setIfInBounds_toArray, List.set_cons_zero, List.set_cons_succ]
      refine takeH (d := some 2) (v := ?_) 16 rfl rfl (by kernel_rfl) (by kernel_rfl) (by kernel_rfl) (fun _ _ _ h => h) (by rfl) ?_ hHeld ?_
      rotate_left
      · intro w hSw
        try dsimp only at hSw
        go_simp <;> with_reducible rfl
      try simp only [Act.put, List.setIfInBounds_toArray, List.set_cons_zero, List.set_cons_succ]
      refine wpAnyH_done (by kernel_rfl) ?_ _
      clear hHeld
      go_wp2_with fail
      go_ret
      rw [HE.out]
      have h2 := one_text s a (a + 1) rfl ha
      rw [HC.out] at h2
      show FaultPost w 10 a (bytesS [c]) _ _
      rw [← h2]
      exact ⟨p, rfl, HP.out⟩
    · go_simp
      refine hK.out _ _ trivial (fun hHeld => ?_)
      clear hK K
      try simp only [Act.put, List.setIfInBounds_toArray, List.set_cons_zero, List.set_cons_succ]
      refine takeH (d := some (105 + 13)) (v := .int .i64 ((a : Int) + 1)) 13 rfl rfl (by kernel_rfl) (by kernel_rfl) (by kernel_rfl) (fun _ _ _ h => h) (by rfl) (fun w hSw => by (try dsimp only at hSw); go_simp; rw [HW.out]) hHeld ?_
      try simp only [Act.put, List.setIfInBounds_toArray, List.set_cons_zero, List.set_cons_succ]
      refine wpAnyH_ready (rs := [8]) (by kernel_rfl) (by simp) ?_
      refine AllReadyH.cons rfl (fun K hK => ?_) (AllReadyH.nil)
      go_simp
      refine hK.out _ _ trivial (fun hHeld => ?_)
      clear hK K
      try simp only [Act.put, List.setIfInBounds_toArray, List.set_cons_zero, List.set_cons_succ]
      clear e0 e1
      refine takeH (d := some (105 + 14)) (v := .string (s.extract a (a + 1))) 14 rfl rfl (by kernel_rfl) (by kernel_rfl) (by kernel_rfl) (fun _ _ _ h => h) (by rfl) (fun w hSw => by (try dsimp only at hSw); go_simp; rw [HSL.out]; rfl) hHeld ?_
      try simp only [Act.put, List.setIfInBounds_toArray, List.set_cons_zero, List.set_cons_succ]
      refine callH (d := some 120) 15 rfl rfl (by kernel_rfl) (by rfl) (by kernel_rfl) (fault_calls HR.out 10 (s.extract a (a + 1))) ?_
      intro e w5 hp
      obtain ⟨p, rfl, hq⟩ := hp.lift HB.out
      have HP := Aside0.mk hq
      clear hp hq
      refine ⟨_, rfl, trivial, fun hHeld => ?_⟩
      try simp only [Act.put, List.setIfInBounds_toArray, List.set_cons_zero, List.set_cons_succ]
      refine takeH (d := some 2) (v := ?_) 16 rfl rfl (by kernel_rfl) (by kernel_rfl) (by kernel_rfl) (fun _ _ _ h => h) (by rfl) ?_ hHeld ?_
      rotate_left
      · intro w hSw
        try dsimp only at hSw
        go_simp <;> with_reducible rfl
      try simp only [Act.put, List.setIfInBounds_toArray, List.set_cons_zero, List.set_cons_succ]
      refine wpAnyH_done (by kernel_rfl) ?_ _
      clear hHeld
      go_wp2_with fail
      go_ret
      rw [HE.out]
      have h2 := one_text s a (a + 1) rfl ha
      rw [HC.out] at h2
      show FaultPost w 10 a (bytesS [c]) _ _
      rw [← h2]
      exact ⟨p, rfl, HP.out⟩
  · go_simp
    refine hK.out _ _ trivial (fun hHeld => ?_)
    clear hK K
    try simp only [Act.put, List.setIfInBounds_toArray, List.set_cons_zero, List.set_cons_succ]
    refine wpAnyH_ready (rs := [4, 12]) (by kernel_rfl) (by simp) ?_
    refine AllReadyH.cons rfl (fun K hK => ?_) (AllReadyH.cons rfl (fun K hK => ?_) (AllReadyH.nil))
    · go_simp
      refine hK.out _ _ trivial (fun hHeld => ?_)
      clear hK K
      try simp only [Act.put, List.setIfInBounds_toArray, List.set_cons_zero, List.set_cons_succ]
      refine wpAnyH_ready (rs := [12]) (by kernel_rfl) (by simp) ?_
      refine AllReadyH.cons rfl (fun K hK => ?_) (AllReadyH.nil)
      go_simp
      refine hK.out _ _ trivial (fun hHeld => ?_)
      clear hK K
      try simp only [Act.put, List.setIfInBounds_toArray, List.set_cons_zero, List.set_cons_succ]
      refine takeH (d := some (105 + 13)) (v := .int .i64 ((a : Int) + 1)) 13 rfl rfl (by kernel_rfl) (by kernel_rfl) (by kernel_rfl) (fun _ _ _ h => h) (by rfl) (fun w hSw => by (try dsimp only at hSw); go_simp; rw [HW.out]) hHeld ?_
      try simp only [Act.put, List.setIfInBounds_toArray, List.set_cons_zero, List.set_cons_succ]
      clear e0 e1
      refine takeH (d := some (105 + 14)) (v := .string (s.extract a (a + 1))) 14 rfl rfl (by kernel_rfl) (by kernel_rfl) (by kernel_rfl) (fun _ _ _ h => h) (by rfl) (fun w hSw => by (try dsimp only at hSw); go_simp; rw [HSL.out]; rfl) hHeld ?_
      try simp only [Act.put, List.setIfInBounds_toArray, List.set_cons_zero, List.set_cons_succ]
      refine callH (d := some 120) 15 rfl rfl (by kernel_rfl) (by rfl) (by kernel_rfl) (fault_calls HR.out 10 (s.extract a (a + 1))) ?_
      intro e w5 hp
      obtain ⟨p, rfl, hq⟩ := hp.lift HB.out
      have HP := Aside0.mk hq
      clear hp hq
      refine ⟨_, rfl, trivial, fun hHeld => ?_⟩
      try simp only [Act.put, List.setIfInBounds_toArray, List.set_cons_zero, List.set_cons_succ]
      refine takeH (d := some 2) (v := ?_) 16 rfl rfl (by kernel_rfl) (by kernel_rfl) (by kernel_rfl) (fun _ _ _ h => h) (by rfl) ?_ hHeld ?_
      rotate_left
      · intro w hSw
        try dsimp only at hSw
        go_simp <;> with_reducible rfl
      try simp only [Act.put, List.setIfInBounds_toArray, List.set_cons_zero, List.set_cons_succ]
      refine wpAnyH_done (by kernel_rfl) ?_ _
      clear hHeld
      go_wp2_with fail
      go_ret
      rw [HE.out]
      have h2 := one_text s a (a + 1) rfl ha
      rw [HC.out] at h2
      show FaultPost w 10 a (bytesS [c]) _ _
      rw [← h2]
      exact ⟨p, rfl, HP.out⟩
    · go_simp
      refine hK.out _ _ trivial (fun hHeld => ?_)
      clear hK K
      try simp only [Act.put, List.setIfInBounds_toArray, List.set_cons_zero, List.set_cons_succ]
      refine takeH (d := some (105 + 13)) (v := .int .i64 ((a : Int) + 1)) 13 rfl rfl (by kernel_rfl) (by kernel_rfl) (by kernel_rfl) (fun _ _ _ h => h) (by rfl) (fun w hSw => by (try dsimp only at hSw); go_simp; rw [HW.out]) hHeld ?_
      try simp only [Act.put, List.setIfInBounds_toArray, List.set_cons_zero, List.set_cons_succ]
      refine wpAnyH_ready (rs := [4]) (by kernel_rfl) (by simp) ?_
      refine AllReadyH.cons rfl (fun K hK => ?_) (AllReadyH.nil)
      go_simp
      refine hK.out _ _ trivial (fun hHeld => ?_)
      clear hK K
      try simp only [Act.put, List.setIfInBounds_toArray, List.set_cons_zero, List.set_cons_succ]
      clear e0 e1
      refine takeH (d := some (105 + 14)) (v := .string (s.extract a (a + 1))) 14 rfl rfl (by kernel_rfl) (by kernel_rfl) (by kernel_rfl) (fun _ _ _ h => h) (by rfl) (fun w hSw => by (try dsimp only at hSw); go_simp; rw [HSL.out]; rfl) hHeld ?_
      try simp only [Act.put, List.setIfInBounds_toArray, List.set_cons_zero, List.set_cons_succ]
      refine callH (d := some 120) 15 rfl rfl (by kernel_rfl) (by rfl) (by kernel_rfl) (fault_calls HR.out 10 (s.extract a (a + 1))) ?_
      intro e w5 hp
      obtain ⟨p, rfl, hq⟩ := hp.lift HB.out
      have HP := Aside0.mk hq
      clear hp hq
      refine ⟨_, rfl, trivial, fun hHeld => ?_⟩
      try simp only [Act.put, List.setIfInBounds_toArray, List.set_cons_zero, List.set_cons_succ]
      refine takeH (d := some 2) (v := ?_) 16 rfl rfl (by kernel_rfl) (by kernel_rfl) (by kernel_rfl) (fun _ _ _ h => h) (by rfl) ?_ hHeld ?_
      rotate_left
      · intro w hSw
        try dsimp only at hSw
        go_simp <;> with_reducible rfl
      try simp only [Act.put, List.setIfInBounds_toArray, List.set_cons_zero, List.set_cons_succ]
      refine wpAnyH_done (by kernel_rfl) ?_ _
      clear hHeld
      go_wp2_with fail
      go_ret
      rw [HE.out]
      have h2 := one_text s a (a + 1) rfl ha
      rw [HC.out] at h2
      show FaultPost w 10 a (bytesS [c]) _ _
      rw [← h2]
      exact ⟨p, rfl, HP.out⟩
  · go_simp
    refine hK.out _ _ trivial (fun hHeld => ?_)
    clear hK K
    try simp only [Act.put, List.setIfInBounds_toArray, List.set_cons_zero, List.set_cons_succ]
    refine takeH (d := some (105 + 13)) (v := .int .i64 ((a : Int) + 1)) 13 rfl rfl (by kernel_rfl) (by kernel_rfl) (by kernel_rfl) (fun _ _ _ h => h) (by rfl) (fun w hSw => by (try dsimp only at hSw); go_simp; rw [HW.out]) hHeld ?_
    try simp only [Act.put, List.setIfInBounds_toArray, List.set_cons_zero, List.set_cons_succ]
    refine wpAnyH_ready (rs := [4, 8]) (by kernel_rfl) (by simp) ?_
    refine AllReadyH.cons rfl (fun K hK => ?_) (AllReadyH.cons rfl (fun K hK => ?_) (AllReadyH.nil))
    · go_simp
      refine hK.out _ _ trivial (fun hHeld => ?_)
      clear hK K
      try simp only [Act.put, List.setIfInBounds_toArray, List.set_cons_zero, List.set_cons_succ]
      refine wpAnyH_ready (rs := [8]) (by kernel_rfl) (by simp) ?_
      refine AllReadyH.cons rfl (fun K hK => ?_) (AllReadyH.nil)
      go_simp
      refine hK.out _ _ trivial (fun hHeld => ?_)
      clear hK K
      try simp only [Act.put, List.setIfInBounds_toArray, List.set_cons_zero, List.set_cons_succ]
      clear e0 e1
      refine takeH (d := some (105 + 14)) (v := .string (s.extract a (a + 1))) 14 rfl rfl (by kernel_rfl) (by kernel_rfl) (by kernel_rfl) (fun _ _ _ h => h) (by rfl) (fun w hSw => by (try dsimp only at hSw); go_simp; rw [HSL.out]; rfl) hHeld ?_
      try simp only [Act.put, List.setIfInBounds_toArray, List.set_cons_zero, List.set_cons_succ]
      refine callH (d := some 120) 15 rfl rfl (by kernel_rfl) (by rfl) (by kernel_rfl) (fault_calls HR.out 10 (s.extract a (a + 1))) ?_
      intro e w5 hp
      obtain ⟨p, rfl, hq⟩ := hp.lift HB.out
      have HP := Aside0.mk hq
      clear hp hq
      refine ⟨_, rfl, trivial, fun hHeld => ?_⟩
      try simp only [Act.put, List.setIfInBounds_toArray, List.set_cons_zero, List.set_cons_succ]
      refine takeH (d := some 2) (v := ?_) 16 rfl rfl (by kernel_rfl) (by kernel_rfl) (by kernel_rfl) (fun _ _ _ h => h) (by rfl) ?_ hHeld ?_
      rotate_left
      · intro w hSw
        try dsimp only at hSw
        go_simp <;> with_reducible rfl
      try simp only [Act.put, List.setIfInBounds_toArray, List.set_cons_zero, List.set_cons_succ]
      refine wpAnyH_done (by kernel_rfl) ?_ _
      clear hHeld
      go_wp2_with fail
      go_ret
      rw [HE.out]
      have h2 := one_text s a (a + 1) rfl ha
      rw [HC.out] at h2
      show FaultPost w 10 a (bytesS [c]) _ _
      rw [← h2]
      exact ⟨p, rfl, HP.out⟩
    · go_simp
      refine hK.out _ _ trivial (fun hHeld => ?_)
      clear hK K
      try simp only [Act.put, List.setIfInBounds_toArray, List.set_cons_zero, List.set_cons_succ]
      refine wpAnyH_ready (rs := [4]) (by kernel_rfl) (by simp) ?_
      refine AllReadyH.cons rfl (fun K hK => ?_) (AllReadyH.nil)
      go_simp
      refine hK.out _ _ trivial (fun hHeld => ?_)
      clear hK K
      try simp only [Act.put, List.setIfInBounds_toArray, List.set_cons_zero, List.set_cons_succ]
      clear e0 e1
      refine takeH (d := some (105 + 14)) (v := .string (s.extract a (a + 1))) 14 rfl rfl (by kernel_rfl) (by kernel_rfl) (by kernel_rfl) (fun _ _ _ h => h) (by rfl) (fun w hSw => by (try dsimp only at hSw); go_simp; rw [HSL.out]; rfl) hHeld ?_
      try simp only [Act.put, List.setIfInBounds_toArray, List.set_cons_zero, List.set_cons_succ]
      refine callH (d := some 120) 15 rfl rfl (by kernel_rfl) (by rfl) (by kernel_rfl) (fault_calls HR.out 10 (s.extract a (a + 1))) ?_
      intro e w5 hp
      obtain ⟨p, rfl, hq⟩ := hp.lift HB.out
      have HP := Aside0.mk hq
      clear hp hq
      refine ⟨_, rfl, trivial, fun hHeld => ?_⟩
      try simp only [Act.put, List.setIfInBounds_toArray, List.set_cons_zero, List.set_cons_succ]
      refine takeH (d := some 2) (v := ?_) 16 rfl rfl (by kernel_rfl) (by kernel_rfl) (by kernel_rfl) (fun _ _ _ h => h) (by rfl) ?_ hHeld ?_
      rotate_left
      · intro w hSw
        try dsimp only at hSw
        go_simp <;> with_reducible rfl
      try simp only [Act.put, List.setIfInBounds_toArray, List.set_cons_zero, List.set_cons_succ]
      refine wpAnyH_done (by kernel_rfl) ?_ _
      clear hHeld
      go_wp2_with fail
      go_ret
      rw [HE.out]
      have h2 := one_text s a (a + 1) rfl ha
      rw [HC.out] at h2
      show FaultPost w 10 a (bytesS [c]) _ _
      rw [← h2]
      exact ⟨p, rfl, HP.out⟩
set_option maxRecDepth 100000 in
set_option maxHeartbeats 3200000 in
theorem word_arrow {w0 : World} {g : Nat} {s : ByteArray} {a : Nat} {v : Value} {ws : List S29} {w : World} {c : UInt8} (HR : Aside0 (Rd w0 g s a v ws w)) (ha : a < s.size) (hs : s.size ≤ 65536) (hl : ws.length ≤ 100000) (HC : Aside0 (s[a]'ha = c)) (HQ : Aside0 (((s[a]'ha).toNat : Int) = 45)) (HL : Aside0 (letU (s[a]'ha) = false)) (HD : Aside0 (digU (s[a]'ha) = false)) (hn : a + 1 < s.size) (HQ2 : Aside0 (((s[a + 1]'hn).toNat : Int) = 62)) (r : SRes) (HE : Aside0 (r = .word 4 [45, 62] 0)) :
    Calls Try.prog 17 #[.pointer (some ⟨g, 0, none⟩)] w (WordPost w0 g s a ws w r) := by
  go_enter Try.func17, Try.ntmps17
  go_wp2_with fail
  have e0 := (blk_cell HR.out.blk 0).trans rfl
  have e1 := (blk_cell HR.out.blk 1).trans rfl
  simp at e0 e1
  refine wp_region_held_drew (S := fun w' => w'.cell? ⟨g, 0, none⟩ = some (.string s) ∧ w'.cell? ⟨g, 1, none⟩ = some (.int .i64 (a : Int))) (by kernel_rfl) ⟨e0, e1⟩ (fun hHeld => ?_)
  clear e0 e1
  have HB := Aside0.mk ((Below.refl w.heap.size w).drew)
  replace HR := Aside0.mk (HR.out.after HB.out)
  refine takeH (d := some 5) (v := ?_) 0 rfl rfl (by kernel_rfl) (by kernel_rfl) (by kernel_rfl) (fun _ _ _ h => h) (by rfl) ?_ hHeld ?_
  rotate_left
  · intro w hSw
    try dsimp only at hSw
    go_simp <;> with_reducible rfl
  try simp only [Act.put, List.setIfInBounds_toArray, List.set_cons_zero, List.set_cons_succ]
  refine takeH (d := some 6) (v := ?_) 1 rfl rfl (by kernel_rfl) (by kernel_rfl) (by kernel_rfl) (fun _ _ _ h => h) (by rfl) ?_ hHeld ?_
  rotate_left
  · intro w hSw
    try dsimp only at hSw
    go_simp <;> with_reducible rfl
  try simp only [Act.put, List.setIfInBounds_toArray, List.set_cons_zero, List.set_cons_succ]
  refine takeH (d := some 7) (v := ?_) 2 rfl rfl (by kernel_rfl) (by kernel_rfl) (by kernel_rfl) (fun _ _ _ h => h) (by rfl) ?_ hHeld ?_
  rotate_left
  · intro w hSw
    try dsimp only at hSw
    go_simp <;> with_reducible rfl
  try simp only [Act.put, List.setIfInBounds_toArray, List.set_cons_zero, List.set_cons_succ]
  refine takeH (d := some 8) (v := ?_) 3 rfl rfl (by kernel_rfl) (by kernel_rfl) (by kernel_rfl) (fun _ _ _ h => h) (by rfl) ?_ hHeld ?_
  rotate_left
  · intro w hSw
    try dsimp only at hSw
    go_simp <;> with_reducible rfl
  try simp only [Act.put, List.setIfInBounds_toArray, List.set_cons_zero, List.set_cons_succ]
  refine takeH (d := some 9) (v := ?_) 4 rfl rfl (by kernel_rfl) (by kernel_rfl) (by kernel_rfl) (fun _ _ _ h => h) (by rfl) ?_ hHeld ?_
  rotate_left
  · intro w hSw
    try dsimp only at hSw
    go_simp <;> with_reducible rfl
  try simp only [Act.put, List.setIfInBounds_toArray, List.set_cons_zero, List.set_cons_succ]
  refine takeH (d := some 10) (v := ?_) 5 rfl rfl (by kernel_rfl) (by kernel_rfl) (by kernel_rfl) (fun _ _ _ h => h) (by rfl) ?_ hHeld ?_
  rotate_left
  · intro w hSw
    try dsimp only at hSw
    go_simp <;> with_reducible rfl
  try simp only [Act.put, List.setIfInBounds_toArray, List.set_cons_zero, List.set_cons_succ]
  refine takeH (d := some 11) (v := ?_) 6 rfl rfl (by kernel_rfl) (by kernel_rfl) (by kernel_rfl) (fun _ _ _ h => h) (by rfl) ?_ hHeld ?_
  rotate_left
  · intro w hSw
    try dsimp only at hSw
    go_simp <;> with_reducible rfl
  try simp only [Act.put, List.setIfInBounds_toArray, List.set_cons_zero, List.set_cons_succ]
  refine takeH (d := some 12) (v := ?_) 7 rfl rfl (by kernel_rfl) (by kernel_rfl) (by kernel_rfl) (fun _ _ _ h => h) (by rfl) ?_ hHeld ?_
  rotate_left
  · intro w hSw
    try dsimp only at hSw
    go_simp <;> with_reducible rfl
  try simp only [Act.put, List.setIfInBounds_toArray, List.set_cons_zero, List.set_cons_succ]
  refine takeH (d := some 13) (v := .int .u8 45) 8 rfl rfl (by kernel_rfl) (by kernel_rfl) (by kernel_rfl) (fun _ _ _ h => h) (by rfl) (fun w hSw => by (try dsimp only at hSw); go_simp; rw [HQ.out]) hHeld ?_
  try simp only [Act.put, List.setIfInBounds_toArray, List.set_cons_zero, List.set_cons_succ]
  refine takeH (d := some 3) (v := ?_) 9 rfl rfl (by kernel_rfl) (by kernel_rfl) (by kernel_rfl) (fun _ _ _ h => h) (by rfl) ?_ hHeld ?_
  rotate_left
  · intro w hSw
    try dsimp only at hSw
    go_simp <;> with_reducible rfl
  try simp only [Act.put, List.setIfInBounds_toArray, List.set_cons_zero, List.set_cons_succ]
  refine wpAnyH_done (by kernel_rfl) ?_ _
  clear hHeld
  generalize w.drew = w1 at *
  go_wp2_with fail
  refine (letter_q HQ.out _).mono ?_
  rw [HL.out]
  rintro e w2 ⟨rfl, hB⟩
  replace HR := Aside0.mk (HR.out.after hB)
  replace HB := Aside0.mk (below_then HB.out HB.out.size hB)
  clear hB
  go_wp2_with fail
  refine (digit_q HQ.out _).mono ?_
  rw [HD.out]
  rintro e w3 ⟨rfl, hB⟩
  replace HR := Aside0.mk (HR.out.after hB)
  replace HB := Aside0.mk (below_then HB.out HB.out.size hB)
  clear hB
  go_wp2_with fail
  refine wp_region_held_drew (S := fun w' => w'.cell? ⟨g, 0, none⟩ = some (.string s) ∧ w'.cell? ⟨g, 1, none⟩ = some (.int .i64 (a : Int))) (by kernel_rfl) ⟨(blk_cell HR.out.blk 0).trans rfl, (blk_cell HR.out.blk 1).trans rfl⟩ (fun hHeld => ?_)
  replace HR := Aside0.mk (HR.out.after ((Below.refl _ _).drew))
  replace HB := Aside0.mk (below_then HB.out HB.out.size ((Below.refl _ _).drew))
  generalize World.drew w3 = w5 at *
  have hW : IntKind.i64.wrap ((a : Int) + 1) = (a : Int) + 1 := IntWalk.i64_in _ (by omega)
  have HW := Aside0.mk hW
  clear hW
  refine takeH (d := some 63) (v := ?_) 0 rfl rfl (by kernel_rfl) (by kernel_rfl) (by kernel_rfl) (fun _ _ _ h => h) (by rfl) ?_ hHeld ?_
  rotate_left
  · intro w hSw
    try dsimp only at hSw
    go_simp <;> with_reducible rfl
  try simp only [Act.put, List.setIfInBounds_toArray, List.set_cons_zero, List.set_cons_succ]
  refine takeH (d := some 64) (v := ?_) 1 rfl rfl (by kernel_rfl) (by kernel_rfl) (by kernel_rfl) (fun _ _ _ h => h) (by rfl) ?_ hHeld ?_
  rotate_left
  · intro w hSw
    try dsimp only at hSw
    go_simp <;> with_reducible rfl
  try simp only [Act.put, List.setIfInBounds_toArray, List.set_cons_zero, List.set_cons_succ]
  refine takeH (d := some 65) (v := ?_) 2 rfl rfl (by kernel_rfl) (by kernel_rfl) (by kernel_rfl) (fun _ _ _ h => h) (by rfl) ?_ hHeld ?_
  rotate_left
  · intro w hSw
    try dsimp only at hSw
    go_simp <;> with_reducible rfl
  try simp only [Act.put, List.setIfInBounds_toArray, List.set_cons_zero, List.set_cons_succ]
  refine takeH (d := some 66) (v := ?_) 3 rfl rfl (by kernel_rfl) (by kernel_rfl) (by kernel_rfl) (fun _ _ _ h => h) (by rfl) ?_ hHeld ?_
  rotate_left
  · intro w hSw
    try dsimp only at hSw
    go_simp <;> with_reducible rfl
  try simp only [Act.put, List.setIfInBounds_toArray, List.set_cons_zero, List.set_cons_succ]
  refine takeH (d := some 67) (v := .int .i64 ((a : Int) + 1)) 4 rfl rfl (by kernel_rfl) (by kernel_rfl) (by kernel_rfl) (fun _ _ _ h => h) (by rfl) (fun w hSw => by (try dsimp only at hSw); go_simp; rw [HW.out]) hHeld ?_
  try simp only [Act.put, List.setIfInBounds_toArray, List.set_cons_zero, List.set_cons_succ]
  refine takeH (d := some 68) (v := ?_) 5 rfl rfl (by kernel_rfl) (by kernel_rfl) (by kernel_rfl) (fun _ _ _ h => h) (by rfl) ?_ hHeld ?_
  rotate_left
  · intro w hSw
    try dsimp only at hSw
    go_simp <;> with_reducible rfl
  try simp only [Act.put, List.setIfInBounds_toArray, List.set_cons_zero, List.set_cons_succ]
  refine takeH (d := some 69) (v := ?_) 6 rfl rfl (by kernel_rfl) (by kernel_rfl) (by kernel_rfl) (fun _ _ _ h => h) (by rfl) ?_ hHeld ?_
  rotate_left
  · intro w hSw
    try dsimp only at hSw
    go_simp <;> with_reducible rfl
  try simp only [Act.put, List.setIfInBounds_toArray, List.set_cons_zero, List.set_cons_succ]
  refine takeH (d := some 70) (v := ?_) 7 rfl rfl (by kernel_rfl) (by kernel_rfl) (by kernel_rfl) (fun _ _ _ h => h) (by rfl) ?_ hHeld ?_
  rotate_left
  · intro w hSw
    try dsimp only at hSw
    go_simp <;> with_reducible rfl
  try simp only [Act.put, List.setIfInBounds_toArray, List.set_cons_zero, List.set_cons_succ]
  refine takeH (d := some 71) (v := ?_) 8 rfl rfl (by kernel_rfl) (by kernel_rfl) (by kernel_rfl) (fun _ _ _ h => h) (by rfl) ?_ hHeld ?_
  rotate_left
  · intro w hSw
    try dsimp only at hSw
    go_simp <;> with_reducible rfl
  try simp only [Act.put, List.setIfInBounds_toArray, List.set_cons_zero, List.set_cons_succ]
  refine takeH (d := some 72) (v := ?_) 9 rfl rfl (by kernel_rfl) (by kernel_rfl) (by kernel_rfl) (fun _ _ _ h => h) (by rfl) ?_ hHeld ?_
  rotate_left
  · intro w hSw
    try dsimp only at hSw
    go_simp <;> with_reducible rfl
  try simp only [Act.put, List.setIfInBounds_toArray, List.set_cons_zero, List.set_cons_succ]
  have HLT := Aside0.mk hn
  refine takeH (d := some 73) (v := .bool true) 10 rfl rfl (by kernel_rfl) (by kernel_rfl) (by kernel_rfl) (fun _ _ _ h => h) (by rfl) (fun w hSw => by (try dsimp only at hSw); have := HLT.out; go_simp; first | omega | rw [decide_eq_false (by omega)] | (simp; omega)) hHeld ?_
  try simp only [Act.put, List.setIfInBounds_toArray, List.set_cons_zero, List.set_cons_succ]
  refine takeH (d := some 74) (v := ?_) 11 rfl rfl (by kernel_rfl) (by kernel_rfl) (by kernel_rfl) (fun _ _ _ h => h) (by rfl) ?_ hHeld ?_
  rotate_left
  · intro w hSw
    try dsimp only at hSw
    go_simp <;> with_reducible rfl
  try simp only [Act.put, List.setIfInBounds_toArray, List.set_cons_zero, List.set_cons_succ]
  refine takeH (d := some 75) (v := ?_) 12 rfl rfl (by kernel_rfl) (by kernel_rfl) (by kernel_rfl) (fun _ _ _ h => h) (by rfl) ?_ hHeld ?_
  rotate_left
  · intro w hSw
    try dsimp only at hSw
    go_simp <;> with_reducible rfl
  try simp only [Act.put, List.setIfInBounds_toArray, List.set_cons_zero, List.set_cons_succ]
  refine takeH (d := some 76) (v := ?_) 13 rfl rfl (by kernel_rfl) (by kernel_rfl) (by kernel_rfl) (fun _ _ _ h => h) (by rfl) ?_ hHeld ?_
  rotate_left
  · intro w hSw
    try dsimp only at hSw
    go_simp <;> with_reducible rfl
  try simp only [Act.put, List.setIfInBounds_toArray, List.set_cons_zero, List.set_cons_succ]
  refine takeH (d := some 77) (v := ?_) 14 rfl rfl (by kernel_rfl) (by kernel_rfl) (by kernel_rfl) (fun _ _ _ h => h) (by rfl) ?_ hHeld ?_
  rotate_left
  · intro w hSw
    try dsimp only at hSw
    go_simp <;> with_reducible rfl
  try simp only [Act.put, List.setIfInBounds_toArray, List.set_cons_zero, List.set_cons_succ]
  refine takeH (d := some 78) (v := ?_) 15 rfl rfl (by kernel_rfl) (by kernel_rfl) (by kernel_rfl) (fun _ _ _ h => h) (by rfl) ?_ hHeld ?_
  rotate_left
  · intro w hSw
    try dsimp only at hSw
    go_simp <;> with_reducible rfl
  try simp only [Act.put, List.setIfInBounds_toArray, List.set_cons_zero, List.set_cons_succ]
  refine takeH (d := some 79) (v := ?_) 16 rfl rfl (by kernel_rfl) (by kernel_rfl) (by kernel_rfl) (fun _ _ _ h => h) (by rfl) ?_ hHeld ?_
  rotate_left
  · intro w hSw
    try dsimp only at hSw
    go_simp <;> with_reducible rfl
  try simp only [Act.put, List.setIfInBounds_toArray, List.set_cons_zero, List.set_cons_succ]
  refine takeH (d := some 80) (v := ?_) 17 rfl rfl (by kernel_rfl) (by kernel_rfl) (by kernel_rfl) (fun _ _ _ h => h) (by rfl) ?_ hHeld ?_
  rotate_left
  · intro w hSw
    try dsimp only at hSw
    go_simp <;> with_reducible rfl
  try simp only [Act.put, List.setIfInBounds_toArray, List.set_cons_zero, List.set_cons_succ]
  refine takeH (d := some 81) (v := ?_) 18 rfl rfl (by kernel_rfl) (by kernel_rfl) (by kernel_rfl) (fun _ _ _ h => h) (by rfl) ?_ hHeld ?_
  rotate_left
  · intro w hSw
    try dsimp only at hSw
    go_simp <;> with_reducible rfl
  try simp only [Act.put, List.setIfInBounds_toArray, List.set_cons_zero, List.set_cons_succ]
  refine takeH (d := some 82) (v := ?_) 19 rfl rfl (by kernel_rfl) (by kernel_rfl) (by kernel_rfl) (fun _ _ _ h => h) (by rfl) ?_ hHeld ?_
  rotate_left
  · intro w hSw
    try dsimp only at hSw
    go_simp <;> with_reducible rfl
  try simp only [Act.put, List.setIfInBounds_toArray, List.set_cons_zero, List.set_cons_succ]
  refine takeH (d := some 83) (v := .int .i64 ((a : Int) + 1)) 20 rfl rfl (by kernel_rfl) (by kernel_rfl) (by kernel_rfl) (fun _ _ _ h => h) (by rfl) (fun w hSw => by (try dsimp only at hSw); go_simp; rw [HW.out]) hHeld ?_
  try simp only [Act.put, List.setIfInBounds_toArray, List.set_cons_zero, List.set_cons_succ]
  refine takeH (d := some 84) (v := .int .u8 62) 21 rfl rfl (by kernel_rfl) (by kernel_rfl) (by kernel_rfl) (fun _ _ _ h => h) (by rfl) (fun w hSw => by (try dsimp only at hSw); have := HLT.out; go_simp; rw [dif_pos (by omega), HQ2.out]; rfl) hHeld ?_
  try simp only [Act.put, List.setIfInBounds_toArray, List.set_cons_zero, List.set_cons_succ]
  refine takeH (d := some 85) (v := ?_) 22 rfl rfl (by kernel_rfl) (by kernel_rfl) (by kernel_rfl) (fun _ _ _ h => h) (by rfl) ?_ hHeld ?_
  rotate_left
  · intro w hSw
    try dsimp only at hSw
    go_simp <;> with_reducible rfl
  try simp only [Act.put, List.setIfInBounds_toArray, List.set_cons_zero, List.set_cons_succ]
  refine takeH (d := some 86) (v := ?_) 23 rfl rfl (by kernel_rfl) (by kernel_rfl) (by kernel_rfl) (fun _ _ _ h => h) (by rfl) ?_ hHeld ?_
  rotate_left
  · intro w hSw
    try dsimp only at hSw
    go_simp <;> with_reducible rfl
  try simp only [Act.put, List.setIfInBounds_toArray, List.set_cons_zero, List.set_cons_succ]
  refine wpAnyH_done (by kernel_rfl) ?_ _
  clear hHeld
  go_wp2_with fail
  refine (put_calls HR.out 4 ⟨#[45, 62]⟩ 0 hl (by omega) (by decide)).mono ?_
  rintro e w6 ⟨rfl, v5, hv⟩
  have HV := Aside0.mk hv
  clear hv
  go_wp2_with fail
  go_ret
  rw [HE.out]
  show PutPost w0 g s (a + 2) (ws ++ [⟨4, ⟨#[45, 62]⟩, ((0 : Nat) : Int), a⟩]) _ _
  exact ⟨rfl, v5, HV.out⟩
set_option maxRecDepth 100000 in
set_option maxHeartbeats 3200000 in
theorem word_dash {w0 : World} {g : Nat} {s : ByteArray} {a : Nat} {v : Value} {ws : List S29} {w : World} {c : UInt8} (HR : Aside0 (Rd w0 g s a v ws w)) (ha : a < s.size) (hs : s.size ≤ 65536) (hl : ws.length ≤ 100000) (HC : Aside0 (s[a]'ha = c)) (HQ : Aside0 (((s[a]'ha).toNat : Int) = 45)) (HL : Aside0 (letU (s[a]'ha) = false)) (HD : Aside0 (digU (s[a]'ha) = false)) (hn : a + 1 < s.size) {q2 : Int} (HQ2 : Aside0 (((s[a + 1]'hn).toNat : Int) = q2)) (z62 : (q2 == 62) = false) (r : SRes) (HE : Aside0 (r = .word 4 [c] 0)) :
    Calls Try.prog 17 #[.pointer (some ⟨g, 0, none⟩)] w (WordPost w0 g s a ws w r) := by
  go_enter Try.func17, Try.ntmps17
  go_wp2_with fail
  have e0 := (blk_cell HR.out.blk 0).trans rfl
  have e1 := (blk_cell HR.out.blk 1).trans rfl
  simp at e0 e1
  refine wp_region_held_drew (S := fun w' => w'.cell? ⟨g, 0, none⟩ = some (.string s) ∧ w'.cell? ⟨g, 1, none⟩ = some (.int .i64 (a : Int))) (by kernel_rfl) ⟨e0, e1⟩ (fun hHeld => ?_)
  clear e0 e1
  have HB := Aside0.mk ((Below.refl w.heap.size w).drew)
  replace HR := Aside0.mk (HR.out.after HB.out)
  refine takeH (d := some 5) (v := ?_) 0 rfl rfl (by kernel_rfl) (by kernel_rfl) (by kernel_rfl) (fun _ _ _ h => h) (by rfl) ?_ hHeld ?_
  rotate_left
  · intro w hSw
    try dsimp only at hSw
    go_simp <;> with_reducible rfl
  try simp only [Act.put, List.setIfInBounds_toArray, List.set_cons_zero, List.set_cons_succ]
  refine takeH (d := some 6) (v := ?_) 1 rfl rfl (by kernel_rfl) (by kernel_rfl) (by kernel_rfl) (fun _ _ _ h => h) (by rfl) ?_ hHeld ?_
  rotate_left
  · intro w hSw
    try dsimp only at hSw
    go_simp <;> with_reducible rfl
  try simp only [Act.put, List.setIfInBounds_toArray, List.set_cons_zero, List.set_cons_succ]
  refine takeH (d := some 7) (v := ?_) 2 rfl rfl (by kernel_rfl) (by kernel_rfl) (by kernel_rfl) (fun _ _ _ h => h) (by rfl) ?_ hHeld ?_
  rotate_left
  · intro w hSw
    try dsimp only at hSw
    go_simp <;> with_reducible rfl
  try simp only [Act.put, List.setIfInBounds_toArray, List.set_cons_zero, List.set_cons_succ]
  refine takeH (d := some 8) (v := ?_) 3 rfl rfl (by kernel_rfl) (by kernel_rfl) (by kernel_rfl) (fun _ _ _ h => h) (by rfl) ?_ hHeld ?_
  rotate_left
  · intro w hSw
    try dsimp only at hSw
    go_simp <;> with_reducible rfl
  try simp only [Act.put, List.setIfInBounds_toArray, List.set_cons_zero, List.set_cons_succ]
  refine takeH (d := some 9) (v := ?_) 4 rfl rfl (by kernel_rfl) (by kernel_rfl) (by kernel_rfl) (fun _ _ _ h => h) (by rfl) ?_ hHeld ?_
  rotate_left
  · intro w hSw
    try dsimp only at hSw
    go_simp <;> with_reducible rfl
  try simp only [Act.put, List.setIfInBounds_toArray, List.set_cons_zero, List.set_cons_succ]
  refine takeH (d := some 10) (v := ?_) 5 rfl rfl (by kernel_rfl) (by kernel_rfl) (by kernel_rfl) (fun _ _ _ h => h) (by rfl) ?_ hHeld ?_
  rotate_left
  · intro w hSw
    try dsimp only at hSw
    go_simp <;> with_reducible rfl
  try simp only [Act.put, List.setIfInBounds_toArray, List.set_cons_zero, List.set_cons_succ]
  refine takeH (d := some 11) (v := ?_) 6 rfl rfl (by kernel_rfl) (by kernel_rfl) (by kernel_rfl) (fun _ _ _ h => h) (by rfl) ?_ hHeld ?_
  rotate_left
  · intro w hSw
    try dsimp only at hSw
    go_simp <;> with_reducible rfl
  try simp only [Act.put, List.setIfInBounds_toArray, List.set_cons_zero, List.set_cons_succ]
  refine takeH (d := some 12) (v := ?_) 7 rfl rfl (by kernel_rfl) (by kernel_rfl) (by kernel_rfl) (fun _ _ _ h => h) (by rfl) ?_ hHeld ?_
  rotate_left
  · intro w hSw
    try dsimp only at hSw
    go_simp <;> with_reducible rfl
  try simp only [Act.put, List.setIfInBounds_toArray, List.set_cons_zero, List.set_cons_succ]
  refine takeH (d := some 13) (v := .int .u8 45) 8 rfl rfl (by kernel_rfl) (by kernel_rfl) (by kernel_rfl) (fun _ _ _ h => h) (by rfl) (fun w hSw => by (try dsimp only at hSw); go_simp; rw [HQ.out]) hHeld ?_
  try simp only [Act.put, List.setIfInBounds_toArray, List.set_cons_zero, List.set_cons_succ]
  refine takeH (d := some 3) (v := ?_) 9 rfl rfl (by kernel_rfl) (by kernel_rfl) (by kernel_rfl) (fun _ _ _ h => h) (by rfl) ?_ hHeld ?_
  rotate_left
  · intro w hSw
    try dsimp only at hSw
    go_simp <;> with_reducible rfl
  try simp only [Act.put, List.setIfInBounds_toArray, List.set_cons_zero, List.set_cons_succ]
  refine wpAnyH_done (by kernel_rfl) ?_ _
  clear hHeld
  generalize w.drew = w1 at *
  go_wp2_with fail
  refine (letter_q HQ.out _).mono ?_
  rw [HL.out]
  rintro e w2 ⟨rfl, hB⟩
  replace HR := Aside0.mk (HR.out.after hB)
  replace HB := Aside0.mk (below_then HB.out HB.out.size hB)
  clear hB
  go_wp2_with fail
  refine (digit_q HQ.out _).mono ?_
  rw [HD.out]
  rintro e w3 ⟨rfl, hB⟩
  replace HR := Aside0.mk (HR.out.after hB)
  replace HB := Aside0.mk (below_then HB.out HB.out.size hB)
  clear hB
  go_wp2_with fail
  refine wp_region_held_drew (S := fun w' => w'.cell? ⟨g, 0, none⟩ = some (.string s) ∧ w'.cell? ⟨g, 1, none⟩ = some (.int .i64 (a : Int))) (by kernel_rfl) ⟨(blk_cell HR.out.blk 0).trans rfl, (blk_cell HR.out.blk 1).trans rfl⟩ (fun hHeld => ?_)
  replace HR := Aside0.mk (HR.out.after ((Below.refl _ _).drew))
  replace HB := Aside0.mk (below_then HB.out HB.out.size ((Below.refl _ _).drew))
  generalize World.drew w3 = w5 at *
  have hW : IntKind.i64.wrap ((a : Int) + 1) = (a : Int) + 1 := IntWalk.i64_in _ (by omega)
  have HW := Aside0.mk hW
  clear hW
  refine takeH (d := some 63) (v := ?_) 0 rfl rfl (by kernel_rfl) (by kernel_rfl) (by kernel_rfl) (fun _ _ _ h => h) (by rfl) ?_ hHeld ?_
  rotate_left
  · intro w hSw
    try dsimp only at hSw
    go_simp <;> with_reducible rfl
  try simp only [Act.put, List.setIfInBounds_toArray, List.set_cons_zero, List.set_cons_succ]
  refine takeH (d := some 64) (v := ?_) 1 rfl rfl (by kernel_rfl) (by kernel_rfl) (by kernel_rfl) (fun _ _ _ h => h) (by rfl) ?_ hHeld ?_
  rotate_left
  · intro w hSw
    try dsimp only at hSw
    go_simp <;> with_reducible rfl
  try simp only [Act.put, List.setIfInBounds_toArray, List.set_cons_zero, List.set_cons_succ]
  refine takeH (d := some 65) (v := ?_) 2 rfl rfl (by kernel_rfl) (by kernel_rfl) (by kernel_rfl) (fun _ _ _ h => h) (by rfl) ?_ hHeld ?_
  rotate_left
  · intro w hSw
    try dsimp only at hSw
    go_simp <;> with_reducible rfl
  try simp only [Act.put, List.setIfInBounds_toArray, List.set_cons_zero, List.set_cons_succ]
  refine takeH (d := some 66) (v := ?_) 3 rfl rfl (by kernel_rfl) (by kernel_rfl) (by kernel_rfl) (fun _ _ _ h => h) (by rfl) ?_ hHeld ?_
  rotate_left
  · intro w hSw
    try dsimp only at hSw
    go_simp <;> with_reducible rfl
  try simp only [Act.put, List.setIfInBounds_toArray, List.set_cons_zero, List.set_cons_succ]
  refine takeH (d := some 67) (v := .int .i64 ((a : Int) + 1)) 4 rfl rfl (by kernel_rfl) (by kernel_rfl) (by kernel_rfl) (fun _ _ _ h => h) (by rfl) (fun w hSw => by (try dsimp only at hSw); go_simp; rw [HW.out]) hHeld ?_
  try simp only [Act.put, List.setIfInBounds_toArray, List.set_cons_zero, List.set_cons_succ]
  refine takeH (d := some 68) (v := ?_) 5 rfl rfl (by kernel_rfl) (by kernel_rfl) (by kernel_rfl) (fun _ _ _ h => h) (by rfl) ?_ hHeld ?_
  rotate_left
  · intro w hSw
    try dsimp only at hSw
    go_simp <;> with_reducible rfl
  try simp only [Act.put, List.setIfInBounds_toArray, List.set_cons_zero, List.set_cons_succ]
  refine takeH (d := some 69) (v := ?_) 6 rfl rfl (by kernel_rfl) (by kernel_rfl) (by kernel_rfl) (fun _ _ _ h => h) (by rfl) ?_ hHeld ?_
  rotate_left
  · intro w hSw
    try dsimp only at hSw
    go_simp <;> with_reducible rfl
  try simp only [Act.put, List.setIfInBounds_toArray, List.set_cons_zero, List.set_cons_succ]
  refine takeH (d := some 70) (v := ?_) 7 rfl rfl (by kernel_rfl) (by kernel_rfl) (by kernel_rfl) (fun _ _ _ h => h) (by rfl) ?_ hHeld ?_
  rotate_left
  · intro w hSw
    try dsimp only at hSw
    go_simp <;> with_reducible rfl
  try simp only [Act.put, List.setIfInBounds_toArray, List.set_cons_zero, List.set_cons_succ]
  refine takeH (d := some 71) (v := ?_) 8 rfl rfl (by kernel_rfl) (by kernel_rfl) (by kernel_rfl) (fun _ _ _ h => h) (by rfl) ?_ hHeld ?_
  rotate_left
  · intro w hSw
    try dsimp only at hSw
    go_simp <;> with_reducible rfl
  try simp only [Act.put, List.setIfInBounds_toArray, List.set_cons_zero, List.set_cons_succ]
  refine takeH (d := some 72) (v := ?_) 9 rfl rfl (by kernel_rfl) (by kernel_rfl) (by kernel_rfl) (fun _ _ _ h => h) (by rfl) ?_ hHeld ?_
  rotate_left
  · intro w hSw
    try dsimp only at hSw
    go_simp <;> with_reducible rfl
  try simp only [Act.put, List.setIfInBounds_toArray, List.set_cons_zero, List.set_cons_succ]
  have HLT := Aside0.mk hn
  refine takeH (d := some 73) (v := .bool true) 10 rfl rfl (by kernel_rfl) (by kernel_rfl) (by kernel_rfl) (fun _ _ _ h => h) (by rfl) (fun w hSw => by (try dsimp only at hSw); have := HLT.out; go_simp; first | omega | rw [decide_eq_false (by omega)] | (simp; omega)) hHeld ?_
  try simp only [Act.put, List.setIfInBounds_toArray, List.set_cons_zero, List.set_cons_succ]
  refine takeH (d := some 74) (v := ?_) 11 rfl rfl (by kernel_rfl) (by kernel_rfl) (by kernel_rfl) (fun _ _ _ h => h) (by rfl) ?_ hHeld ?_
  rotate_left
  · intro w hSw
    try dsimp only at hSw
    go_simp <;> with_reducible rfl
  try simp only [Act.put, List.setIfInBounds_toArray, List.set_cons_zero, List.set_cons_succ]
  refine takeH (d := some 75) (v := ?_) 12 rfl rfl (by kernel_rfl) (by kernel_rfl) (by kernel_rfl) (fun _ _ _ h => h) (by rfl) ?_ hHeld ?_
  rotate_left
  · intro w hSw
    try dsimp only at hSw
    go_simp <;> with_reducible rfl
  try simp only [Act.put, List.setIfInBounds_toArray, List.set_cons_zero, List.set_cons_succ]
  refine takeH (d := some 76) (v := ?_) 13 rfl rfl (by kernel_rfl) (by kernel_rfl) (by kernel_rfl) (fun _ _ _ h => h) (by rfl) ?_ hHeld ?_
  rotate_left
  · intro w hSw
    try dsimp only at hSw
    go_simp <;> with_reducible rfl
  try simp only [Act.put, List.setIfInBounds_toArray, List.set_cons_zero, List.set_cons_succ]
  refine takeH (d := some 77) (v := ?_) 14 rfl rfl (by kernel_rfl) (by kernel_rfl) (by kernel_rfl) (fun _ _ _ h => h) (by rfl) ?_ hHeld ?_
  rotate_left
  · intro w hSw
    try dsimp only at hSw
    go_simp <;> with_reducible rfl
  try simp only [Act.put, List.setIfInBounds_toArray, List.set_cons_zero, List.set_cons_succ]
  refine takeH (d := some 78) (v := ?_) 15 rfl rfl (by kernel_rfl) (by kernel_rfl) (by kernel_rfl) (fun _ _ _ h => h) (by rfl) ?_ hHeld ?_
  rotate_left
  · intro w hSw
    try dsimp only at hSw
    go_simp <;> with_reducible rfl
  try simp only [Act.put, List.setIfInBounds_toArray, List.set_cons_zero, List.set_cons_succ]
  refine takeH (d := some 79) (v := ?_) 16 rfl rfl (by kernel_rfl) (by kernel_rfl) (by kernel_rfl) (fun _ _ _ h => h) (by rfl) ?_ hHeld ?_
  rotate_left
  · intro w hSw
    try dsimp only at hSw
    go_simp <;> with_reducible rfl
  try simp only [Act.put, List.setIfInBounds_toArray, List.set_cons_zero, List.set_cons_succ]
  refine takeH (d := some 80) (v := ?_) 17 rfl rfl (by kernel_rfl) (by kernel_rfl) (by kernel_rfl) (fun _ _ _ h => h) (by rfl) ?_ hHeld ?_
  rotate_left
  · intro w hSw
    try dsimp only at hSw
    go_simp <;> with_reducible rfl
  try simp only [Act.put, List.setIfInBounds_toArray, List.set_cons_zero, List.set_cons_succ]
  refine takeH (d := some 81) (v := ?_) 18 rfl rfl (by kernel_rfl) (by kernel_rfl) (by kernel_rfl) (fun _ _ _ h => h) (by rfl) ?_ hHeld ?_
  rotate_left
  · intro w hSw
    try dsimp only at hSw
    go_simp <;> with_reducible rfl
  try simp only [Act.put, List.setIfInBounds_toArray, List.set_cons_zero, List.set_cons_succ]
  refine takeH (d := some 82) (v := ?_) 19 rfl rfl (by kernel_rfl) (by kernel_rfl) (by kernel_rfl) (fun _ _ _ h => h) (by rfl) ?_ hHeld ?_
  rotate_left
  · intro w hSw
    try dsimp only at hSw
    go_simp <;> with_reducible rfl
  try simp only [Act.put, List.setIfInBounds_toArray, List.set_cons_zero, List.set_cons_succ]
  refine takeH (d := some 83) (v := .int .i64 ((a : Int) + 1)) 20 rfl rfl (by kernel_rfl) (by kernel_rfl) (by kernel_rfl) (fun _ _ _ h => h) (by rfl) (fun w hSw => by (try dsimp only at hSw); go_simp; rw [HW.out]) hHeld ?_
  try simp only [Act.put, List.setIfInBounds_toArray, List.set_cons_zero, List.set_cons_succ]
  refine takeH (d := some 84) (v := .int .u8 q2) 21 rfl rfl (by kernel_rfl) (by kernel_rfl) (by kernel_rfl) (fun _ _ _ h => h) (by rfl) (fun w hSw => by (try dsimp only at hSw); have := HLT.out; go_simp; rw [dif_pos (by omega), HQ2.out]; rfl) hHeld ?_
  try simp only [Act.put, List.setIfInBounds_toArray, List.set_cons_zero, List.set_cons_succ]
  refine takeH (d := some 85) (v := .bool false) 22 rfl rfl (by kernel_rfl) (by kernel_rfl) (by kernel_rfl) (fun _ _ _ h => h) (by rfl) (fun w hSw => by (try dsimp only at hSw); go_simp <;> first | done | rw [z62] | simp [z62]) hHeld ?_
  try simp only [Act.put, List.setIfInBounds_toArray, List.set_cons_zero, List.set_cons_succ]
  refine takeH (d := some 86) (v := ?_) 23 rfl rfl (by kernel_rfl) (by kernel_rfl) (by kernel_rfl) (fun _ _ _ h => h) (by rfl) ?_ hHeld ?_
  rotate_left
  · intro w hSw
    try dsimp only at hSw
    go_simp <;> with_reducible rfl
  try simp only [Act.put, List.setIfInBounds_toArray, List.set_cons_zero, List.set_cons_succ]
  refine wpAnyH_done (by kernel_rfl) ?_ _
  clear hHeld
  go_wp2_with fail
  refine wp_region_held_drew (S := (fun _ => True)) (by kernel_rfl) trivial (fun hHeld => ?_)
  replace HR := Aside0.mk (HR.out.after ((Below.refl _ _).drew))
  replace HB := Aside0.mk (below_then HB.out HB.out.size ((Below.refl _ _).drew))
  generalize World.drew w5 = w4 at *
  have e0 := (blk_cell HR.out.blk 0).trans rfl
  have e1 := (blk_cell HR.out.blk 1).trans rfl
  simp at e0 e1
  refine takeH (d := some (89 + 0)) (v := ?_) 0 rfl rfl (by kernel_rfl) (by kernel_rfl) (by kernel_rfl) (fun _ _ _ h => h) (by rfl) ?_ hHeld ?_
  rotate_left
  · intro w hSw
    try dsimp only at hSw
    go_simp <;> with_reducible rfl
  try simp only [Act.put, List.setIfInBounds_toArray, List.set_cons_zero, List.set_cons_succ]
  refine takeH (d := some (89 + 1)) (v := ?_) 1 rfl rfl (by kernel_rfl) (by kernel_rfl) (by kernel_rfl) (fun _ _ _ h => h) (by rfl) ?_ hHeld ?_
  rotate_left
  · intro w hSw
    try dsimp only at hSw
    go_simp <;> with_reducible rfl
  try simp only [Act.put, List.setIfInBounds_toArray, List.set_cons_zero, List.set_cons_succ]
  refine takeH (d := some (89 + 2)) (v := ?_) 2 rfl rfl (by kernel_rfl) (by kernel_rfl) (by kernel_rfl) (fun _ _ _ h => h) (by rfl) ?_ hHeld ?_
  rotate_left
  · intro w hSw
    try dsimp only at hSw
    go_simp <;> with_reducible rfl
  try simp only [Act.put, List.setIfInBounds_toArray, List.set_cons_zero, List.set_cons_succ]
  refine takeH (d := some (89 + 3)) (v := ?_) 3 rfl rfl (by kernel_rfl) (by kernel_rfl) (by kernel_rfl) (fun _ _ _ h => h) (by rfl) ?_ hHeld ?_
  rotate_left
  · intro w hSw
    try dsimp only at hSw
    go_simp <;> with_reducible rfl
  try simp only [Act.put, List.setIfInBounds_toArray, List.set_cons_zero, List.set_cons_succ]
  refine takeH (d := some (89 + 5)) (v := ?_) 5 rfl rfl (by kernel_rfl) (by kernel_rfl) (by kernel_rfl) (fun _ _ _ h => h) (by rfl) ?_ hHeld ?_
  rotate_left
  · intro w hSw
    try dsimp only at hSw
    go_simp <;> with_reducible rfl
  try simp only [Act.put, List.setIfInBounds_toArray, List.set_cons_zero, List.set_cons_succ]
  refine takeH (d := some (89 + 6)) (v := ?_) 6 rfl rfl (by kernel_rfl) (by kernel_rfl) (by kernel_rfl) (fun _ _ _ h => h) (by rfl) ?_ hHeld ?_
  rotate_left
  · intro w hSw
    try dsimp only at hSw
    go_simp <;> with_reducible rfl
  try simp only [Act.put, List.setIfInBounds_toArray, List.set_cons_zero, List.set_cons_succ]
  refine takeH (d := some (89 + 7)) (v := ?_) 7 rfl rfl (by kernel_rfl) (by kernel_rfl) (by kernel_rfl) (fun _ _ _ h => h) (by rfl) ?_ hHeld ?_
  rotate_left
  · intro w hSw
    try dsimp only at hSw
    go_simp <;> with_reducible rfl
  try simp only [Act.put, List.setIfInBounds_toArray, List.set_cons_zero, List.set_cons_succ]
  refine takeH (d := some (89 + 9)) (v := ?_) 9 rfl rfl (by kernel_rfl) (by kernel_rfl) (by kernel_rfl) (fun _ _ _ h => h) (by rfl) ?_ hHeld ?_
  rotate_left
  · intro w hSw
    try dsimp only at hSw
    go_simp <;> with_reducible rfl
  try simp only [Act.put, List.setIfInBounds_toArray, List.set_cons_zero, List.set_cons_succ]
  refine takeH (d := some (89 + 10)) (v := ?_) 10 rfl rfl (by kernel_rfl) (by kernel_rfl) (by kernel_rfl) (fun _ _ _ h => h) (by rfl) ?_ hHeld ?_
  rotate_left
  · intro w hSw
    try dsimp only at hSw
    go_simp <;> with_reducible rfl
  try simp only [Act.put, List.setIfInBounds_toArray, List.set_cons_zero, List.set_cons_succ]
  refine takeH (d := some (89 + 11)) (v := ?_) 11 rfl rfl (by kernel_rfl) (by kernel_rfl) (by kernel_rfl) (fun _ _ _ h => h) (by rfl) ?_ hHeld ?_
  rotate_left
  · intro w hSw
    try dsimp only at hSw
    go_simp <;> with_reducible rfl
  try simp only [Act.put, List.setIfInBounds_toArray, List.set_cons_zero, List.set_cons_succ]
  have hW : IntKind.i64.wrap ((a : Int) + 1) = (a : Int) + 1 := IntWalk.i64_in _ (by omega)
  have HW := Aside0.mk hW
  have HSL : Aside0 (∀ wx, (Instr.slice 9 (.string s) (some (.int .i64 (a : Int))) (some (.int .i64 ((a : Int) + 1))) none).run Try.prog wx = .ok (.string (s.extract a (a + 1))) wx) := .mk (fun wx => (run_slice_string (P := Try.prog) wx 9 s .i64 .i64 (a : Int) ((a : Int) + 1) Try.underlying9 (by omega) (by omega) (by omega)).trans rfl)
  clear hW
  refine wpAnyH_ready (rs := [4, 8, 12]) (by kernel_rfl) (by simp) ?_
  refine AllReadyH.cons rfl (fun K hK => ?_) (AllReadyH.cons rfl (fun K hK => ?_) (AllReadyH.cons rfl (fun K hK => ?_) (AllReadyH.nil)))
  · go_simp
    refine hK.out _ _ trivial (fun hHeld => ?_)
    clear hK K
    try simp only [Act.put, List.setIfInBounds_toArray, List.set_cons_zero, List.set_cons_succ]
    refine wpAnyH_ready (rs := [8, 12]) (by kernel_rfl) (by simp) ?_
    refine AllReadyH.cons rfl (fun K hK => ?_) (AllReadyH.cons rfl (fun K hK => ?_) (AllReadyH.nil))
    · go_simp
      refine hK.out _ _ trivial (fun hHeld => ?_)
      clear hK K
      try simp only [Act.put, List.setIfInBounds_toArray, List.set_cons_zero, List.set_cons_succ]
      refine wpAnyH_ready (rs := [12]) (by kernel_rfl) (by simp) ?_
      refine AllReadyH.cons rfl (fun K hK => ?_) (AllReadyH.nil)
      go_simp
      refine hK.out _ _ trivial (fun hHeld => ?_)
      clear hK K
      try simp only [Act.put, List.setIfInBounds_toArray, List.set_cons_zero, List.set_cons_succ]
      refine takeH (d := some (89 + 13)) (v := .int .i64 ((a : Int) + 1)) 13 rfl rfl (by kernel_rfl) (by kernel_rfl) (by kernel_rfl) (fun _ _ _ h => h) (by rfl) (fun w hSw => by (try dsimp only at hSw); go_simp; rw [HW.out]) hHeld ?_
      try simp only [Act.put, List.setIfInBounds_toArray, List.set_cons_zero, List.set_cons_succ]
      clear e0 e1
      refine takeH (d := some (89 + 14)) (v := .string (s.extract a (a + 1))) 14 rfl rfl (by kernel_rfl) (by kernel_rfl) (by kernel_rfl) (fun _ _ _ h => h) (by rfl) (fun w hSw => by (try dsimp only at hSw); go_simp; rw [HSL.out]; rfl) hHeld ?_
      try simp only [Act.put, List.setIfInBounds_toArray, List.set_cons_zero, List.set_cons_succ]
      refine callH (d := some 104) 15 rfl rfl (by kernel_rfl) (by rfl) (by kernel_rfl) (put_calls HR.out 4 (s.extract a (a + 1)) 0 hl (by omega) (by simp; omega)) ?_
      rintro e w5 ⟨rfl, v5, hv⟩
      have HV := Aside0.mk hv
      clear hv
      refine ⟨_, rfl, trivial, fun hHeld => ?_⟩
      try simp only [Act.put, List.setIfInBounds_toArray, List.set_cons_zero, List.set_cons_succ]
      refine takeH (d := some 2) (v := ?_) 16 rfl rfl (by kernel_rfl) (by kernel_rfl) (by kernel_rfl) (fun _ _ _ h => h) (by rfl) ?_ hHeld ?_
      rotate_left
      · intro w hSw
        try dsimp only at hSw
        go_simp <;> with_reducible rfl
      try simp only [Act.put, List.setIfInBounds_toArray, List.set_cons_zero, List.set_cons_succ]
      refine wpAnyH_done (by kernel_rfl) ?_ _
      clear hHeld
      go_wp2_with fail
      go_ret
      rw [HE.out]
      have hz : (s.extract a (a + 1)).size = 1 := by simp; omega
      have h2 := one_text s a (a + 1) rfl ha
      rw [HC.out] at h2
      show PutPost w0 g s (a + 1) (ws ++ [⟨4, bytesS [c], ((0 : Nat) : Int), a⟩]) _ _
      rw [← h2]
      have h3 := HV.out
      rw [hz] at h3
      exact ⟨rfl, v5, h3⟩
    · go_simp
      refine hK.out _ _ trivial (fun hHeld => ?_)
      clear hK K
      try simp only [Act.put, List.setIfInBounds_toArray, List.set_cons_zero, List.set_cons_succ]
      refine takeH (d := some (89 + 13)) (v := .int .i64 ((a : Int) + 1)) 13 rfl rfl (by kernel_rfl) (by kernel_rfl) (by kernel_rfl) (fun _ _ _ h => h) (by rfl) (fun w hSw => by (try dsimp only at hSw); go_simp; rw [HW.out]) hHeld ?_
      try simp only [Act.put, List.setIfInBounds_toArray, List.set_cons_zero, List.set_cons_succ]
      refine wpAnyH_ready (rs := [8]) (by kernel_rfl) (by simp) ?_
      refine AllReadyH.cons rfl (fun K hK => ?_) (AllReadyH.nil)
      go_simp
      refine hK.out _ _ trivial (fun hHeld => ?_)
      clear hK K
      try simp only [Act.put, List.setIfInBounds_toArray, List.set_cons_zero, List.set_cons_succ]
      clear e0 e1
      refine takeH (d := some (89 + 14)) (v := .string (s.extract a (a + 1))) 14 rfl rfl (by kernel_rfl) (by kernel_rfl) (by kernel_rfl) (fun _ _ _ h => h) (by rfl) (fun w hSw => by (try dsimp only at hSw); go_simp; rw [HSL.out]; rfl) hHeld ?_
      try simp only [Act.put, List.setIfInBounds_toArray, List.set_cons_zero, List.set_cons_succ]
      refine callH (d := some 104) 15 rfl rfl (by kernel_rfl) (by rfl) (by kernel_rfl) (put_calls HR.out 4 (s.extract a (a + 1)) 0 hl (by omega) (by simp; omega)) ?_
      rintro e w5 ⟨rfl, v5, hv⟩
      have HV := Aside0.mk hv
      clear hv
      refine ⟨_, rfl, trivial, fun hHeld => ?_⟩
      try simp only [Act.put, List.setIfInBounds_toArray, List.set_cons_zero, List.set_cons_succ]
      refine takeH (d := some 2) (v := ?_) 16 rfl rfl (by kernel_rfl) (by kernel_rfl) (by kernel_rfl) (fun _ _ _ h => h) (by rfl) ?_ hHeld ?_
      rotate_left
      · intro w hSw
        try dsimp only at hSw
        go_simp <;> with_reducible rfl
      try simp only [Act.put, List.setIfInBounds_toArray, List.set_cons_zero, List.set_cons_succ]
      refine wpAnyH_done (by kernel_rfl) ?_ _
      clear hHeld
      go_wp2_with fail
      go_ret
      rw [HE.out]
      have hz : (s.extract a (a + 1)).size = 1 := by simp; omega
      have h2 := one_text s a (a + 1) rfl ha
      rw [HC.out] at h2
      show PutPost w0 g s (a + 1) (ws ++ [⟨4, bytesS [c], ((0 : Nat) : Int), a⟩]) _ _
      rw [← h2]
      have h3 := HV.out
      rw [hz] at h3
      exact ⟨rfl, v5, h3⟩
  · go_simp
    refine hK.out _ _ trivial (fun hHeld => ?_)
    clear hK K
    try simp only [Act.put, List.setIfInBounds_toArray, List.set_cons_zero, List.set_cons_succ]
    refine wpAnyH_ready (rs := [4, 12]) (by kernel_rfl) (by simp) ?_
    refine AllReadyH.cons rfl (fun K hK => ?_) (AllReadyH.cons rfl (fun K hK => ?_) (AllReadyH.nil))
    · go_simp
      refine hK.out _ _ trivial (fun hHeld => ?_)
      clear hK K
      try simp only [Act.put, List.setIfInBounds_toArray, List.set_cons_zero, List.set_cons_succ]
      refine wpAnyH_ready (rs := [12]) (by kernel_rfl) (by simp) ?_
      refine AllReadyH.cons rfl (fun K hK => ?_) (AllReadyH.nil)
      go_simp
      refine hK.out _ _ trivial (fun hHeld => ?_)
      clear hK K
      try simp only [Act.put, List.setIfInBounds_toArray, List.set_cons_zero, List.set_cons_succ]
      refine takeH (d := some (89 + 13)) (v := .int .i64 ((a : Int) + 1)) 13 rfl rfl (by kernel_rfl) (by kernel_rfl) (by kernel_rfl) (fun _ _ _ h => h) (by rfl) (fun w hSw => by (try dsimp only at hSw); go_simp; rw [HW.out]) hHeld ?_
      try simp only [Act.put, List.setIfInBounds_toArray, List.set_cons_zero, List.set_cons_succ]
      clear e0 e1
      refine takeH (d := some (89 + 14)) (v := .string (s.extract a (a + 1))) 14 rfl rfl (by kernel_rfl) (by kernel_rfl) (by kernel_rfl) (fun _ _ _ h => h) (by rfl) (fun w hSw => by (try dsimp only at hSw); go_simp; rw [HSL.out]; rfl) hHeld ?_
      try simp only [Act.put, List.setIfInBounds_toArray, List.set_cons_zero, List.set_cons_succ]
      refine callH (d := some 104) 15 rfl rfl (by kernel_rfl) (by rfl) (by kernel_rfl) (put_calls HR.out 4 (s.extract a (a + 1)) 0 hl (by omega) (by simp; omega)) ?_
      rintro e w5 ⟨rfl, v5, hv⟩
      have HV := Aside0.mk hv
      clear hv
      refine ⟨_, rfl, trivial, fun hHeld => ?_⟩
      try simp only [Act.put, List.setIfInBounds_toArray, List.set_cons_zero, List.set_cons_succ]
      refine takeH (d := some 2) (v := ?_) 16 rfl rfl (by kernel_rfl) (by kernel_rfl) (by kernel_rfl) (fun _ _ _ h => h) (by rfl) ?_ hHeld ?_
      rotate_left
      · intro w hSw
        try dsimp only at hSw
        go_simp <;> with_reducible rfl
      try simp only [Act.put, List.setIfInBounds_toArray, List.set_cons_zero, List.set_cons_succ]
      refine wpAnyH_done (by kernel_rfl) ?_ _
      clear hHeld
      go_wp2_with fail
      go_ret
      rw [HE.out]
      have hz : (s.extract a (a + 1)).size = 1 := by simp; omega
      have h2 := one_text s a (a + 1) rfl ha
      rw [HC.out] at h2
      show PutPost w0 g s (a + 1) (ws ++ [⟨4, bytesS [c], ((0 : Nat) : Int), a⟩]) _ _
      rw [← h2]
      have h3 := HV.out
      rw [hz] at h3
      exact ⟨rfl, v5, h3⟩
    · go_simp
      refine hK.out _ _ trivial (fun hHeld => ?_)
      clear hK K
      try simp only [Act.put, List.setIfInBounds_toArray, List.set_cons_zero, List.set_cons_succ]
      refine takeH (d := some (89 + 13)) (v := .int .i64 ((a : Int) + 1)) 13 rfl rfl (by kernel_rfl) (by kernel_rfl) (by kernel_rfl) (fun _ _ _ h => h) (by rfl) (fun w hSw => by (try dsimp only at hSw); go_simp; rw [HW.out]) hHeld ?_
      try simp only [Act.put, List.setIfInBounds_toArray, List.set_cons_zero, List.set_cons_succ]
      refine wpAnyH_ready (rs := [4]) (by kernel_rfl) (by simp) ?_
      refine AllReadyH.cons rfl (fun K hK => ?_) (AllReadyH.nil)
      go_simp
      refine hK.out _ _ trivial (fun hHeld => ?_)
      clear hK K
      try simp only [Act.put, List.setIfInBounds_toArray, List.set_cons_zero, List.set_cons_succ]
      clear e0 e1
      refine takeH (d := some (89 + 14)) (v := .string (s.extract a (a + 1))) 14 rfl rfl (by kernel_rfl) (by kernel_rfl) (by kernel_rfl) (fun _ _ _ h => h) (by rfl) (fun w hSw => by (try dsimp only at hSw); go_simp; rw [HSL.out]; rfl) hHeld ?_
      try simp only [Act.put, List.setIfInBounds_toArray, List.set_cons_zero, List.set_cons_succ]
      refine callH (d := some 104) 15 rfl rfl (by kernel_rfl) (by rfl) (by kernel_rfl) (put_calls HR.out 4 (s.extract a (a + 1)) 0 hl (by omega) (by simp; omega)) ?_
      rintro e w5 ⟨rfl, v5, hv⟩
      have HV := Aside0.mk hv
      clear hv
      refine ⟨_, rfl, trivial, fun hHeld => ?_⟩
      try simp only [Act.put, List.setIfInBounds_toArray, List.set_cons_zero, List.set_cons_succ]
      refine takeH (d := some 2) (v := ?_) 16 rfl rfl (by kernel_rfl) (by kernel_rfl) (by kernel_rfl) (fun _ _ _ h => h) (by rfl) ?_ hHeld ?_
      rotate_left
      · intro w hSw
        try dsimp only at hSw
        go_simp <;> with_reducible rfl
      try simp only [Act.put, List.setIfInBounds_toArray, List.set_cons_zero, List.set_cons_succ]
      refine wpAnyH_done (by kernel_rfl) ?_ _
      clear hHeld
      go_wp2_with fail
      go_ret
      rw [HE.out]
      have hz : (s.extract a (a + 1)).size = 1 := by simp; omega
      have h2 := one_text s a (a + 1) rfl ha
      rw [HC.out] at h2
      show PutPost w0 g s (a + 1) (ws ++ [⟨4, bytesS [c], ((0 : Nat) : Int), a⟩]) _ _
      rw [← h2]
      have h3 := HV.out
      rw [hz] at h3
      exact ⟨rfl, v5, h3⟩
  · go_simp
    refine hK.out _ _ trivial (fun hHeld => ?_)
    clear hK K
    try simp only [Act.put, List.setIfInBounds_toArray, List.set_cons_zero, List.set_cons_succ]
    refine takeH (d := some (89 + 13)) (v := .int .i64 ((a : Int) + 1)) 13 rfl rfl (by kernel_rfl) (by kernel_rfl) (by kernel_rfl) (fun _ _ _ h => h) (by rfl) (fun w hSw => by (try dsimp only at hSw); go_simp; rw [HW.out]) hHeld ?_
    try simp only [Act.put, List.setIfInBounds_toArray, List.set_cons_zero, List.set_cons_succ]
    refine wpAnyH_ready (rs := [4, 8]) (by kernel_rfl) (by simp) ?_
    refine AllReadyH.cons rfl (fun K hK => ?_) (AllReadyH.cons rfl (fun K hK => ?_) (AllReadyH.nil))
    · go_simp
      refine hK.out _ _ trivial (fun hHeld => ?_)
      clear hK K
      try simp only [Act.put, List.setIfInBounds_toArray, List.set_cons_zero, List.set_cons_succ]
      refine wpAnyH_ready (rs := [8]) (by kernel_rfl) (by simp) ?_
      refine AllReadyH.cons rfl (fun K hK => ?_) (AllReadyH.nil)
      go_simp
      refine hK.out _ _ trivial (fun hHeld => ?_)
      clear hK K
      try simp only [Act.put, List.setIfInBounds_toArray, List.set_cons_zero, List.set_cons_succ]
      clear e0 e1
      refine takeH (d := some (89 + 14)) (v := .string (s.extract a (a + 1))) 14 rfl rfl (by kernel_rfl) (by kernel_rfl) (by kernel_rfl) (fun _ _ _ h => h) (by rfl) (fun w hSw => by (try dsimp only at hSw); go_simp; rw [HSL.out]; rfl) hHeld ?_
      try simp only [Act.put, List.setIfInBounds_toArray, List.set_cons_zero, List.set_cons_succ]
      refine callH (d := some 104) 15 rfl rfl (by kernel_rfl) (by rfl) (by kernel_rfl) (put_calls HR.out 4 (s.extract a (a + 1)) 0 hl (by omega) (by simp; omega)) ?_
      rintro e w5 ⟨rfl, v5, hv⟩
      have HV := Aside0.mk hv
      clear hv
      refine ⟨_, rfl, trivial, fun hHeld => ?_⟩
      try simp only [Act.put, List.setIfInBounds_toArray, List.set_cons_zero, List.set_cons_succ]
      refine takeH (d := some 2) (v := ?_) 16 rfl rfl (by kernel_rfl) (by kernel_rfl) (by kernel_rfl) (fun _ _ _ h => h) (by rfl) ?_ hHeld ?_
      rotate_left
      · intro w hSw
        try dsimp only at hSw
        go_simp <;> with_reducible rfl
      try simp only [Act.put, List.setIfInBounds_toArray, List.set_cons_zero, List.set_cons_succ]
      refine wpAnyH_done (by kernel_rfl) ?_ _
      clear hHeld
      go_wp2_with fail
      go_ret
      rw [HE.out]
      have hz : (s.extract a (a + 1)).size = 1 := by simp; omega
      have h2 := one_text s a (a + 1) rfl ha
      rw [HC.out] at h2
      show PutPost w0 g s (a + 1) (ws ++ [⟨4, bytesS [c], ((0 : Nat) : Int), a⟩]) _ _
      rw [← h2]
      have h3 := HV.out
      rw [hz] at h3
      exact ⟨rfl, v5, h3⟩
    · go_simp
      refine hK.out _ _ trivial (fun hHeld => ?_)
      clear hK K
      try simp only [Act.put, List.setIfInBounds_toArray, List.set_cons_zero, List.set_cons_succ]
      refine wpAnyH_ready (rs := [4]) (by kernel_rfl) (by simp) ?_
      refine AllReadyH.cons rfl (fun K hK => ?_) (AllReadyH.nil)
      go_simp
      refine hK.out _ _ trivial (fun hHeld => ?_)
      clear hK K
      try simp only [Act.put, List.setIfInBounds_toArray, List.set_cons_zero, List.set_cons_succ]
      clear e0 e1
      refine takeH (d := some (89 + 14)) (v := .string (s.extract a (a + 1))) 14 rfl rfl (by kernel_rfl) (by kernel_rfl) (by kernel_rfl) (fun _ _ _ h => h) (by rfl) (fun w hSw => by (try dsimp only at hSw); go_simp; rw [HSL.out]; rfl) hHeld ?_
      try simp only [Act.put, List.setIfInBounds_toArray, List.set_cons_zero, List.set_cons_succ]
      refine callH (d := some 104) 15 rfl rfl (by kernel_rfl) (by rfl) (by kernel_rfl) (put_calls HR.out 4 (s.extract a (a + 1)) 0 hl (by omega) (by simp; omega)) ?_
      rintro e w5 ⟨rfl, v5, hv⟩
      have HV := Aside0.mk hv
      clear hv
      refine ⟨_, rfl, trivial, fun hHeld => ?_⟩
      try simp only [Act.put, List.setIfInBounds_toArray, List.set_cons_zero, List.set_cons_succ]
      refine takeH (d := some 2) (v := ?_) 16 rfl rfl (by kernel_rfl) (by kernel_rfl) (by kernel_rfl) (fun _ _ _ h => h) (by rfl) ?_ hHeld ?_
      rotate_left
      · intro w hSw
        try dsimp only at hSw
        go_simp <;> with_reducible rfl
      try simp only [Act.put, List.setIfInBounds_toArray, List.set_cons_zero, List.set_cons_succ]
      refine wpAnyH_done (by kernel_rfl) ?_ _
      clear hHeld
      go_wp2_with fail
      go_ret
      rw [HE.out]
      have hz : (s.extract a (a + 1)).size = 1 := by simp; omega
      have h2 := one_text s a (a + 1) rfl ha
      rw [HC.out] at h2
      show PutPost w0 g s (a + 1) (ws ++ [⟨4, bytesS [c], ((0 : Nat) : Int), a⟩]) _ _
      rw [← h2]
      have h3 := HV.out
      rw [hz] at h3
      exact ⟨rfl, v5, h3⟩
set_option maxRecDepth 100000 in
set_option maxHeartbeats 3200000 in
theorem word_last {w0 : World} {g : Nat} {s : ByteArray} {a : Nat} {v : Value} {ws : List S29} {w : World} {c : UInt8} (HR : Aside0 (Rd w0 g s a v ws w)) (ha : a < s.size) (hs : s.size ≤ 65536) (hl : ws.length ≤ 100000) (HC : Aside0 (s[a]'ha = c)) (HQ : Aside0 (((s[a]'ha).toNat : Int) = 45)) (HL : Aside0 (letU (s[a]'ha) = false)) (HD : Aside0 (digU (s[a]'ha) = false)) (hn : s.size ≤ a + 1) (r : SRes) (HE : Aside0 (r = .word 4 [c] 0)) :
    Calls Try.prog 17 #[.pointer (some ⟨g, 0, none⟩)] w (WordPost w0 g s a ws w r) := by
  go_enter Try.func17, Try.ntmps17
  go_wp2_with fail
  have e0 := (blk_cell HR.out.blk 0).trans rfl
  have e1 := (blk_cell HR.out.blk 1).trans rfl
  simp at e0 e1
  refine wp_region_held_drew (S := fun w' => w'.cell? ⟨g, 0, none⟩ = some (.string s) ∧ w'.cell? ⟨g, 1, none⟩ = some (.int .i64 (a : Int))) (by kernel_rfl) ⟨e0, e1⟩ (fun hHeld => ?_)
  clear e0 e1
  have HB := Aside0.mk ((Below.refl w.heap.size w).drew)
  replace HR := Aside0.mk (HR.out.after HB.out)
  refine takeH (d := some 5) (v := ?_) 0 rfl rfl (by kernel_rfl) (by kernel_rfl) (by kernel_rfl) (fun _ _ _ h => h) (by rfl) ?_ hHeld ?_
  rotate_left
  · intro w hSw
    try dsimp only at hSw
    go_simp <;> with_reducible rfl
  try simp only [Act.put, List.setIfInBounds_toArray, List.set_cons_zero, List.set_cons_succ]
  refine takeH (d := some 6) (v := ?_) 1 rfl rfl (by kernel_rfl) (by kernel_rfl) (by kernel_rfl) (fun _ _ _ h => h) (by rfl) ?_ hHeld ?_
  rotate_left
  · intro w hSw
    try dsimp only at hSw
    go_simp <;> with_reducible rfl
  try simp only [Act.put, List.setIfInBounds_toArray, List.set_cons_zero, List.set_cons_succ]
  refine takeH (d := some 7) (v := ?_) 2 rfl rfl (by kernel_rfl) (by kernel_rfl) (by kernel_rfl) (fun _ _ _ h => h) (by rfl) ?_ hHeld ?_
  rotate_left
  · intro w hSw
    try dsimp only at hSw
    go_simp <;> with_reducible rfl
  try simp only [Act.put, List.setIfInBounds_toArray, List.set_cons_zero, List.set_cons_succ]
  refine takeH (d := some 8) (v := ?_) 3 rfl rfl (by kernel_rfl) (by kernel_rfl) (by kernel_rfl) (fun _ _ _ h => h) (by rfl) ?_ hHeld ?_
  rotate_left
  · intro w hSw
    try dsimp only at hSw
    go_simp <;> with_reducible rfl
  try simp only [Act.put, List.setIfInBounds_toArray, List.set_cons_zero, List.set_cons_succ]
  refine takeH (d := some 9) (v := ?_) 4 rfl rfl (by kernel_rfl) (by kernel_rfl) (by kernel_rfl) (fun _ _ _ h => h) (by rfl) ?_ hHeld ?_
  rotate_left
  · intro w hSw
    try dsimp only at hSw
    go_simp <;> with_reducible rfl
  try simp only [Act.put, List.setIfInBounds_toArray, List.set_cons_zero, List.set_cons_succ]
  refine takeH (d := some 10) (v := ?_) 5 rfl rfl (by kernel_rfl) (by kernel_rfl) (by kernel_rfl) (fun _ _ _ h => h) (by rfl) ?_ hHeld ?_
  rotate_left
  · intro w hSw
    try dsimp only at hSw
    go_simp <;> with_reducible rfl
  try simp only [Act.put, List.setIfInBounds_toArray, List.set_cons_zero, List.set_cons_succ]
  refine takeH (d := some 11) (v := ?_) 6 rfl rfl (by kernel_rfl) (by kernel_rfl) (by kernel_rfl) (fun _ _ _ h => h) (by rfl) ?_ hHeld ?_
  rotate_left
  · intro w hSw
    try dsimp only at hSw
    go_simp <;> with_reducible rfl
  try simp only [Act.put, List.setIfInBounds_toArray, List.set_cons_zero, List.set_cons_succ]
  refine takeH (d := some 12) (v := ?_) 7 rfl rfl (by kernel_rfl) (by kernel_rfl) (by kernel_rfl) (fun _ _ _ h => h) (by rfl) ?_ hHeld ?_
  rotate_left
  · intro w hSw
    try dsimp only at hSw
    go_simp <;> with_reducible rfl
  try simp only [Act.put, List.setIfInBounds_toArray, List.set_cons_zero, List.set_cons_succ]
  refine takeH (d := some 13) (v := .int .u8 45) 8 rfl rfl (by kernel_rfl) (by kernel_rfl) (by kernel_rfl) (fun _ _ _ h => h) (by rfl) (fun w hSw => by (try dsimp only at hSw); go_simp; rw [HQ.out]) hHeld ?_
  try simp only [Act.put, List.setIfInBounds_toArray, List.set_cons_zero, List.set_cons_succ]
  refine takeH (d := some 3) (v := ?_) 9 rfl rfl (by kernel_rfl) (by kernel_rfl) (by kernel_rfl) (fun _ _ _ h => h) (by rfl) ?_ hHeld ?_
  rotate_left
  · intro w hSw
    try dsimp only at hSw
    go_simp <;> with_reducible rfl
  try simp only [Act.put, List.setIfInBounds_toArray, List.set_cons_zero, List.set_cons_succ]
  refine wpAnyH_done (by kernel_rfl) ?_ _
  clear hHeld
  generalize w.drew = w1 at *
  go_wp2_with fail
  refine (letter_q HQ.out _).mono ?_
  rw [HL.out]
  rintro e w2 ⟨rfl, hB⟩
  replace HR := Aside0.mk (HR.out.after hB)
  replace HB := Aside0.mk (below_then HB.out HB.out.size hB)
  clear hB
  go_wp2_with fail
  refine (digit_q HQ.out _).mono ?_
  rw [HD.out]
  rintro e w3 ⟨rfl, hB⟩
  replace HR := Aside0.mk (HR.out.after hB)
  replace HB := Aside0.mk (below_then HB.out HB.out.size hB)
  clear hB
  go_wp2_with fail
  refine wp_region_held_drew (S := fun w' => w'.cell? ⟨g, 0, none⟩ = some (.string s) ∧ w'.cell? ⟨g, 1, none⟩ = some (.int .i64 (a : Int))) (by kernel_rfl) ⟨(blk_cell HR.out.blk 0).trans rfl, (blk_cell HR.out.blk 1).trans rfl⟩ (fun hHeld => ?_)
  replace HR := Aside0.mk (HR.out.after ((Below.refl _ _).drew))
  replace HB := Aside0.mk (below_then HB.out HB.out.size ((Below.refl _ _).drew))
  generalize World.drew w3 = w5 at *
  have hW : IntKind.i64.wrap ((a : Int) + 1) = (a : Int) + 1 := IntWalk.i64_in _ (by omega)
  have HW := Aside0.mk hW
  clear hW
  refine takeH (d := some 63) (v := ?_) 0 rfl rfl (by kernel_rfl) (by kernel_rfl) (by kernel_rfl) (fun _ _ _ h => h) (by rfl) ?_ hHeld ?_
  rotate_left
  · intro w hSw
    try dsimp only at hSw
    go_simp <;> with_reducible rfl
  try simp only [Act.put, List.setIfInBounds_toArray, List.set_cons_zero, List.set_cons_succ]
  refine takeH (d := some 64) (v := ?_) 1 rfl rfl (by kernel_rfl) (by kernel_rfl) (by kernel_rfl) (fun _ _ _ h => h) (by rfl) ?_ hHeld ?_
  rotate_left
  · intro w hSw
    try dsimp only at hSw
    go_simp <;> with_reducible rfl
  try simp only [Act.put, List.setIfInBounds_toArray, List.set_cons_zero, List.set_cons_succ]
  refine takeH (d := some 65) (v := ?_) 2 rfl rfl (by kernel_rfl) (by kernel_rfl) (by kernel_rfl) (fun _ _ _ h => h) (by rfl) ?_ hHeld ?_
  rotate_left
  · intro w hSw
    try dsimp only at hSw
    go_simp <;> with_reducible rfl
  try simp only [Act.put, List.setIfInBounds_toArray, List.set_cons_zero, List.set_cons_succ]
  refine takeH (d := some 66) (v := ?_) 3 rfl rfl (by kernel_rfl) (by kernel_rfl) (by kernel_rfl) (fun _ _ _ h => h) (by rfl) ?_ hHeld ?_
  rotate_left
  · intro w hSw
    try dsimp only at hSw
    go_simp <;> with_reducible rfl
  try simp only [Act.put, List.setIfInBounds_toArray, List.set_cons_zero, List.set_cons_succ]
  refine takeH (d := some 67) (v := .int .i64 ((a : Int) + 1)) 4 rfl rfl (by kernel_rfl) (by kernel_rfl) (by kernel_rfl) (fun _ _ _ h => h) (by rfl) (fun w hSw => by (try dsimp only at hSw); go_simp; rw [HW.out]) hHeld ?_
  try simp only [Act.put, List.setIfInBounds_toArray, List.set_cons_zero, List.set_cons_succ]
  refine takeH (d := some 68) (v := ?_) 5 rfl rfl (by kernel_rfl) (by kernel_rfl) (by kernel_rfl) (fun _ _ _ h => h) (by rfl) ?_ hHeld ?_
  rotate_left
  · intro w hSw
    try dsimp only at hSw
    go_simp <;> with_reducible rfl
  try simp only [Act.put, List.setIfInBounds_toArray, List.set_cons_zero, List.set_cons_succ]
  refine takeH (d := some 69) (v := ?_) 6 rfl rfl (by kernel_rfl) (by kernel_rfl) (by kernel_rfl) (fun _ _ _ h => h) (by rfl) ?_ hHeld ?_
  rotate_left
  · intro w hSw
    try dsimp only at hSw
    go_simp <;> with_reducible rfl
  try simp only [Act.put, List.setIfInBounds_toArray, List.set_cons_zero, List.set_cons_succ]
  refine takeH (d := some 70) (v := ?_) 7 rfl rfl (by kernel_rfl) (by kernel_rfl) (by kernel_rfl) (fun _ _ _ h => h) (by rfl) ?_ hHeld ?_
  rotate_left
  · intro w hSw
    try dsimp only at hSw
    go_simp <;> with_reducible rfl
  try simp only [Act.put, List.setIfInBounds_toArray, List.set_cons_zero, List.set_cons_succ]
  refine takeH (d := some 71) (v := ?_) 8 rfl rfl (by kernel_rfl) (by kernel_rfl) (by kernel_rfl) (fun _ _ _ h => h) (by rfl) ?_ hHeld ?_
  rotate_left
  · intro w hSw
    try dsimp only at hSw
    go_simp <;> with_reducible rfl
  try simp only [Act.put, List.setIfInBounds_toArray, List.set_cons_zero, List.set_cons_succ]
  refine takeH (d := some 72) (v := ?_) 9 rfl rfl (by kernel_rfl) (by kernel_rfl) (by kernel_rfl) (fun _ _ _ h => h) (by rfl) ?_ hHeld ?_
  rotate_left
  · intro w hSw
    try dsimp only at hSw
    go_simp <;> with_reducible rfl
  try simp only [Act.put, List.setIfInBounds_toArray, List.set_cons_zero, List.set_cons_succ]
  have HLT := Aside0.mk hn
  refine takeH (d := some 73) (v := .bool false) 10 rfl rfl (by kernel_rfl) (by kernel_rfl) (by kernel_rfl) (fun _ _ _ h => h) (by rfl) (fun w hSw => by (try dsimp only at hSw); have := HLT.out; go_simp; first | omega | rw [decide_eq_false (by omega)] | (simp; omega)) hHeld ?_
  try simp only [Act.put, List.setIfInBounds_toArray, List.set_cons_zero, List.set_cons_succ]
  refine takeH (d := some 74) (v := ?_) 11 rfl rfl (by kernel_rfl) (by kernel_rfl) (by kernel_rfl) (fun _ _ _ h => h) (by rfl) ?_ hHeld ?_
  rotate_left
  · intro w hSw
    try dsimp only at hSw
    go_simp <;> with_reducible rfl
  try simp only [Act.put, List.setIfInBounds_toArray, List.set_cons_zero, List.set_cons_succ]
  refine passH (d := some 75) 12 rfl rfl (by kernel_rfl) (by kernel_rfl) (by kernel_rfl) (fun _ _ _ h => h) (by rfl) hHeld ?_
  try simp only [Act.put, List.setIfInBounds_toArray, List.set_cons_zero, List.set_cons_succ]
  refine passH (d := some 76) 13 rfl rfl (by kernel_rfl) (by kernel_rfl) (by kernel_rfl) (fun _ _ _ h => h) (by rfl) hHeld ?_
  try simp only [Act.put, List.setIfInBounds_toArray, List.set_cons_zero, List.set_cons_succ]
  refine passH (d := some 77) 14 rfl rfl (by kernel_rfl) (by kernel_rfl) (by kernel_rfl) (fun _ _ _ h => h) (by rfl) hHeld ?_
  try simp only [Act.put, List.setIfInBounds_toArray, List.set_cons_zero, List.set_cons_succ]
  refine passH (d := some 78) 15 rfl rfl (by kernel_rfl) (by kernel_rfl) (by kernel_rfl) (fun _ _ _ h => h) (by rfl) hHeld ?_
  try simp only [Act.put, List.setIfInBounds_toArray, List.set_cons_zero, List.set_cons_succ]
  refine passH (d := some 79) 16 rfl rfl (by kernel_rfl) (by kernel_rfl) (by kernel_rfl) (fun _ _ _ h => h) (by rfl) hHeld ?_
  try simp only [Act.put, List.setIfInBounds_toArray, List.set_cons_zero, List.set_cons_succ]
  refine passH (d := some 80) 17 rfl rfl (by kernel_rfl) (by kernel_rfl) (by kernel_rfl) (fun _ _ _ h => h) (by rfl) hHeld ?_
  try simp only [Act.put, List.setIfInBounds_toArray, List.set_cons_zero, List.set_cons_succ]
  refine passH (d := some 81) 18 rfl rfl (by kernel_rfl) (by kernel_rfl) (by kernel_rfl) (fun _ _ _ h => h) (by rfl) hHeld ?_
  try simp only [Act.put, List.setIfInBounds_toArray, List.set_cons_zero, List.set_cons_succ]
  refine passH (d := some 82) 19 rfl rfl (by kernel_rfl) (by kernel_rfl) (by kernel_rfl) (fun _ _ _ h => h) (by rfl) hHeld ?_
  try simp only [Act.put, List.setIfInBounds_toArray, List.set_cons_zero, List.set_cons_succ]
  refine passH (d := some 83) 20 rfl rfl (by kernel_rfl) (by kernel_rfl) (by kernel_rfl) (fun _ _ _ h => h) (by rfl) hHeld ?_
  try simp only [Act.put, List.setIfInBounds_toArray, List.set_cons_zero, List.set_cons_succ]
  refine passH (d := some 84) 21 rfl rfl (by kernel_rfl) (by kernel_rfl) (by kernel_rfl) (fun _ _ _ h => h) (by rfl) hHeld ?_
  try simp only [Act.put, List.setIfInBounds_toArray, List.set_cons_zero, List.set_cons_succ]
  refine passH (d := some 85) 22 rfl rfl (by kernel_rfl) (by kernel_rfl) (by kernel_rfl) (fun _ _ _ h => h) (by rfl) hHeld ?_
  try simp only [Act.put, List.setIfInBounds_toArray, List.set_cons_zero, List.set_cons_succ]
  refine takeH (d := some 86) (v := ?_) 23 rfl rfl (by kernel_rfl) (by kernel_rfl) (by kernel_rfl) (fun _ _ _ h => h) (by rfl) ?_ hHeld ?_
  rotate_left
  · intro w hSw
    try dsimp only at hSw
    go_simp <;> with_reducible rfl
  try simp only [Act.put, List.setIfInBounds_toArray, List.set_cons_zero, List.set_cons_succ]
  refine wpAnyH_done (by kernel_rfl) ?_ _
  clear hHeld
  go_wp2_with fail
  refine wp_region_held_drew (S := (fun _ => True)) (by kernel_rfl) trivial (fun hHeld => ?_)
  replace HR := Aside0.mk (HR.out.after ((Below.refl _ _).drew))
  replace HB := Aside0.mk (below_then HB.out HB.out.size ((Below.refl _ _).drew))
  generalize World.drew w5 = w4 at *
  have e0 := (blk_cell HR.out.blk 0).trans rfl
  have e1 := (blk_cell HR.out.blk 1).trans rfl
  simp at e0 e1
  refine takeH (d := some (89 + 0)) (v := ?_) 0 rfl rfl (by kernel_rfl) (by kernel_rfl) (by kernel_rfl) (fun _ _ _ h => h) (by rfl) ?_ hHeld ?_
  rotate_left
  · intro w hSw
    try dsimp only at hSw
    go_simp <;> with_reducible rfl
  try simp only [Act.put, List.setIfInBounds_toArray, List.set_cons_zero, List.set_cons_succ]
  refine takeH (d := some (89 + 1)) (v := ?_) 1 rfl rfl (by kernel_rfl) (by kernel_rfl) (by kernel_rfl) (fun _ _ _ h => h) (by rfl) ?_ hHeld ?_
  rotate_left
  · intro w hSw
    try dsimp only at hSw
    go_simp <;> with_reducible rfl
  try simp only [Act.put, List.setIfInBounds_toArray, List.set_cons_zero, List.set_cons_succ]
  refine takeH (d := some (89 + 2)) (v := ?_) 2 rfl rfl (by kernel_rfl) (by kernel_rfl) (by kernel_rfl) (fun _ _ _ h => h) (by rfl) ?_ hHeld ?_
  rotate_left
  · intro w hSw
    try dsimp only at hSw
    go_simp <;> with_reducible rfl
  try simp only [Act.put, List.setIfInBounds_toArray, List.set_cons_zero, List.set_cons_succ]
  refine takeH (d := some (89 + 3)) (v := ?_) 3 rfl rfl (by kernel_rfl) (by kernel_rfl) (by kernel_rfl) (fun _ _ _ h => h) (by rfl) ?_ hHeld ?_
  rotate_left
  · intro w hSw
    try dsimp only at hSw
    go_simp <;> with_reducible rfl
  try simp only [Act.put, List.setIfInBounds_toArray, List.set_cons_zero, List.set_cons_succ]
  refine takeH (d := some (89 + 5)) (v := ?_) 5 rfl rfl (by kernel_rfl) (by kernel_rfl) (by kernel_rfl) (fun _ _ _ h => h) (by rfl) ?_ hHeld ?_
  rotate_left
  · intro w hSw
    try dsimp only at hSw
    go_simp <;> with_reducible rfl
  try simp only [Act.put, List.setIfInBounds_toArray, List.set_cons_zero, List.set_cons_succ]
  refine takeH (d := some (89 + 6)) (v := ?_) 6 rfl rfl (by kernel_rfl) (by kernel_rfl) (by kernel_rfl) (fun _ _ _ h => h) (by rfl) ?_ hHeld ?_
  rotate_left
  · intro w hSw
    try dsimp only at hSw
    go_simp <;> with_reducible rfl
  try simp only [Act.put, List.setIfInBounds_toArray, List.set_cons_zero, List.set_cons_succ]
  refine takeH (d := some (89 + 7)) (v := ?_) 7 rfl rfl (by kernel_rfl) (by kernel_rfl) (by kernel_rfl) (fun _ _ _ h => h) (by rfl) ?_ hHeld ?_
  rotate_left
  · intro w hSw
    try dsimp only at hSw
    go_simp <;> with_reducible rfl
  try simp only [Act.put, List.setIfInBounds_toArray, List.set_cons_zero, List.set_cons_succ]
  refine takeH (d := some (89 + 9)) (v := ?_) 9 rfl rfl (by kernel_rfl) (by kernel_rfl) (by kernel_rfl) (fun _ _ _ h => h) (by rfl) ?_ hHeld ?_
  rotate_left
  · intro w hSw
    try dsimp only at hSw
    go_simp <;> with_reducible rfl
  try simp only [Act.put, List.setIfInBounds_toArray, List.set_cons_zero, List.set_cons_succ]
  refine takeH (d := some (89 + 10)) (v := ?_) 10 rfl rfl (by kernel_rfl) (by kernel_rfl) (by kernel_rfl) (fun _ _ _ h => h) (by rfl) ?_ hHeld ?_
  rotate_left
  · intro w hSw
    try dsimp only at hSw
    go_simp <;> with_reducible rfl
  try simp only [Act.put, List.setIfInBounds_toArray, List.set_cons_zero, List.set_cons_succ]
  refine takeH (d := some (89 + 11)) (v := ?_) 11 rfl rfl (by kernel_rfl) (by kernel_rfl) (by kernel_rfl) (fun _ _ _ h => h) (by rfl) ?_ hHeld ?_
  rotate_left
  · intro w hSw
    try dsimp only at hSw
    go_simp <;> with_reducible rfl
  try simp only [Act.put, List.setIfInBounds_toArray, List.set_cons_zero, List.set_cons_succ]
  have hW : IntKind.i64.wrap ((a : Int) + 1) = (a : Int) + 1 := IntWalk.i64_in _ (by omega)
  have HW := Aside0.mk hW
  have HSL : Aside0 (∀ wx, (Instr.slice 9 (.string s) (some (.int .i64 (a : Int))) (some (.int .i64 ((a : Int) + 1))) none).run Try.prog wx = .ok (.string (s.extract a (a + 1))) wx) := .mk (fun wx => (run_slice_string (P := Try.prog) wx 9 s .i64 .i64 (a : Int) ((a : Int) + 1) Try.underlying9 (by omega) (by omega) (by omega)).trans rfl)
  clear hW
  refine wpAnyH_ready (rs := [4, 8, 12]) (by kernel_rfl) (by simp) ?_
  refine AllReadyH.cons rfl (fun K hK => ?_) (AllReadyH.cons rfl (fun K hK => ?_) (AllReadyH.cons rfl (fun K hK => ?_) (AllReadyH.nil)))
  · go_simp
    refine hK.out _ _ trivial (fun hHeld => ?_)
    clear hK K
    try simp only [Act.put, List.setIfInBounds_toArray, List.set_cons_zero, List.set_cons_succ]
    refine wpAnyH_ready (rs := [8, 12]) (by kernel_rfl) (by simp) ?_
    refine AllReadyH.cons rfl (fun K hK => ?_) (AllReadyH.cons rfl (fun K hK => ?_) (AllReadyH.nil))
    · go_simp
      refine hK.out _ _ trivial (fun hHeld => ?_)
      clear hK K
      try simp only [Act.put, List.setIfInBounds_toArray, List.set_cons_zero, List.set_cons_succ]
      refine wpAnyH_ready (rs := [12]) (by kernel_rfl) (by simp) ?_
      refine AllReadyH.cons rfl (fun K hK => ?_) (AllReadyH.nil)
      go_simp
      refine hK.out _ _ trivial (fun hHeld => ?_)
      clear hK K
      try simp only [Act.put, List.setIfInBounds_toArray, List.set_cons_zero, List.set_cons_succ]
      refine takeH (d := some (89 + 13)) (v := .int .i64 ((a : Int) + 1)) 13 rfl rfl (by kernel_rfl) (by kernel_rfl) (by kernel_rfl) (fun _ _ _ h => h) (by rfl) (fun w hSw => by (try dsimp only at hSw); go_simp; rw [HW.out]) hHeld ?_
      try simp only [Act.put, List.setIfInBounds_toArray, List.set_cons_zero, List.set_cons_succ]
      clear e0 e1
      refine takeH (d := some (89 + 14)) (v := .string (s.extract a (a + 1))) 14 rfl rfl (by kernel_rfl) (by kernel_rfl) (by kernel_rfl) (fun _ _ _ h => h) (by rfl) (fun w hSw => by (try dsimp only at hSw); go_simp; rw [HSL.out]; rfl) hHeld ?_
      try simp only [Act.put, List.setIfInBounds_toArray, List.set_cons_zero, List.set_cons_succ]
      refine callH (d := some 104) 15 rfl rfl (by kernel_rfl) (by rfl) (by kernel_rfl) (put_calls HR.out 4 (s.extract a (a + 1)) 0 hl (by omega) (by simp; omega)) ?_
      rintro e w5 ⟨rfl, v5, hv⟩
      have HV := Aside0.mk hv
      clear hv
      refine ⟨_, rfl, trivial, fun hHeld => ?_⟩
      try simp only [Act.put, List.setIfInBounds_toArray, List.set_cons_zero, List.set_cons_succ]
      refine takeH (d := some 2) (v := ?_) 16 rfl rfl (by kernel_rfl) (by kernel_rfl) (by kernel_rfl) (fun _ _ _ h => h) (by rfl) ?_ hHeld ?_
      rotate_left
      · intro w hSw
        try dsimp only at hSw
        go_simp <;> with_reducible rfl
      try simp only [Act.put, List.setIfInBounds_toArray, List.set_cons_zero, List.set_cons_succ]
      refine wpAnyH_done (by kernel_rfl) ?_ _
      clear hHeld
      go_wp2_with fail
      go_ret
      rw [HE.out]
      have hz : (s.extract a (a + 1)).size = 1 := by simp; omega
      have h2 := one_text s a (a + 1) rfl ha
      rw [HC.out] at h2
      show PutPost w0 g s (a + 1) (ws ++ [⟨4, bytesS [c], ((0 : Nat) : Int), a⟩]) _ _
      rw [← h2]
      have h3 := HV.out
      rw [hz] at h3
      exact ⟨rfl, v5, h3⟩
    · go_simp
      refine hK.out _ _ trivial (fun hHeld => ?_)
      clear hK K
      try simp only [Act.put, List.setIfInBounds_toArray, List.set_cons_zero, List.set_cons_succ]
      refine takeH (d := some (89 + 13)) (v := .int .i64 ((a : Int) + 1)) 13 rfl rfl (by kernel_rfl) (by kernel_rfl) (by kernel_rfl) (fun _ _ _ h => h) (by rfl) (fun w hSw => by (try dsimp only at hSw); go_simp; rw [HW.out]) hHeld ?_
      try simp only [Act.put, List.setIfInBounds_toArray, List.set_cons_zero, List.set_cons_succ]
      refine wpAnyH_ready (rs := [8]) (by kernel_rfl) (by simp) ?_
      refine AllReadyH.cons rfl (fun K hK => ?_) (AllReadyH.nil)
      go_simp
      refine hK.out _ _ trivial (fun hHeld => ?_)
      clear hK K
      try simp only [Act.put, List.setIfInBounds_toArray, List.set_cons_zero, List.set_cons_succ]
      clear e0 e1
      refine takeH (d := some (89 + 14)) (v := .string (s.extract a (a + 1))) 14 rfl rfl (by kernel_rfl) (by kernel_rfl) (by kernel_rfl) (fun _ _ _ h => h) (by rfl) (fun w hSw => by (try dsimp only at hSw); go_simp; rw [HSL.out]; rfl) hHeld ?_
      try simp only [Act.put, List.setIfInBounds_toArray, List.set_cons_zero, List.set_cons_succ]
      refine callH (d := some 104) 15 rfl rfl (by kernel_rfl) (by rfl) (by kernel_rfl) (put_calls HR.out 4 (s.extract a (a + 1)) 0 hl (by omega) (by simp; omega)) ?_
      rintro e w5 ⟨rfl, v5, hv⟩
      have HV := Aside0.mk hv
      clear hv
      refine ⟨_, rfl, trivial, fun hHeld => ?_⟩
      try simp only [Act.put, List.setIfInBounds_toArray, List.set_cons_zero, List.set_cons_succ]
      refine takeH (d := some 2) (v := ?_) 16 rfl rfl (by kernel_rfl) (by kernel_rfl) (by kernel_rfl) (fun _ _ _ h => h) (by rfl) ?_ hHeld ?_
      rotate_left
      · intro w hSw
        try dsimp only at hSw
        go_simp <;> with_reducible rfl
      try simp only [Act.put, List.setIfInBounds_toArray, List.set_cons_zero, List.set_cons_succ]
      refine wpAnyH_done (by kernel_rfl) ?_ _
      clear hHeld
      go_wp2_with fail
      go_ret
      rw [HE.out]
      have hz : (s.extract a (a + 1)).size = 1 := by simp; omega
      have h2 := one_text s a (a + 1) rfl ha
      rw [HC.out] at h2
      show PutPost w0 g s (a + 1) (ws ++ [⟨4, bytesS [c], ((0 : Nat) : Int), a⟩]) _ _
      rw [← h2]
      have h3 := HV.out
      rw [hz] at h3
      exact ⟨rfl, v5, h3⟩
  · go_simp
    refine hK.out _ _ trivial (fun hHeld => ?_)
    clear hK K
    try simp only [Act.put, List.setIfInBounds_toArray, List.set_cons_zero, List.set_cons_succ]
    refine wpAnyH_ready (rs := [4, 12]) (by kernel_rfl) (by simp) ?_
    refine AllReadyH.cons rfl (fun K hK => ?_) (AllReadyH.cons rfl (fun K hK => ?_) (AllReadyH.nil))
    · go_simp
      refine hK.out _ _ trivial (fun hHeld => ?_)
      clear hK K
      try simp only [Act.put, List.setIfInBounds_toArray, List.set_cons_zero, List.set_cons_succ]
      refine wpAnyH_ready (rs := [12]) (by kernel_rfl) (by simp) ?_
      refine AllReadyH.cons rfl (fun K hK => ?_) (AllReadyH.nil)
      go_simp
      refine hK.out _ _ trivial (fun hHeld => ?_)
      clear hK K
      try simp only [Act.put, List.setIfInBounds_toArray, List.set_cons_zero, List.set_cons_succ]
      refine takeH (d := some (89 + 13)) (v := .int .i64 ((a : Int) + 1)) 13 rfl rfl (by kernel_rfl) (by kernel_rfl) (by kernel_rfl) (fun _ _ _ h => h) (by rfl) (fun w hSw => by (try dsimp only at hSw); go_simp; rw [HW.out]) hHeld ?_
      try simp only [Act.put, List.setIfInBounds_toArray, List.set_cons_zero, List.set_cons_succ]
      clear e0 e1
      refine takeH (d := some (89 + 14)) (v := .string (s.extract a (a + 1))) 14 rfl rfl (by kernel_rfl) (by kernel_rfl) (by kernel_rfl) (fun _ _ _ h => h) (by rfl) (fun w hSw => by (try dsimp only at hSw); go_simp; rw [HSL.out]; rfl) hHeld ?_
      try simp only [Act.put, List.setIfInBounds_toArray, List.set_cons_zero, List.set_cons_succ]
      refine callH (d := some 104) 15 rfl rfl (by kernel_rfl) (by rfl) (by kernel_rfl) (put_calls HR.out 4 (s.extract a (a + 1)) 0 hl (by omega) (by simp; omega)) ?_
      rintro e w5 ⟨rfl, v5, hv⟩
      have HV := Aside0.mk hv
      clear hv
      refine ⟨_, rfl, trivial, fun hHeld => ?_⟩
      try simp only [Act.put, List.setIfInBounds_toArray, List.set_cons_zero, List.set_cons_succ]
      refine takeH (d := some 2) (v := ?_) 16 rfl rfl (by kernel_rfl) (by kernel_rfl) (by kernel_rfl) (fun _ _ _ h => h) (by rfl) ?_ hHeld ?_
      rotate_left
      · intro w hSw
        try dsimp only at hSw
        go_simp <;> with_reducible rfl
      try simp only [Act.put, List.setIfInBounds_toArray, List.set_cons_zero, List.set_cons_succ]
      refine wpAnyH_done (by kernel_rfl) ?_ _
      clear hHeld
      go_wp2_with fail
      go_ret
      rw [HE.out]
      have hz : (s.extract a (a + 1)).size = 1 := by simp; omega
      have h2 := one_text s a (a + 1) rfl ha
      rw [HC.out] at h2
      show PutPost w0 g s (a + 1) (ws ++ [⟨4, bytesS [c], ((0 : Nat) : Int), a⟩]) _ _
      rw [← h2]
      have h3 := HV.out
      rw [hz] at h3
      exact ⟨rfl, v5, h3⟩
    · go_simp
      refine hK.out _ _ trivial (fun hHeld => ?_)
      clear hK K
      try simp only [Act.put, List.setIfInBounds_toArray, List.set_cons_zero, List.set_cons_succ]
      refine takeH (d := some (89 + 13)) (v := .int .i64 ((a : Int) + 1)) 13 rfl rfl (by kernel_rfl) (by kernel_rfl) (by kernel_rfl) (fun _ _ _ h => h) (by rfl) (fun w hSw => by (try dsimp only at hSw); go_simp; rw [HW.out]) hHeld ?_
      try simp only [Act.put, List.setIfInBounds_toArray, List.set_cons_zero, List.set_cons_succ]
      refine wpAnyH_ready (rs := [4]) (by kernel_rfl) (by simp) ?_
      refine AllReadyH.cons rfl (fun K hK => ?_) (AllReadyH.nil)
      go_simp
      refine hK.out _ _ trivial (fun hHeld => ?_)
      clear hK K
      try simp only [Act.put, List.setIfInBounds_toArray, List.set_cons_zero, List.set_cons_succ]
      clear e0 e1
      refine takeH (d := some (89 + 14)) (v := .string (s.extract a (a + 1))) 14 rfl rfl (by kernel_rfl) (by kernel_rfl) (by kernel_rfl) (fun _ _ _ h => h) (by rfl) (fun w hSw => by (try dsimp only at hSw); go_simp; rw [HSL.out]; rfl) hHeld ?_
      try simp only [Act.put, List.setIfInBounds_toArray, List.set_cons_zero, List.set_cons_succ]
      refine callH (d := some 104) 15 rfl rfl (by kernel_rfl) (by rfl) (by kernel_rfl) (put_calls HR.out 4 (s.extract a (a + 1)) 0 hl (by omega) (by simp; omega)) ?_
      rintro e w5 ⟨rfl, v5, hv⟩
      have HV := Aside0.mk hv
      clear hv
      refine ⟨_, rfl, trivial, fun hHeld => ?_⟩
      try simp only [Act.put, List.setIfInBounds_toArray, List.set_cons_zero, List.set_cons_succ]
      refine takeH (d := some 2) (v := ?_) 16 rfl rfl (by kernel_rfl) (by kernel_rfl) (by kernel_rfl) (fun _ _ _ h => h) (by rfl) ?_ hHeld ?_
      rotate_left
      · intro w hSw
        try dsimp only at hSw
        go_simp <;> with_reducible rfl
      try simp only [Act.put, List.setIfInBounds_toArray, List.set_cons_zero, List.set_cons_succ]
      refine wpAnyH_done (by kernel_rfl) ?_ _
      clear hHeld
      go_wp2_with fail
      go_ret
      rw [HE.out]
      have hz : (s.extract a (a + 1)).size = 1 := by simp; omega
      have h2 := one_text s a (a + 1) rfl ha
      rw [HC.out] at h2
      show PutPost w0 g s (a + 1) (ws ++ [⟨4, bytesS [c], ((0 : Nat) : Int), a⟩]) _ _
      rw [← h2]
      have h3 := HV.out
      rw [hz] at h3
      exact ⟨rfl, v5, h3⟩
  · go_simp
    refine hK.out _ _ trivial (fun hHeld => ?_)
    clear hK K
    try simp only [Act.put, List.setIfInBounds_toArray, List.set_cons_zero, List.set_cons_succ]
    refine takeH (d := some (89 + 13)) (v := .int .i64 ((a : Int) + 1)) 13 rfl rfl (by kernel_rfl) (by kernel_rfl) (by kernel_rfl) (fun _ _ _ h => h) (by rfl) (fun w hSw => by (try dsimp only at hSw); go_simp; rw [HW.out]) hHeld ?_
    try simp only [Act.put, List.setIfInBounds_toArray, List.set_cons_zero, List.set_cons_succ]
    refine wpAnyH_ready (rs := [4, 8]) (by kernel_rfl) (by simp) ?_
    refine AllReadyH.cons rfl (fun K hK => ?_) (AllReadyH.cons rfl (fun K hK => ?_) (AllReadyH.nil))
    · go_simp
      refine hK.out _ _ trivial (fun hHeld => ?_)
      clear hK K
      try simp only [Act.put, List.setIfInBounds_toArray, List.set_cons_zero, List.set_cons_succ]
      refine wpAnyH_ready (rs := [8]) (by kernel_rfl) (by simp) ?_
      refine AllReadyH.cons rfl (fun K hK => ?_) (AllReadyH.nil)
      go_simp
      refine hK.out _ _ trivial (fun hHeld => ?_)
      clear hK K
      try simp only [Act.put, List.setIfInBounds_toArray, List.set_cons_zero, List.set_cons_succ]
      clear e0 e1
      refine takeH (d := some (89 + 14)) (v := .string (s.extract a (a + 1))) 14 rfl rfl (by kernel_rfl) (by kernel_rfl) (by kernel_rfl) (fun _ _ _ h => h) (by rfl) (fun w hSw => by (try dsimp only at hSw); go_simp; rw [HSL.out]; rfl) hHeld ?_
      try simp only [Act.put, List.setIfInBounds_toArray, List.set_cons_zero, List.set_cons_succ]
      refine callH (d := some 104) 15 rfl rfl (by kernel_rfl) (by rfl) (by kernel_rfl) (put_calls HR.out 4 (s.extract a (a + 1)) 0 hl (by omega) (by simp; omega)) ?_
      rintro e w5 ⟨rfl, v5, hv⟩
      have HV := Aside0.mk hv
      clear hv
      refine ⟨_, rfl, trivial, fun hHeld => ?_⟩
      try simp only [Act.put, List.setIfInBounds_toArray, List.set_cons_zero, List.set_cons_succ]
      refine takeH (d := some 2) (v := ?_) 16 rfl rfl (by kernel_rfl) (by kernel_rfl) (by kernel_rfl) (fun _ _ _ h => h) (by rfl) ?_ hHeld ?_
      rotate_left
      · intro w hSw
        try dsimp only at hSw
        go_simp <;> with_reducible rfl
      try simp only [Act.put, List.setIfInBounds_toArray, List.set_cons_zero, List.set_cons_succ]
      refine wpAnyH_done (by kernel_rfl) ?_ _
      clear hHeld
      go_wp2_with fail
      go_ret
      rw [HE.out]
      have hz : (s.extract a (a + 1)).size = 1 := by simp; omega
      have h2 := one_text s a (a + 1) rfl ha
      rw [HC.out] at h2
      show PutPost w0 g s (a + 1) (ws ++ [⟨4, bytesS [c], ((0 : Nat) : Int), a⟩]) _ _
      rw [← h2]
      have h3 := HV.out
      rw [hz] at h3
      exact ⟨rfl, v5, h3⟩
    · go_simp
      refine hK.out _ _ trivial (fun hHeld => ?_)
      clear hK K
      try simp only [Act.put, List.setIfInBounds_toArray, List.set_cons_zero, List.set_cons_succ]
      refine wpAnyH_ready (rs := [4]) (by kernel_rfl) (by simp) ?_
      refine AllReadyH.cons rfl (fun K hK => ?_) (AllReadyH.nil)
      go_simp
      refine hK.out _ _ trivial (fun hHeld => ?_)
      clear hK K
      try simp only [Act.put, List.setIfInBounds_toArray, List.set_cons_zero, List.set_cons_succ]
      clear e0 e1
      refine takeH (d := some (89 + 14)) (v := .string (s.extract a (a + 1))) 14 rfl rfl (by kernel_rfl) (by kernel_rfl) (by kernel_rfl) (fun _ _ _ h => h) (by rfl) (fun w hSw => by (try dsimp only at hSw); go_simp; rw [HSL.out]; rfl) hHeld ?_
      try simp only [Act.put, List.setIfInBounds_toArray, List.set_cons_zero, List.set_cons_succ]
      refine callH (d := some 104) 15 rfl rfl (by kernel_rfl) (by rfl) (by kernel_rfl) (put_calls HR.out 4 (s.extract a (a + 1)) 0 hl (by omega) (by simp; omega)) ?_
      rintro e w5 ⟨rfl, v5, hv⟩
      have HV := Aside0.mk hv
      clear hv
      refine ⟨_, rfl, trivial, fun hHeld => ?_⟩
      try simp only [Act.put, List.setIfInBounds_toArray, List.set_cons_zero, List.set_cons_succ]
      refine takeH (d := some 2) (v := ?_) 16 rfl rfl (by kernel_rfl) (by kernel_rfl) (by kernel_rfl) (fun _ _ _ h => h) (by rfl) ?_ hHeld ?_
      rotate_left
      · intro w hSw
        try dsimp only at hSw
        go_simp <;> with_reducible rfl
      try simp only [Act.put, List.setIfInBounds_toArray, List.set_cons_zero, List.set_cons_succ]
      refine wpAnyH_done (by kernel_rfl) ?_ _
      clear hHeld
      go_wp2_with fail
      go_ret
      rw [HE.out]
      have hz : (s.extract a (a + 1)).size = 1 := by simp; omega
      have h2 := one_text s a (a + 1) rfl ha
      rw [HC.out] at h2
      show PutPost w0 g s (a + 1) (ws ++ [⟨4, bytesS [c], ((0 : Nat) : Int), a⟩]) _ _
      rw [← h2]
      have h3 := HV.out
      rw [hz] at h3
      exact ⟨rfl, v5, h3⟩
end Go.Proofs.Ytjmpejbciniceaa.X
/- The contract of scan's method word: all cases. -/
namespace Go.Proofs.Ytjmpejbciniceaa.X
open Go.RowKit Go.Proofs.YtjmpejbciniceaaW.PrintWords Go.Proofs.YtjmpejbciniceaaW.PrintLast Go.Proofs.YtjmpejbciniceaaW.PrintMore
set_option linter.unusedVariables false
set_option linter.unusedSimpArgs false

theorem span_cons (c : UInt8) (l : List UInt8) (b : Bool) (h : spanP b c = true) : (c :: l).takeWhile (spanP b) = c :: l.takeWhile (spanP b) := by
  rw [List.takeWhile_cons, if_pos h]
theorem q_ne {c d : UInt8} (h : c ≠ d) : ((c.toNat : Int) == (d.toNat : Int)) = false := by
  rw [beq_eq_false_iff_ne]
  intro e
  apply h
  rw [← UInt8.toNat_inj]
  omega
theorem word_calls {w0 : World} {g : Nat} {s : ByteArray} {a : Nat} {v : Value} {ws : List S29} {w : World} (h : Rd w0 g s a v ws w) (ha : a < s.size) (hs : s.size ≤ 65536) (hl : ws.length ≤ 100000) :
    Calls Try.prog 17 #[.pointer (some ⟨g, 0, none⟩)] w (WordPost w0 g s a ws w (wordR (s.data.toList.drop a))) := by
  have HR := Aside0.mk h
  have hd := drop_at s a ha
  cases hL : letU (s[a]'ha) with
  | true =>
    refine word_letter HR ha hs hl (.mk rfl) (.mk rfl) (.mk hL) _ (.mk rfl) _ (.mk rfl) _ (.mk ?_)
    rw [hd, span_cons _ _ true (by simp [spanP, hL]), wordR, if_pos hL, span_true]
  | false =>
    cases hD : digU (s[a]'ha) with
    | true =>
      refine word_digit HR ha hs hl (.mk rfl) (.mk rfl) (.mk hL) (.mk hD) _ (.mk rfl) ?_ _ (.mk rfl) _ (.mk ?_)
      · rw [hd, span_cons _ _ false (by simp [spanP, hD])]
        simp
      · have e1 : s.data.toList.drop (a + ((s.data.toList.drop a).takeWhile (spanP false)).length) = (s.data.toList.drop a).dropWhile (spanP false) := by
          rw [← drop_while_len, List.drop_drop]
        rw [e1, hd, span_cons _ _ false (by simp [spanP, hD]), wordR, if_neg (by simp [hL]), if_pos hD, numS, span_false]
        rw [List.dropWhile_cons, if_pos hD]
        simp only [bytesS, List.toList_toArray, List.head?_cons, Option.some.injEq]
        cases numR (s[a] :: List.takeWhile digU (List.drop (a + 1) s.data.toList)) 0 with
        | none => rfl
        | some n => first | rfl | (simp only []; congr)
    | false =>
      have hw : wordR (s.data.toList.drop a) = if s[a]'ha = 45 ∧ (s.data.toList.drop (a + 1)).head? = some 62 then .word 4 [45, 62] 0 else if signU (s[a]'ha) then .word 4 [s[a]'ha] 0 else .fault 10 [s[a]'ha] := by
        rw [hd, wordR, if_neg (by simp [hL]), if_neg (by simp [hD])]
      have HL := Aside0.mk hL
      have HD := Aside0.mk hD
      by_cases h45 : s[a]'ha = 45
      · have hq : ((s[a]'ha).toNat : Int) = 45 := by rw [h45]; rfl
        by_cases hn : a + 1 < s.size
        · have hd1 := drop_at s (a + 1) hn
          by_cases h62 : s[a + 1]'hn = 62
          · refine word_arrow HR ha hs hl (.mk rfl) (.mk hq) HL HD hn (.mk (by rw [h62]; rfl)) _ (.mk ?_)
            rw [hw, hd1, if_pos ⟨h45, by rw [h62]; rfl⟩]
          · refine word_dash HR ha hs hl (.mk h45) (.mk hq) HL HD hn (.mk rfl) (q_ne h62) _ (.mk ?_)
            rw [hw, hd1, if_neg (by intro h; exact h62 (by simpa using h.2)), if_pos (by rw [h45]; rfl), h45]
        · refine word_last HR ha hs hl (.mk h45) (.mk hq) HL HD (by omega) _ (.mk ?_)
          rw [hw, if_neg (by intro h; have := h.2; rw [List.drop_eq_nil_of_le (by simp; omega)] at this; simp at this), if_pos (by rw [h45]; rfl), h45]
      · rw [if_neg (fun h => h45 h.1)] at hw
        by_cases hS : signU (s[a]'ha) = true
        · rw [if_pos hS] at hw
          have hm : s[a]'ha ∈ signsU := by unfold signU at hS; exact List.contains_iff_mem.1 hS
          unfold signsU at hm
          simp only [List.mem_cons, List.not_mem_nil, or_false] at hm
          rcases hm with hm | hm | hm | hm | hm | hm | hm | hm | hm | hm | hm | hm | hm | hm | hm | hm | hm | hm | hm | hm
          · exact word_sign92 HR ha hs hl (.mk rfl) (.mk (by rw [hm]; rfl)) HL HD _ (.mk hw)
          · exact word_sign46 HR ha hs hl (.mk rfl) (.mk (by rw [hm]; rfl)) HL HD _ (.mk hw)
          · exact word_sign58 HR ha hs hl (.mk rfl) (.mk (by rw [hm]; rfl)) HL HD _ (.mk hw)
          · exact word_sign61 HR ha hs hl (.mk rfl) (.mk (by rw [hm]; rfl)) HL HD _ (.mk hw)
          · exact word_sign40 HR ha hs hl (.mk rfl) (.mk (by rw [hm]; rfl)) HL HD _ (.mk hw)
          · exact word_sign41 HR ha hs hl (.mk rfl) (.mk (by rw [hm]; rfl)) HL HD _ (.mk hw)
          · exact word_sign91 HR ha hs hl (.mk rfl) (.mk (by rw [hm]; rfl)) HL HD _ (.mk hw)
          · exact word_sign93 HR ha hs hl (.mk rfl) (.mk (by rw [hm]; rfl)) HL HD _ (.mk hw)
          · exact word_sign123 HR ha hs hl (.mk rfl) (.mk (by rw [hm]; rfl)) HL HD _ (.mk hw)
          · exact word_sign125 HR ha hs hl (.mk rfl) (.mk (by rw [hm]; rfl)) HL HD _ (.mk hw)
          · exact word_sign44 HR ha hs hl (.mk rfl) (.mk (by rw [hm]; rfl)) HL HD _ (.mk hw)
          · exact word_sign124 HR ha hs hl (.mk rfl) (.mk (by rw [hm]; rfl)) HL HD _ (.mk hw)
          · exact word_sign43 HR ha hs hl (.mk rfl) (.mk (by rw [hm]; rfl)) HL HD _ (.mk hw)
          · exact absurd hm h45
          · exact word_sign42 HR ha hs hl (.mk rfl) (.mk (by rw [hm]; rfl)) HL HD _ (.mk hw)
          · exact word_sign47 HR ha hs hl (.mk rfl) (.mk (by rw [hm]; rfl)) HL HD _ (.mk hw)
          · exact word_sign60 HR ha hs hl (.mk rfl) (.mk (by rw [hm]; rfl)) HL HD _ (.mk hw)
          · exact word_sign62 HR ha hs hl (.mk rfl) (.mk (by rw [hm]; rfl)) HL HD _ (.mk hw)
          · exact word_sign63 HR ha hs hl (.mk rfl) (.mk (by rw [hm]; rfl)) HL HD _ (.mk hw)
          · exact word_sign59 HR ha hs hl (.mk rfl) (.mk (by rw [hm]; rfl)) HL HD _ (.mk hw)
        · rw [if_neg hS] at hw
          have hm : ∀ d ∈ signsU, s[a]'ha ≠ d := fun d hd e => hS (by unfold signU; rw [e]; exact List.contains_iff_mem.2 hd)
          have z : ∀ d ∈ signsU, (((s[a]'ha).toNat : Int) == (d.toNat : Int)) = false := fun d hd => q_ne (hm d hd)
          exact word_other HR ha hs hl (.mk rfl) (.mk rfl) HL HD (z 92 (by decide)) (z 46 (by decide)) (z 58 (by decide)) (z 61 (by decide)) (z 40 (by decide)) (z 41 (by decide)) (z 91 (by decide)) (z 93 (by decide)) (z 123 (by decide)) (z 125 (by decide)) (z 44 (by decide)) (z 124 (by decide)) (z 43 (by decide)) (z 42 (by decide)) (z 47 (by decide)) (z 60 (by decide)) (z 62 (by decide)) (z 63 (by decide)) (z 59 (by decide)) (z 45 (by decide)) _ (.mk hw)
end Go.Proofs.Ytjmpejbciniceaa.X
/- scan over lists: from the rest of a text on. -/
namespace Go.Proofs.Ytjmpejbciniceaa.X
set_option linter.unusedVariables false
set_option linter.unusedSimpArgs false

theorem skip_len (l : List UInt8) (rem : Bool) : (skipR l rem).length ≤ l.length := by
  obtain ⟨p, hp⟩ := skip_suffix l rem
  have := congrArg List.length hp
  rw [List.length_append] at this
  omega
theorem scan_fuel : ∀ (f g N : Nat) (l : List UInt8), l.length < f → l.length < g → scanR f N l = scanR g N l := by
  intro f
  induction f with
  | zero => intro g N l h; omega
  | succ f ih =>
    intro g N l hf hg
    obtain ⟨g, rfl⟩ : ∃ m, g = m + 1 := ⟨g - 1, by omega⟩
    rw [scanR, scanR]
    have hs := skip_len l false
    cases h1 : skipR l false with
    | nil => rfl
    | cons c m =>
      rw [h1] at hs
      simp only [List.length_cons] at hs
      simp only
      cases hw : wordR (c :: m) with
      | fault e s => rfl
      | word k s n =>
        simp only
        obtain ⟨r, hr, hne⟩ := word_prefix hw
        have h0 : 0 < s.length := List.length_pos_iff.2 hne
        have hd : ((c :: m).drop s.length).length < c.toNat + m.length + 1 := by rw [List.length_drop, List.length_cons]; omega
        have hd2 : ((c :: m).drop s.length).length ≤ m.length := by rw [List.length_drop, List.length_cons]; omega
        rw [ih g N _ (by omega) (by omega)]
def scanA (N : Nat) (l : List UInt8) : Except (Int × Nat × List UInt8) (List SWord) := scanR (l.length + 1) N l
def preS (ws : List SWord) : Except (Int × Nat × List UInt8) (List SWord) → Except (Int × Nat × List UInt8) (List SWord)
  | .error e => .error e
  | .ok vs => .ok (ws ++ vs)
theorem pre_nil (r : Except (Int × Nat × List UInt8) (List SWord)) : preS [] r = r := by cases r <;> rfl
theorem pre_pre (a b : List SWord) (r : Except (Int × Nat × List UInt8) (List SWord)) : preS a (preS b r) = preS (a ++ b) r := by
  cases r with
  | error e => rfl
  | ok vs => simp [preS]
theorem scanA_blank (N : Nat) (l : List UInt8) : scanA N (32 :: l) = scanA N l := by
  unfold scanA
  rw [List.length_cons, scan_skip]
  exact scan_fuel _ _ _ _ (by omega) (by omega)
theorem scanA_word {N : Nat} {c : UInt8} {m s r : List UInt8} {k : Int} {n : Nat} (hc : startU c) (hw : wordR (c :: m) = .word k s n) (hr : c :: m = s ++ r) : ∃ p, scanA N (c :: m) = preS [⟨k, s, n, p⟩] (scanA N r) := by
  refine ⟨N - (c :: m).length, ?_⟩
  unfold scanA
  rw [scanR, skip_at hc]
  simp only
  rw [hw]
  simp only
  have e : (c :: m).drop s.length = r := by rw [hr, List.drop_left]
  obtain ⟨_, _, hne⟩ := word_prefix hw
  have h0 : 0 < s.length := List.length_pos_iff.2 hne
  have hl := congrArg List.length hr
  rw [List.length_append] at hl
  rw [e, scan_fuel (c :: m).length (r.length + 1) N r (by omega) (by omega)]
  cases scanR (r.length + 1) N r <;> rfl
theorem scanA_step {N : Nat} {c : UInt8} {m : List UInt8} (hc : startU c) : scanA N (c :: m) = match wordR (c :: m) with
    | .fault e t => .error (e, N - (c :: m).length, t)
    | .word k t n => preS [⟨k, t, n, N - (c :: m).length⟩] (scanA N ((c :: m).drop t.length)) := by
  cases hw : wordR (c :: m) with
  | fault e t =>
    unfold scanA
    rw [scanR, skip_at hc]
    simp only [hw]
  | word k s n =>
    obtain ⟨r, hr, hne⟩ := word_prefix hw
    have e : (c :: m).drop s.length = r := by rw [hr, List.drop_left]
    have h0 : 0 < s.length := List.length_pos_iff.2 hne
    have hl := congrArg List.length hr
    rw [List.length_append] at hl
    unfold scanA
    rw [scanR, skip_at hc]
    simp only [hw]
    rw [e, scan_fuel (c :: m).length (r.length + 1) N r (by omega) (by omega)]
    cases scanR (r.length + 1) N r <;> rfl
theorem skip_idem (l : List UInt8) : skipR (skipR l false) false = skipR l false := by
  cases h : skipR l false with
  | nil => rfl
  | cons c m => exact skip_at (skip_start l _ _ _ h) m
theorem scanA_skip (N : Nat) (l : List UInt8) : scanA N (skipR l false) = scanA N l := by
  unfold scanA
  rw [scan_fuel ((skipR l false).length + 1) (l.length + 1) N _ (by omega) (by have := skip_len l false; omega)]
  rw [scanR, scanR, skip_idem]
theorem scanA_nil (N : Nat) : scanA N [] = .ok [] := rfl
theorem skip_drop (l : List UInt8) : l.drop (l.length - (skipR l false).length) = skipR l false := by
  obtain ⟨p, hp⟩ := skip_suffix l false
  have hl := congrArg List.length hp
  rw [List.length_append] at hl
  conv => lhs; arg 2; rw [hp]
  rw [show l.length - (skipR l false).length = p.length from by omega]
  exact List.drop_left
end Go.Proofs.Ytjmpejbciniceaa.X
/- The contract of scan.All. -/
namespace Go.Proofs.Ytjmpejbciniceaa.X
open Go.RowKit Go.Proofs.YtjmpejbciniceaaW.PrintWords Go.Proofs.YtjmpejbciniceaaW.PrintLast Go.Proofs.YtjmpejbciniceaaW.PrintMore
set_option linter.unusedVariables false
set_option linter.unusedSimpArgs false

def wv (x : SWord) : S29 := ⟨x.kind, bytesS x.text, (x.num : Int), (x.pos : Int)⟩
def endV (n : Nat) : S29 := ⟨0, ⟨#[]⟩, 0, (n : Int)⟩
def AllPost (N : Nat) (w : World) (r : Except (Int × Nat × List UInt8) (List SWord)) (en : Ending) (w' : World) : Prop :=
  match r with
  | .error (e, p, t) => ∃ q, en = .returned (.tuple #[.slice none 0 0, .iface 49 (.pointer (some ⟨q, 0, none⟩))]) ∧ FaultAt w' q e p (bytesS t) ∧ w.heap.size ≤ q ∧ Below w.heap.size w w'
  | .ok ws => ∃ v, en = .returned (.tuple #[v, .nilIface]) ∧ k29.R 29 w' w.heap.size (fun _ => True) v (ws.map wv ++ [endV N]) ∧ Below w.heap.size w w'
def scanAll (s : ByteArray) : Except (Int × Nat × List UInt8) (List SWord) := if 65536 < s.size then .error (3, 0, []) else scanA s.size s.data.toList
theorem preS_error {ws : List SWord} {e : Int × Nat × List UInt8} : preS ws (.error e) = .error e := rfl
theorem skipTo_drop (s : ByteArray) (a : Nat) (ha : a ≤ s.size) : s.data.toList.drop (skipTo s a) = skipR (s.data.toList.drop a) false ∧ skipTo s a ≤ s.size := by
  have h := skip_drop (s.data.toList.drop a)
  have hl := skip_len (s.data.toList.drop a) false
  rw [List.length_drop] at h hl
  have e : s.data.toList.length = s.size := by simp
  rw [List.drop_drop, e] at h
  rw [e] at hl
  unfold skipTo
  refine ⟨?_, by omega⟩
  rw [← h]
  congr 1
  rw [h]
  omega
def placeOf (g : Nat) (w : World) : Nat := match w.cell? ⟨g, 1, none⟩ with
  | some v => (intOf v).toNat
  | none => 0
set_option maxRecDepth 100000 in
set_option maxHeartbeats 3200000 in
theorem all_calls (s : ByteArray) (w : World) : Calls Try.prog 7 #[.string s] w (AllPost s.size w (scanAll s)) := by
  obtain ⟨r, hr⟩ : ∃ r, r = scanAll s := ⟨_, rfl⟩
  rw [← hr]
  unfold scanAll at hr
  by_cases hs : 65536 < s.size
  · rw [if_pos hs] at hr
    have HE := Aside0.mk hr
    clear hr
    go_enter Try.func7, Try.ntmps7
    go_wp2_with fail
    go_ret2
    rw [HE.out]
    exact ⟨w.heap.size, rfl, heap_alloc_new w _, Nat.le_refl _, (Below.refl _ _).alloc (Nat.le_refl _) _⟩
  · rw [if_neg hs] at hr
    have HE := Aside0.mk hr
    clear hr
    go_enter Try.func7, Try.ntmps7
    go_wp2_with fail
    have HR : Aside0 (Rd w w.heap.size s (0 : Nat) (.slice none 0 0) (([] : List SWord).map wv) (w.alloc (.cells #[.string s, .int .i64 0, .slice none 0 0] 54))) := .mk ⟨heap_alloc_new w _, Kd.R_nil _ _ _ _ _, Nat.le_refl _, (Below.refl _ _).alloc (Nat.le_refl _) _⟩
    generalize w.alloc (.cells #[.string s, .int .i64 0, .slice none 0 0] 54) = wb at *
    have hss : s.size ≤ 65536 := by omega
    refine (skip_calls w w.heap.size s 0 _ _ _ HR.out (Nat.zero_le _) hss).mono ?_
    rintro e w2 ⟨rfl, hR2⟩
    have HR2 := Aside0.mk hR2
    clear hR2
    have hq := skipTo_drop s 0 (Nat.zero_le _)
    have HK : Aside0 (preS [] (scanA s.size (s.data.toList.drop (skipTo s 0))) = r ∧ skipTo s 0 ≤ s.size ∧ skipR (s.data.toList.drop (skipTo s 0)) false = s.data.toList.drop (skipTo s 0)) := .mk (by
      rw [hq.1, scanA_skip, skip_idem, List.drop_zero, pre_nil]
      exact ⟨HE.out.symm, hq.2, rfl⟩)
    clear hq
    go_wp2_with fail
    go_loopw [5] (fun i wr => ∃ (a : Nat) (v : Value) (ws : List SWord), Rd w w.heap.size s a v (ws.map wv) wr ∧ a ≤ s.size ∧ ws.length ≤ a ∧ skipR (s.data.toList.drop a) false = s.data.toList.drop a ∧ preS ws (scanA s.size (s.data.toList.drop a)) = r) (fun i wr => s.size - placeOf w.heap.size wr)
    case atStart => exact ⟨skipTo s 0, _, [], HR2.out, HK.out.2.1, Nat.zero_le _, HK.out.2.2, HK.out.1⟩
    case round =>
      obtain ⟨a, v, ws, hR, ha, hwl, hst, hpre⟩ := hrel
      have HR := Aside0.mk hR
      have HPRE := Aside0.mk hpre
      have HST := Aside0.mk hst
      clear hR hpre hst
      have e0 := (blk_cell HR.out.blk 0).trans rfl
      have e1 := (blk_cell HR.out.blk 1).trans rfl
      simp at e0 e1
      have HPL : Aside0 (placeOf w.heap.size wr = a) := .mk (by unfold placeOf; rw [e1]; simp [intOf])
      by_cases hlt : a < s.size
      · go_wp2_with fail
        clear e0 e1
        have hd := drop_at s a hlt
        have hc : startU (s[a]'hlt) := skip_start _ _ _ _ ((HST.out.trans hd))
        have hstep := scanA_step (N := s.size) (m := s.data.toList.drop (a + 1)) hc
        rw [← hd] at hstep
        have HSTEP := Aside0.mk hstep
        have HPFX := Aside0.mk (fun (k : Int) (t : List UInt8) (n : Nat) (h : wordR (s.data.toList.drop a) = .word k t n) => word_prefix h)
        clear hc hstep hd
        refine (word_calls HR.out hlt hss (by simp; omega)).mono ?_
        obtain ⟨x, hx⟩ : ∃ x, x = wordR (s.data.toList.drop a) := ⟨_, rfl⟩
        rw [← hx]
        have HX := Aside0.mk hx
        clear hx
        cases x with
        | fault e t =>
          rintro _ w3 ⟨p, rfl, h1, h2, h3⟩
          have H1 := Aside0.mk h1
          have H3 := Aside0.mk h3
          have H2 := Aside0.mk h2
          clear h1 h2 h3
          go_wp2_with fail
          go_ret2
          have hq := HPRE.out
          rw [HSTEP.out, ← HX.out] at hq
          simp only [preS] at hq
          rw [← hq, show s.size - (s.data.toList.drop a).length = a from by simp; omega]
          exact ⟨p, rfl, H1.out, Nat.le_trans HR.out.below.size H2.out, below_then HR.out.below HR.out.below.size H3.out⟩
        | word k t n =>
          rintro _ w3 ⟨rfl, v3, h3⟩
          have hq := HPRE.out
          rw [HSTEP.out, ← HX.out] at hq
          simp only [pre_pre] at hq
          rw [show s.size - (s.data.toList.drop a).length = a from by simp; omega, List.drop_drop] at hq
          obtain ⟨m, hm, hne⟩ := HPFX.out k t n HX.out.symm
          have h0 : 0 < t.length := List.length_pos_iff.2 hne
          have hle : a + t.length ≤ s.size := by
            have := congrArg List.length hm
            rw [List.length_append, List.length_drop] at this
            simp at this
            omega
          have HQ := Aside0.mk hq
          have H3 := Aside0.mk h3
          clear hq h3 hm hne
          go_wp2_with fail
          refine (skip_calls w w.heap.size s (a + t.length) _ _ _ H3.out hle hss).mono ?_
          rintro e w4 ⟨rfl, hR4⟩
          have HR4 := Aside0.mk hR4
          clear hR4
          have hq := skipTo_drop s (a + t.length) hle
          have hge : a + t.length ≤ skipTo s (a + t.length) := by
            have := skip_len (s.data.toList.drop (a + t.length)) false
            unfold skipTo
            simp at this
            omega
          have HK : Aside0 (preS (ws ++ [⟨k, t, n, a⟩]) (scanA s.size (s.data.toList.drop (skipTo s (a + t.length)))) = r ∧ skipTo s (a + t.length) ≤ s.size ∧ skipR (s.data.toList.drop (skipTo s (a + t.length))) false = s.data.toList.drop (skipTo s (a + t.length))) := .mk (by
            rw [hq.1, scanA_skip, skip_idem]
            exact ⟨HQ.out, hq.2, rfl⟩)
          clear hq
          have HPL4 : Aside0 (placeOf w.heap.size w4 = skipTo s (a + t.length)) := .mk (by
            have e1 := (blk_cell HR4.out.blk 1).trans rfl
            simp at e1
            unfold placeOf; rw [e1]; simp [intOf])
          go_wp2_with fail
          go_roundw
          case rel => exact ⟨skipTo s (a + t.length), v3, ws ++ [⟨k, t, n, a⟩], by rw [List.map_append]; exact HR4.out, HK.out.2.1, by simp; omega, HK.out.2.2, HK.out.1⟩
          case measure => rw [HPL.out, HPL4.out]; omega
      · have e2 := (blk_cell HR.out.blk 2).trans rfl
        have e2 : wr.cell? ⟨w.heap.size, 2, none⟩ = some v := by simpa using e2
        obtain rfl : a = s.size := by omega
        have HOK : Aside0 (r = .ok ws) := .mk (by
          rw [← HPRE.out, List.drop_eq_nil_of_le (by simp), scanA_nil]
          simp [preS])
        have HG := Aside0.mk (blk_lt HR.out.blk)
        have hwl2 : (ws.map wv).length ≤ 65536 := by rw [List.length_map]; omega
        clear HPRE HST HK HR2 HE e0
        go_wp2_with (at_builtin; refine Kd.R_append k29 (w0 := w) w.heap.size rfl (.tmp 35) (.tmp 39) 22 29 (.agg #[.int .i8 0, .string ⟨#[]⟩, .int .i64 0, .int .i64 0]) 40 rfl Try.underlying22 info29 rfl (by decide) (by decide) v (ws.map wv) (endV s.size) [.int .i8 0, .string ⟨#[]⟩, .int .i64 0, .int .i64 (s.size : Int)] (fun b => b ≠ w.heap.size) (fun _ => False) rfl rfl (k29_mkM _ _ _ (endV s.size)) (fun b hb => hb.elim) (fun b hb => by have := HG.out; omega) HR.out.row HR.out.below HR.out.below.size (by omega) ?_; intro v4 w4 hr4 hb4 hg4 hat4; have HR4 := Aside0.mk hr4; have HB4 := Aside0.mk hb4; clear hr4 hb4 hg4 hat4)
        go_ret2
        rw [HOK.out]
        exact ⟨v4, rfl, Kd.R_mono HR4.out (fun _ _ => trivial), HB4.out⟩
end Go.Proofs.Ytjmpejbciniceaa.X
-- Written by xprint.py, a program of this session that drives the kit's print beside contracts proved by hand. Lean checks it.
namespace Go.Proofs.Ytjmpejbciniceaa.X
open Go.RowKit Go.Proofs.YtjmpejbciniceaaW.PrintWords Go.Proofs.YtjmpejbciniceaaW.PrintLast Go.Proofs.YtjmpejbciniceaaW.PrintMore
attribute [local go_sem] max2_int min2_int max_two min_two max_three min_three max_four min_four   -- for this text's walks alone
set_option linter.unusedVariables false
set_option linter.unusedSimpArgs false

theorem eqA29 (d : Nat) (w : World) (x0 y0 : Int) (x1 y1 : ByteArray) (x2 y2 : Int) (x3 y3 : Int) :
    (Op.equalIn (d + 2) 29 (.agg #[.int .i8 x0, .string x1, .int .i64 x2, .int .i64 x3]) (.agg #[.int .i8 y0, .string y1, .int .i64 y2, .int .i64 y3])).run Try.prog w = .ok (x0 == y0 && (x1.toList == y1.toList && (x2 == y2 && (x3 == y3)))) w := by
  refine eqA_of Try.underlying29 (by kernel_rfl) ?_
  refine eqf_cons (by rfl) (by go_simp; rfl) (by go_simp; rfl) (by go_simp) ?_
  refine eqf_cons (by rfl) (by go_simp; rfl) (by go_simp; rfl) (by go_simp) ?_
  refine eqf_cons (by rfl) (by go_simp; rfl) (by go_simp; rfl) (by go_simp) ?_
  exact eqf_last (by rfl) (by go_simp; rfl) (by go_simp; rfl) (by go_simp)
end Go.Proofs.Ytjmpejbciniceaa.X
-- Written by xprint.py, a program of this session that drives the kit's print beside contracts proved by hand. Lean checks it.
namespace Go.Proofs.Ytjmpejbciniceaa.X
open Go.RowKit Go.Proofs.YtjmpejbciniceaaW.PrintWords Go.Proofs.YtjmpejbciniceaaW.PrintLast Go.Proofs.YtjmpejbciniceaaW.PrintMore
attribute [local go_sem] max2_int min2_int max_two min_two max_three min_three max_four min_four   -- for this text's walks alone
set_option linter.unusedVariables false
set_option linter.unusedSimpArgs false

attribute [local go_sem high] eqA29
/-! ### lychgatelaw01_Words: function 8 -/
def lychgatelaw01_Words.l0 : Nat → List (S29) → List (S29) → Int → Int → Option (Bool)
  | 0, _, _, _, _ => none
  | k + 1, x0, x1, x12, x13 => if x13 < x12 then (if 0 ≤ x13 then (if x13 < (x0.length : Int) then (if x13 < (x1.length : Int) then (if (!(((rd_T29 x0 x13).f0) == ((rd_T29 x1 x13).f0)) || (!((((rd_T29 x0 x13).f1).toList) == (((rd_T29 x1 x13).f1).toList)) || (!(((rd_T29 x0 x13).f2) == ((rd_T29 x1 x13).f2)) || (!(((rd_T29 x0 x13).f3) == ((rd_T29 x1 x13).f3)))))) = true then (some false) else (lychgatelaw01_Words.l0 k x0 x1 x12 (wrap64 (x13 + 1)))) else (none)) else (none)) else (none)) else (some true)
def lychgatelaw01_Words.f (k : Nat) (l0 : List (S29)) (l1 : List (S29)) : Option (Bool) := if (l0.length : Int) = (l1.length : Int) then (lychgatelaw01_Words.l0 k l0 l1 (l0.length : Int) 0) else (some false)
theorem lychgatelaw01_Words.mono_l : ∀ k, (∀ y0 y1 y2 y3, LeO (lychgatelaw01_Words.l0 k y0 y1 y2 y3) (lychgatelaw01_Words.l0 (k + 1) y0 y1 y2 y3))
  | 0 => fun _ _ _ _ r h => by simp [lychgatelaw01_Words.l0] at h
  | k + 1 => by
    have ih0 := lychgatelaw01_Words.mono_l k
    · intro y0 y1 y2 y3
      unfold lychgatelaw01_Words.l0
      repeat' first
      | (with_reducible exact ih0 _ _ _ _)
      | (with_reducible exact LeO.refl _)
      | (with_reducible exact LeO.none _)
      | (with_reducible refine LeO.ite ?_ ?_)
      | (with_reducible refine LeO.bind ?_ (fun _ => ?_))
      | exact ih0 _ _ _ _
      | exact LeO.none _
      | refine LeO.ite ?_ ?_
      | refine LeO.bind ?_ (fun _ => ?_)
theorem lychgatelaw01_Words.mono : ∀ a0 a1 k, LeO (lychgatelaw01_Words.f k a0 a1) (lychgatelaw01_Words.f (k + 1) a0 a1) := by
  intro a0 a1 k
  have ih0 := lychgatelaw01_Words.mono_l k
  unfold lychgatelaw01_Words.f
  repeat' first
      | (with_reducible exact ih0 _ _ _ _)
      | (with_reducible exact LeO.refl _)
      | (with_reducible exact LeO.none _)
      | (with_reducible refine LeO.ite ?_ ?_)
      | (with_reducible refine LeO.bind ?_ (fun _ => ?_))
      | exact ih0 _ _ _ _
      | exact LeO.none _
      | refine LeO.ite ?_ ?_
      | refine LeO.bind ?_ (fun _ => ?_)
set_option maxHeartbeats 8000000 in
set_option maxRecDepth 100000 in
theorem lychgatelaw01_Words.calls (k : Nat) (A0 : Option Addr) (c0 : Nat) (l0 : List (S29)) (A1 : Option Addr) (c1 : Nat) (l1 : List (S29)) (r : Bool) (w : World) (hr0 : Kd.C k29 w A0 l0.length l0) (hc0 : l0.length ≤ c0) (hr1 : Kd.C k29 w A1 l1.length l1) (hc1 : l1.length ≤ c1) (h : lychgatelaw01_Words.f k l0 l1 = some r) :
    Calls Try.prog 8 #[.slice A0 l0.length c0, .slice A1 l1.length c1] w fun e w' => e = .returned (.bool r) ∧ Drawn0 w w' := by
  have hu29 := Try.underlying29
  have HR0 := Aside0.mk hr0
  have HC0 := Aside0.mk hc0
  clear hr0 hc0
  have HR1 := Aside0.mk hr1
  have HC1 := Aside0.mk hc1
  clear hr1 hc1
  have H : (if (l0.length : Int) = (l1.length : Int) then (lychgatelaw01_Words.l0 k l0 l1 (l0.length : Int) 0) else (some false)) = some r := h
  clear h
  by_cases c3 : (l0.length : Int) = (l1.length : Int)
  · rw [if_pos c3] at H
    have c3b0 : ((l0.length : Int) == (l1.length : Int)) = true := beq_iff_eq.mpr c3
    have c3b1 : ((l0.length : Int) != (l1.length : Int)) = false := bne_eq_false_iff_eq.mpr c3
    have c3b2 : (l0.length == l1.length) = true := by first | simpa using c3 | (simp at c3 ⊢; omega)
    clear c3
    have H' := Aside0.mk H
    clear H
    go_enter Try.func8, Try.ntmps8
    go_wp2
    repeat (go_quiet (fail); try go_wp2)
    go_loopg [13] k (fun kq v13 w' => ∃ (x13_1 : Int), v13 = .int .i64 x13_1 ∧ Aside0 (lychgatelaw01_Words.l0 kq l0 l1 (l0.length : Int) x13_1 = some r) ∧ Aside0 (kq ≤ k) ∧ Drawn0 w w')
    case atStart => exact ⟨(0), (by first | rfl | (simp; done) | (simp [*]; done)), H', ⟨Nat.le_refl _⟩, by repeat (first | exact Drawn0.refl _ | apply Drawn0.step)⟩
    case round =>
      clear H'
      try clear c1
      try clear p2
      try clear c3
      try clear c3b0
      try clear c3b1
      try clear c3b2
      obtain ⟨x13_1, rfl, HA, HK1, ⟨m1, rfl⟩⟩ := hrel
      cases gk with
      | zero => exact absurd HA.out (by simp [lychgatelaw01_Words.l0])
      | succ k1 =>
        have H := HA.out
        clear HA
        simp only [lychgatelaw01_Words.l0] at H
        by_cases c4 : x13_1 < (l0.length : Int)
        · rw [if_pos c4] at H
          have c4b0 : decide (x13_1 < (l0.length : Int)) = true := decide_eq_true c4
          clear c4
          by_cases c5 : 0 ≤ x13_1
          · rw [if_pos c5] at H
            have c5b0 : decide (0 ≤ x13_1) = true := decide_eq_true c5
            clear c5
            by_cases c6 : x13_1 < (l0.length : Int)
            · rw [if_pos c6] at H
              have c6b0 : decide (x13_1 < (l0.length : Int)) = true := decide_eq_true c6
              clear c6
              by_cases c7 : x13_1 < (l1.length : Int)
              · rw [if_pos c7] at H
                have c7b0 : decide (x13_1 < (l1.length : Int)) = true := decide_eq_true c7
                clear c7
                by_cases c8 : (!(((rd_T29 l0 x13_1).f0) == ((rd_T29 l1 x13_1).f0)) || (!((((rd_T29 l0 x13_1).f1).toList) == (((rd_T29 l1 x13_1).f1).toList)) || (!(((rd_T29 l0 x13_1).f2) == ((rd_T29 l1 x13_1).f2)) || (!(((rd_T29 l0 x13_1).f3) == ((rd_T29 l1 x13_1).f3)))))) = true
                · rw [if_pos c8] at H
                  have c8b0 : (!(((rd_T29 l0 x13_1).f0) == ((rd_T29 l1 x13_1).f0)) || (!((((rd_T29 l0 x13_1).f1).toList) == (((rd_T29 l1 x13_1).f1).toList)) || (!(((rd_T29 l0 x13_1).f2) == ((rd_T29 l1 x13_1).f2)) || (!(((rd_T29 l0 x13_1).f3) == ((rd_T29 l1 x13_1).f3)))))) = true := c8
                  clear c8
                  obtain rfl := Option.some.inj H
                  have p104 : 0 ≤ (x13_1 : Int) := of_decide_eq_true (by first | (with_reducible assumption) | assumption)
                  have q104 : x13_1 < (l0.length : Int) := of_decide_eq_true (by first | (with_reducible assumption) | assumption)
                  obtain ⟨ad104, e104, hx104_0, hx104_1, hx104_2, hx104_3⟩ := at_T29 HR0.out x13_1 p104 q104
                  cases e104
                  replace p104 := eq_true p104
                  replace q104 := eq_true q104
                  have p105 : 0 ≤ (x13_1 : Int) := of_decide_eq_true (by first | (with_reducible assumption) | assumption)
                  have q105 : x13_1 < (l1.length : Int) := of_decide_eq_true (by first | (with_reducible assumption) | assumption)
                  obtain ⟨ad105, e105, hx105_0, hx105_1, hx105_2, hx105_3⟩ := at_T29 HR1.out x13_1 p105 q105
                  cases e105
                  replace p105 := eq_true p105
                  replace q105 := eq_true q105
                  go_wp2
                  repeat (go_quiet (fail); try go_wp2)
                  go_ret
                  exact ⟨by first | rfl | (simp; done) | (simp [*]; done), by repeat (first | exact Drawn0.refl _ | apply Drawn0.step)⟩
                · rw [if_neg c8] at H
                  have c8b0 : (!(((rd_T29 l0 x13_1).f0) == ((rd_T29 l1 x13_1).f0)) || (!((((rd_T29 l0 x13_1).f1).toList) == (((rd_T29 l1 x13_1).f1).toList)) || (!(((rd_T29 l0 x13_1).f2) == ((rd_T29 l1 x13_1).f2)) || (!(((rd_T29 l0 x13_1).f3) == ((rd_T29 l1 x13_1).f3)))))) = false := by simpa using c8
                  clear c8
                  have H' := Aside0.mk H
                  clear H
                  have p104 : 0 ≤ (x13_1 : Int) := of_decide_eq_true (by first | (with_reducible assumption) | assumption)
                  have q104 : x13_1 < (l0.length : Int) := of_decide_eq_true (by first | (with_reducible assumption) | assumption)
                  obtain ⟨ad104, e104, hx104_0, hx104_1, hx104_2, hx104_3⟩ := at_T29 HR0.out x13_1 p104 q104
                  cases e104
                  replace p104 := eq_true p104
                  replace q104 := eq_true q104
                  have p105 : 0 ≤ (x13_1 : Int) := of_decide_eq_true (by first | (with_reducible assumption) | assumption)
                  have q105 : x13_1 < (l1.length : Int) := of_decide_eq_true (by first | (with_reducible assumption) | assumption)
                  obtain ⟨ad105, e105, hx105_0, hx105_1, hx105_2, hx105_3⟩ := at_T29 HR1.out x13_1 p105 q105
                  cases e105
                  replace p105 := eq_true p105
                  replace q105 := eq_true q105
                  go_wp2
                  repeat (go_quiet (fail); try go_wp2)
                  go_roundg k1
                  case measure => have := HK1.out; omega
                  case rel => exact ⟨(wrap64 (x13_1 + 1)), (by first | rfl | (simp; done) | (simp [*]; done)), H', ⟨by have := HK1.out; omega⟩, by repeat (first | exact Drawn0.refl _ | apply Drawn0.step)⟩
              · rw [if_neg c7] at H
                exact absurd H (by simp)
            · rw [if_neg c6] at H
              exact absurd H (by simp)
          · rw [if_neg c5] at H
            exact absurd H (by simp)
        · rw [if_neg c4] at H
          have c4b0 : decide (x13_1 < (l0.length : Int)) = false := decide_eq_false c4
          clear c4
          obtain rfl := Option.some.inj H
          go_wp2
          repeat (go_quiet (fail); try go_wp2)
          go_ret
          exact ⟨by first | rfl | (simp; done) | (simp [*]; done), by repeat (first | exact Drawn0.refl _ | apply Drawn0.step)⟩
  · rw [if_neg c3] at H
    have c3b0 : ((l0.length : Int) == (l1.length : Int)) = false := beq_eq_false_iff_ne.mpr c3
    have c3b1 : ((l0.length : Int) != (l1.length : Int)) = true := bne_iff_ne.mpr c3
    have c3b2 : (l0.length == l1.length) = false := by first | simpa using c3 | (simp at c3 ⊢; omega)
    obtain rfl := Option.some.inj H
    go_enter Try.func8, Try.ntmps8
    go_wp2
    repeat (go_quiet (fail); try go_wp2)
    go_ret
    exact ⟨by first | rfl | (simp; done) | (simp [*]; done), by repeat (first | exact Drawn0.refl _ | apply Drawn0.step)⟩

-- NOT PRINTED: function 4 (lychgatelaw01_ScanAhead)

-- NOT PRINTED: function 42 (types_counter_count)

end Go.Proofs.Ytjmpejbciniceaa.X
/- The walk of the law ScanAhead. -/
namespace Go.Proofs.Ytjmpejbciniceaa.X
open Go.RowKit Go.Proofs.YtjmpejbciniceaaW.PrintWords Go.Proofs.YtjmpejbciniceaaW.PrintLast Go.Proofs.YtjmpejbciniceaaW.PrintMore
set_option linter.unusedVariables false
set_option linter.unusedSimpArgs false

theorem words_loop (l : List S29) : ∀ (m j : Nat), l.length = j + m → l.length ≤ 100000 → lychgatelaw01_Words.l0 (m + 1) l l (l.length : Int) (j : Int) = some true := by
  intro m
  induction m with
  | zero =>
    intro j h hl
    unfold lychgatelaw01_Words.l0
    rw [if_neg (by omega)]
  | succ m ih =>
    intro j h hl
    unfold lychgatelaw01_Words.l0
    rw [if_pos (by omega), if_pos (by omega), if_pos (by omega), if_pos (by omega), if_neg (by simp)]
    rw [show wrap64 ((j : Int) + 1) = ((j + 1 : Nat) : Int) from by rw [IntWalk.wrap64_in _ (by omega)]; omega]
    exact ih (j + 1) (by omega) hl
theorem words_same (l : List S29) (h : l.length ≤ 100000) : lychgatelaw01_Words.f (l.length + 1) l l = some true := by
  unfold lychgatelaw01_Words.f
  rw [if_pos rfl]
  exact words_loop l l.length 0 (by omega) h
theorem ahead_law {t1 t2 : ByteArray} {A B : List UInt8} (h1 : t1.data.toList = A ++ [32]) (h2 : t2.data.toList = A ++ 32 :: B) {ms : List SWord} (h : scanAll t2 = .ok ms) : ∃ ls rs, scanAll t1 = .ok ls ∧ ms = ls ++ rs := by
  have e1 : t1.size = (A ++ [32]).length := by rw [← h1]; simp
  have e2 : t2.size = (A ++ 32 :: B).length := by rw [← h2]; simp
  unfold scanAll at h ⊢
  split at h
  · simp at h
  · rename_i hn
    rw [if_neg (by rw [e1]; rw [e2] at hn; simp at hn ⊢; omega), h1, e1]
    rw [h2, e2] at h
    exact scan_ahead B _ _ A _ _ ms (by simp; omega) (Nat.lt_succ_self _) (by omega) (Nat.le_refl _) (Nat.le_refl _) h
theorem scan_len : ∀ (f N : Nat) (l : List UInt8) (ws : List SWord), scanR f N l = .ok ws → ws.length ≤ l.length := by
  intro f
  induction f with
  | zero => intro N l ws h; injection h with h; subst h; simp
  | succ f ih =>
    intro N l ws h
    have hk := skip_len l false
    rw [scanR] at h
    cases hs : skipR l false with
    | nil => rw [hs] at h; injection h with h; subst h; simp
    | cons c m =>
      rw [hs] at h hk
      simp only at h
      cases hw : wordR (c :: m) with
      | fault e s => rw [hw] at h; simp at h
      | word k s n =>
        rw [hw] at h
        simp only at h
        obtain ⟨r, hr, hne⟩ := word_prefix hw
        have h0 : 0 < s.length := List.length_pos_iff.2 hne
        cases hr2 : scanR f N ((c :: m).drop s.length) with
        | error e => rw [hr2] at h; simp at h
        | ok vs =>
          rw [hr2] at h
          injection h with h
          subst h
          have := ih _ _ _ hr2
          simp at this hk ⊢
          omega
theorem all_len {t : ByteArray} {ws : List SWord} (h : scanAll t = .ok ws) : ws.length ≤ 65536 := by
  unfold scanAll at h
  split at h
  · simp at h
  · have := scan_len _ _ _ _ h
    simp at this
    omega
theorem all_error {t : ByteArray} {w : World} {e : Int × Nat × List UInt8} {en : Ending} {w' : World} (h : AllPost t.size w (.error e) en w') : ∃ q, en = .returned (.tuple #[.slice none 0 0, .iface 49 (.pointer (some ⟨q, 0, none⟩))]) ∧ Below w.heap.size w w' := by
  obtain ⟨q, h1, _, _, h2⟩ := h
  exact ⟨q, h1, h2⟩
theorem all_ok {N : Nat} {w : World} {ws : List SWord} {en : Ending} {w' : World} (h : AllPost N w (.ok ws) en w') : ∃ A c, en = .returned (.tuple #[.slice A (ws.length + 1) c, .nilIface]) ∧ k29.R 29 w' w.heap.size (fun _ => True) (.slice A (ws.length + 1) c) (ws.map wv ++ [endV N]) ∧ Below w.heap.size w w' := by
  obtain ⟨v, h1, h2, h3⟩ := h
  obtain ⟨A, c, rfl⟩ := Kd.R_slice h2
  have e : (ws.map wv ++ [endV N]).length = ws.length + 1 := by simp
  rw [e] at h1 h2
  exact ⟨A, c, h1, h2, h3⟩
set_option maxRecDepth 100000 in
set_option maxHeartbeats 3200000 in
theorem ahead_walk (a b : ByteArray) (w : World) (ha : a.size ≤ 140737488351232) (hb : b.size ≤ 140737488351232) : Calls Try.prog 4 #[.string a, .string b] w fun e w' => e = .returned (.bool true) ∧ Below w.heap.size w w' := by
  have h1 : (a ++ (⟨#[32]⟩ : ByteArray)).data.toList = a.data.toList ++ [32] := by simp
  have h2 : (a ++ (⟨#[32]⟩ : ByteArray) ++ b).data.toList = a.data.toList ++ 32 :: b.data.toList := by simp
  have HLAW := Aside0.mk (fun ms h => ahead_law h1 h2 (ms := ms) h)
  clear h1 h2
  go_enter Try.func4, Try.ntmps4
  go_wp2_with fail
  refine (all_calls _ _).mono ?_
  cases hr1 : scanAll (a ++ (⟨#[32]⟩ : ByteArray)) with
  | error x =>
    have HN := Aside0.mk (fun ms (h : scanAll (a ++ (⟨#[32]⟩ : ByteArray) ++ b) = .ok ms) => (by obtain ⟨ls, rs, h3, _⟩ := HLAW.out ms h; rw [hr1] at h3; exact absurd h3 (by simp) : False))
    clear hr1 HLAW
    intro e w1 hp
    obtain ⟨q, rfl, hB⟩ := all_error hp
    have HB := Aside0.mk hB
    clear hp hB
    go_wp2_with fail
    refine (all_calls _ _).mono ?_
    cases hr2 : scanAll (a ++ (⟨#[32]⟩ : ByteArray) ++ b) with
    | ok ms => exact (HN.out ms hr2).elim
    | error y =>
      clear hr2 HN
      intro e w2 hp
      obtain ⟨q2, rfl, hB⟩ := all_error hp
      have HB2 := Aside0.mk (below_then HB.out HB.out.size hB)
      clear hp hB
      go_wp2_with fail
      go_ret
      exact ⟨rfl, HB2.out⟩
  | ok ls =>
    have HN := Aside0.mk (fun ms (h : scanAll (a ++ (⟨#[32]⟩ : ByteArray) ++ b) = .ok ms) => (by obtain ⟨ls', rs, h3, h4⟩ := HLAW.out ms h; rw [hr1] at h3; injection h3 with h3; exact ⟨rs, by rw [h4, h3]⟩ : ∃ rs, ms = ls ++ rs))
    have HL := Aside0.mk (all_len hr1)
    clear hr1 HLAW
    intro e w1 hp
    obtain ⟨A1, c1, rfl, hR1, hB⟩ := all_ok hp
    have HB := Aside0.mk hB
    have HR1 := Aside0.mk hR1
    clear hp hB hR1
    go_wp2_with fail
    refine (all_calls _ _).mono ?_
    cases hr2 : scanAll (a ++ (⟨#[32]⟩ : ByteArray) ++ b) with
    | error y =>
      clear hr2 HN
      intro e w2 hp
      obtain ⟨q2, rfl, hB⟩ := all_error hp
      have HB2 := Aside0.mk (below_then HB.out HB.out.size hB)
      clear hp hB
      go_wp2_with fail
      go_ret
      exact ⟨rfl, HB2.out⟩
    | ok ms =>
      obtain ⟨rs, hms⟩ := HN.out ms hr2
      have HL2 := Aside0.mk (all_len hr2)
      clear hr2 HN
      intro e w2 hp
      obtain ⟨A2, c2, rfl, hR2, hB⟩ := all_ok hp
      have HB2 := Aside0.mk (below_then HB.out HB.out.size hB)
      replace HR1 := Aside0.mk (Kd.R_below HR1.out hB)
      have HR2 := Aside0.mk hR2
      have HLL : Aside0 (ls.length ≤ ms.length) := .mk (by rw [hms, List.length_append]; omega)
      have HMS := Aside0.mk hms
      have hl1 := HL.out
      have hl2 := HL2.out
      have hl3 := HLL.out
      clear hp hB hR2 hms
      generalize ms.length = m at *
      go_wp2_with fail
      refine wp_region_held_drew (S := fun _ => True) (by kernel_rfl) trivial (fun hHeld => ?_)
      replace HB2 := Aside0.mk (below_then HB2.out HB2.out.size ((Below.refl _ _).drew))
      replace HR1 := Aside0.mk (Kd.R_drew HR1.out)
      replace HR2 := Aside0.mk (Kd.R_drew HR2.out)
      generalize w2.drew = w3 at *
      have q1 := (Kd.R_reads' HR1.out).2.1
      have q2 := (Kd.R_reads' HR2.out).2.1
      have hS : IntKind.i64.wrap ((ls.length : Int) + 1 - 1) = (ls.length : Int) := by rw [IntWalk.i64_in _ (by omega)]; omega
      have HS := Aside0.mk hS
      clear hS
      refine takeH (d := some 28) (v := ?_) 0 rfl rfl (by kernel_rfl) (by kernel_rfl) (by kernel_rfl) (fun _ _ _ h => h) (by rfl) ?_ hHeld ?_
      rotate_left
      · intro w hSw
        try dsimp only at hSw
        go_simp <;> with_reducible rfl
      try simp only [Act.put, List.setIfInBounds_toArray, List.set_cons_zero, List.set_cons_succ]
      refine takeH (d := some 29) (v := ?_) 1 rfl rfl (by kernel_rfl) (by kernel_rfl) (by kernel_rfl) (fun _ _ _ h => h) (by rfl) ?_ hHeld ?_
      rotate_left
      · intro w hSw
        try dsimp only at hSw
        go_simp <;> with_reducible rfl
      try simp only [Act.put, List.setIfInBounds_toArray, List.set_cons_zero, List.set_cons_succ]
      refine takeH (d := some 30) (v := ?_) 2 rfl rfl (by kernel_rfl) (by kernel_rfl) (by kernel_rfl) (fun _ _ _ h => h) (by rfl) ?_ hHeld ?_
      rotate_left
      · intro w hSw
        try dsimp only at hSw
        go_simp <;> with_reducible rfl
      try simp only [Act.put, List.setIfInBounds_toArray, List.set_cons_zero, List.set_cons_succ]
      refine takeH (d := some 31) (v := ?_) 3 rfl rfl (by kernel_rfl) (by kernel_rfl) (by kernel_rfl) (fun _ _ _ h => h) (by rfl) ?_ hHeld ?_
      rotate_left
      · intro w hSw
        try dsimp only at hSw
        go_simp <;> with_reducible rfl
      try simp only [Act.put, List.setIfInBounds_toArray, List.set_cons_zero, List.set_cons_succ]
      refine takeH (d := some 32) (v := ?_) 4 rfl rfl (by kernel_rfl) (by kernel_rfl) (by kernel_rfl) (fun _ _ _ h => h) (by rfl) ?_ hHeld ?_
      rotate_left
      · intro w hSw
        try dsimp only at hSw
        go_simp <;> with_reducible rfl
      try simp only [Act.put, List.setIfInBounds_toArray, List.set_cons_zero, List.set_cons_succ]
      refine takeH (d := some 33) (v := ?_) 5 rfl rfl (by kernel_rfl) (by kernel_rfl) (by kernel_rfl) (fun _ _ _ h => h) (by rfl) ?_ hHeld ?_
      rotate_left
      · intro w hSw
        try dsimp only at hSw
        go_simp <;> with_reducible rfl
      try simp only [Act.put, List.setIfInBounds_toArray, List.set_cons_zero, List.set_cons_succ]
      refine takeH (d := some 34) (v := ?_) 6 rfl rfl (by kernel_rfl) (by kernel_rfl) (by kernel_rfl) (fun _ _ _ h => h) (by rfl) ?_ hHeld ?_
      rotate_left
      · intro w hSw
        try dsimp only at hSw
        go_simp <;> with_reducible rfl
      try simp only [Act.put, List.setIfInBounds_toArray, List.set_cons_zero, List.set_cons_succ]
      refine takeH (d := some 35) (v := .bool true) 7 rfl rfl (by kernel_rfl) (by kernel_rfl) (by kernel_rfl) (fun _ _ _ h => h) (by rfl) (fun w hSw => by (try dsimp only at hSw); have := HLL.out; go_simp; first | done | omega | rw [decide_eq_true (by omega)]) hHeld ?_
      try simp only [Act.put, List.setIfInBounds_toArray, List.set_cons_zero, List.set_cons_succ]
      refine takeH (d := some 36) (v := ?_) 8 rfl rfl (by kernel_rfl) (by kernel_rfl) (by kernel_rfl) (fun _ _ _ h => h) (by rfl) ?_ hHeld ?_
      rotate_left
      · intro w hSw
        try dsimp only at hSw
        go_simp <;> with_reducible rfl
      try simp only [Act.put, List.setIfInBounds_toArray, List.set_cons_zero, List.set_cons_succ]
      refine takeH (d := some 37) (v := ?_) 9 rfl rfl (by kernel_rfl) (by kernel_rfl) (by kernel_rfl) (fun _ _ _ h => h) (by rfl) ?_ hHeld ?_
      rotate_left
      · intro w hSw
        try dsimp only at hSw
        go_simp <;> with_reducible rfl
      try simp only [Act.put, List.setIfInBounds_toArray, List.set_cons_zero, List.set_cons_succ]
      refine takeH (d := some 38) (v := ?_) 10 rfl rfl (by kernel_rfl) (by kernel_rfl) (by kernel_rfl) (fun _ _ _ h => h) (by rfl) ?_ hHeld ?_
      rotate_left
      · intro w hSw
        try dsimp only at hSw
        go_simp <;> with_reducible rfl
      try simp only [Act.put, List.setIfInBounds_toArray, List.set_cons_zero, List.set_cons_succ]
      refine takeH (d := some 39) (v := ?_) 11 rfl rfl (by kernel_rfl) (by kernel_rfl) (by kernel_rfl) (fun _ _ _ h => h) (by rfl) ?_ hHeld ?_
      rotate_left
      · intro w hSw
        try dsimp only at hSw
        go_simp <;> with_reducible rfl
      try simp only [Act.put, List.setIfInBounds_toArray, List.set_cons_zero, List.set_cons_succ]
      refine takeH (d := some 40) (v := .bool true) 12 rfl rfl (by kernel_rfl) (by kernel_rfl) (by kernel_rfl) (fun _ _ _ h => h) (by rfl) (fun w hSw => by (try dsimp only at hSw); have := HLL.out; go_simp; first | done | omega | rw [decide_eq_true (by omega)]) hHeld ?_
      try simp only [Act.put, List.setIfInBounds_toArray, List.set_cons_zero, List.set_cons_succ]
      refine takeH (d := some 41) (v := ?_) 13 rfl rfl (by kernel_rfl) (by kernel_rfl) (by kernel_rfl) (fun _ _ _ h => h) (by rfl) ?_ hHeld ?_
      rotate_left
      · intro w hSw
        try dsimp only at hSw
        go_simp <;> with_reducible rfl
      try simp only [Act.put, List.setIfInBounds_toArray, List.set_cons_zero, List.set_cons_succ]
      refine takeH (d := some 42) (v := ?_) 14 rfl rfl (by kernel_rfl) (by kernel_rfl) (by kernel_rfl) (fun _ _ _ h => h) (by rfl) ?_ hHeld ?_
      rotate_left
      · intro w hSw
        try dsimp only at hSw
        go_simp <;> with_reducible rfl
      try simp only [Act.put, List.setIfInBounds_toArray, List.set_cons_zero, List.set_cons_succ]
      refine takeH (d := some 43) (v := ?_) 15 rfl rfl (by kernel_rfl) (by kernel_rfl) (by kernel_rfl) (fun _ _ _ h => h) (by rfl) ?_ hHeld ?_
      rotate_left
      · intro w hSw
        try dsimp only at hSw
        go_simp <;> with_reducible rfl
      try simp only [Act.put, List.setIfInBounds_toArray, List.set_cons_zero, List.set_cons_succ]
      refine takeH (d := some 44) (v := ?_) 16 rfl rfl (by kernel_rfl) (by kernel_rfl) (by kernel_rfl) (fun _ _ _ h => h) (by rfl) ?_ hHeld ?_
      rotate_left
      · intro w hSw
        try dsimp only at hSw
        go_simp <;> with_reducible rfl
      try simp only [Act.put, List.setIfInBounds_toArray, List.set_cons_zero, List.set_cons_succ]
      refine takeH (d := some 45) (v := ?_) 17 rfl rfl (by kernel_rfl) (by kernel_rfl) (by kernel_rfl) (fun _ _ _ h => h) (by rfl) ?_ hHeld ?_
      rotate_left
      · intro w hSw
        try dsimp only at hSw
        go_simp <;> with_reducible rfl
      try simp only [Act.put, List.setIfInBounds_toArray, List.set_cons_zero, List.set_cons_succ]
      refine takeH (d := some 46) (v := .int .i64 (ls.length : Int)) 18 rfl rfl (by kernel_rfl) (by kernel_rfl) (by kernel_rfl) (fun _ _ _ h => h) (by rfl) (fun w hSw => by (try dsimp only at hSw); go_simp; (try go_bits); first | done | rw [HS.out] | omega) hHeld ?_
      try simp only [Act.put, List.setIfInBounds_toArray, List.set_cons_zero, List.set_cons_succ]
      refine takeH (d := some 47) (v := .slice A1 ls.length c1) 19 rfl rfl (by kernel_rfl) (by kernel_rfl) (by kernel_rfl) (fun _ _ _ h => h) (by rfl) (fun w hSw => by (try dsimp only at hSw); go_simp; intro hcc; omega) hHeld ?_
      try simp only [Act.put, List.setIfInBounds_toArray, List.set_cons_zero, List.set_cons_succ]
      refine takeH (d := some 48) (v := ?_) 20 rfl rfl (by kernel_rfl) (by kernel_rfl) (by kernel_rfl) (fun _ _ _ h => h) (by rfl) ?_ hHeld ?_
      rotate_left
      · intro w hSw
        try dsimp only at hSw
        go_simp <;> with_reducible rfl
      try simp only [Act.put, List.setIfInBounds_toArray, List.set_cons_zero, List.set_cons_succ]
      refine takeH (d := some 49) (v := ?_) 21 rfl rfl (by kernel_rfl) (by kernel_rfl) (by kernel_rfl) (fun _ _ _ h => h) (by rfl) ?_ hHeld ?_
      rotate_left
      · intro w hSw
        try dsimp only at hSw
        go_simp <;> with_reducible rfl
      try simp only [Act.put, List.setIfInBounds_toArray, List.set_cons_zero, List.set_cons_succ]
      refine takeH (d := some 50) (v := ?_) 22 rfl rfl (by kernel_rfl) (by kernel_rfl) (by kernel_rfl) (fun _ _ _ h => h) (by rfl) ?_ hHeld ?_
      rotate_left
      · intro w hSw
        try dsimp only at hSw
        go_simp <;> with_reducible rfl
      try simp only [Act.put, List.setIfInBounds_toArray, List.set_cons_zero, List.set_cons_succ]
      refine takeH (d := some 51) (v := .int .i64 (ls.length : Int)) 23 rfl rfl (by kernel_rfl) (by kernel_rfl) (by kernel_rfl) (fun _ _ _ h => h) (by rfl) (fun w hSw => by (try dsimp only at hSw); go_simp; (try go_bits); first | done | rw [HS.out] | omega) hHeld ?_
      try simp only [Act.put, List.setIfInBounds_toArray, List.set_cons_zero, List.set_cons_succ]
      refine takeH (d := some 52) (v := .slice A2 ls.length c2) 24 rfl rfl (by kernel_rfl) (by kernel_rfl) (by kernel_rfl) (fun _ _ _ h => h) (by rfl) (fun w hSw => by (try dsimp only at hSw); go_simp; intro hcc; omega) hHeld ?_
      try simp only [Act.put, List.setIfInBounds_toArray, List.set_cons_zero, List.set_cons_succ]
      have hcal : Calls Try.prog 8 #[.slice A1 ls.length c1, .slice A2 ls.length c2] w3 fun e w' => e = .returned (.bool true) ∧ Drawn0 w3 w' := by
        have T1 := Kd.R_reads' (Kd.R_take HR1.out (m := ls.length) (by simp))
        have T2 := Kd.R_reads' (Kd.R_take HR2.out (m := ls.length) (by rw [HMS.out]; simp))
        have e1 : (ls.map wv ++ [endV (a ++ (⟨#[32]⟩ : ByteArray)).size]).take ls.length = ls.map wv := by
          rw [List.take_append_of_le_length (by simp), List.take_of_length_le (by simp)]
        have e2 : (ms.map wv ++ [endV (a ++ (⟨#[32]⟩ : ByteArray) ++ b).size]).take ls.length = ls.map wv := by
          rw [HMS.out, List.map_append, List.append_assoc, List.take_append_of_le_length (by simp), List.take_of_length_le (by simp)]
        rw [e1] at T1
        rw [e2] at T2
        have hl : (ls.map wv).length = ls.length := List.length_map _
        have := lychgatelaw01_Words.calls _ A1 c1 (ls.map wv) A2 c2 (ls.map wv) true w3 T1.2.2 (by rw [hl]; exact T1.2.1) T2.2.2 (by rw [hl]; exact T2.2.1) (words_same _ (by rw [hl]; omega))
        rw [hl] at this
        exact this
      refine callH (d := some 53) 25 rfl rfl (by kernel_rfl) (by rfl) (by kernel_rfl) hcal ?_
      rintro e w4 ⟨rfl, hD⟩
      replace HB2 := Aside0.mk (below_then HB2.out HB2.out.size hD.below)
      clear hD hcal
      refine ⟨_, rfl, trivial, fun hHeld => ?_⟩
      try simp only [Act.put, List.setIfInBounds_toArray, List.set_cons_zero, List.set_cons_succ]
      refine takeH (d := some 54) (v := ?_) 26 rfl rfl (by kernel_rfl) (by kernel_rfl) (by kernel_rfl) (fun _ _ _ h => h) (by rfl) ?_ hHeld ?_
      rotate_left
      · intro w hSw
        try dsimp only at hSw
        go_simp <;> with_reducible rfl
      try simp only [Act.put, List.setIfInBounds_toArray, List.set_cons_zero, List.set_cons_succ]
      refine takeH (d := some 4) (v := ?_) 27 rfl rfl (by kernel_rfl) (by kernel_rfl) (by kernel_rfl) (fun _ _ _ h => h) (by rfl) ?_ hHeld ?_
      rotate_left
      · intro w hSw
        try dsimp only at hSw
        go_simp <;> with_reducible rfl
      try simp only [Act.put, List.setIfInBounds_toArray, List.set_cons_zero, List.set_cons_succ]
      refine wpAnyH_done (by kernel_rfl) ?_ _
      clear hHeld
      go_wp2_with fail
      go_ret
      exact ⟨rfl, HB2.out⟩
end Go.Proofs.Ytjmpejbciniceaa.X
