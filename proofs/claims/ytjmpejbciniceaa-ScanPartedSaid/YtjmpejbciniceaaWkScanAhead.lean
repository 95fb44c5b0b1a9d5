/- The walk of the law ScanAhead. -/
import Derived.Test.YtjmpejbciniceaaHAll
import Derived.Test.YtjmpejbciniceaaX3a
namespace Go.Proofs.Ytjmpejbciniceaa.X
open Go.RowKit Go.Proofs.YtjmpejbciniceaaW.PrintWords Go.Proofs.YtjmpejbciniceaaW.PrintLast Go.Proofs.YtjmpejbciniceaaW.PrintMore
set_option linter.unusedVariables false
set_option linter.unusedSimpArgs false

theorem words_loop (l : List S29) : ∀ (m j : Nat), l.length = j + m → l.length ≤ 100000 → lychgatelaw01_Words.l0 (m + 1) l l (l.length : Int) (j : Int) = some true := by
  intro m
  induction m with
  | zero =>
    intro j h hl
    unfold lychgatelaw01_Words.l0
    rw [if_neg (by omega)]
  | succ m ih =>
    intro j h hl
    unfold lychgatelaw01_Words.l0
    rw [if_pos (by omega), if_pos (by omega), if_pos (by omega), if_pos (by omega), if_neg (by simp)]
    rw [show wrap64 ((j : Int) + 1) = ((j + 1 : Nat) : Int) from by rw [IntWalk.wrap64_in _ (by omega)]; omega]
    exact ih (j + 1) (by omega) hl
theorem words_same (l : List S29) (h : l.length ≤ 100000) : lychgatelaw01_Words.f (l.length + 1) l l = some true := by
  unfold lychgatelaw01_Words.f
  rw [if_pos rfl]
  exact words_loop l l.length 0 (by omega) h
theorem ahead_law {t1 t2 : ByteArray} {A B : List UInt8} (h1 : t1.data.toList = A ++ [32]) (h2 : t2.data.toList = A ++ 32 :: B) {ms : List SWord} (h : scanAll t2 = .ok ms) : ∃ ls rs, scanAll t1 = .ok ls ∧ ms = ls ++ rs := by
  have e1 : t1.size = (A ++ [32]).length := by rw [← h1]; simp
  have e2 : t2.size = (A ++ 32 :: B).length := by rw [← h2]; simp
  unfold scanAll at h ⊢
  split at h
  · simp at h
  · rename_i hn
    rw [if_neg (by rw [e1]; rw [e2] at hn; simp at hn ⊢; omega), h1, e1]
    rw [h2, e2] at h
    exact scan_ahead B _ _ A _ _ ms (by simp; omega) (Nat.lt_succ_self _) (by omega) (Nat.le_refl _) (Nat.le_refl _) h
theorem scan_len : ∀ (f N : Nat) (l : List UInt8) (ws : List SWord), scanR f N l = .ok ws → ws.length ≤ l.length := by
  intro f
  induction f with
  | zero => intro N l ws h; injection h with h; subst h; simp
  | succ f ih =>
    intro N l ws h
    have hk := skip_len l false
    rw [scanR] at h
    cases hs : skipR l false with
    | nil => rw [hs] at h; injection h with h; subst h; simp
    | cons c m =>
      rw [hs] at h hk
      simp only at h
      cases hw : wordR (c :: m) with
      | fault e s => rw [hw] at h; simp at h
      | word k s n =>
        rw [hw] at h
        simp only at h
        obtain ⟨r, hr, hne⟩ := word_prefix hw
        have h0 : 0 < s.length := List.length_pos_iff.2 hne
        cases hr2 : scanR f N ((c :: m).drop s.length) with
        | error e => rw [hr2] at h; simp at h
        | ok vs =>
          rw [hr2] at h
          injection h with h
          subst h
          have := ih _ _ _ hr2
          simp at this hk ⊢
          omega
theorem all_len {t : ByteArray} {ws : List SWord} (h : scanAll t = .ok ws) : ws.length ≤ 65536 := by
  unfold scanAll at h
  split at h
  · simp at h
  · have := scan_len _ _ _ _ h
    simp at this
    omega
theorem all_error {t : ByteArray} {w : World} {e : Int × Nat × List UInt8} {en : Ending} {w' : World} (h : AllPost t.size w (.error e) en w') : ∃ q, en = .returned (.tuple #[.slice none 0 0, .iface 49 (.pointer (some ⟨q, 0, none⟩))]) ∧ Below w.heap.size w w' := by
  obtain ⟨q, h1, _, _, h2⟩ := h
  exact ⟨q, h1, h2⟩
theorem all_ok {N : Nat} {w : World} {ws : List SWord} {en : Ending} {w' : World} (h : AllPost N w (.ok ws) en w') : ∃ A c, en = .returned (.tuple #[.slice A (ws.length + 1) c, .nilIface]) ∧ k29.R 29 w' w.heap.size (fun _ => True) (.slice A (ws.length + 1) c) (ws.map wv ++ [endV N]) ∧ Below w.heap.size w w' := by
  obtain ⟨v, h1, h2, h3⟩ := h
  obtain ⟨A, c, rfl⟩ := Kd.R_slice h2
  have e : (ws.map wv ++ [endV N]).length = ws.length + 1 := by simp
  rw [e] at h1 h2
  exact ⟨A, c, h1, h2, h3⟩
set_option maxRecDepth 100000 in
set_option maxHeartbeats 3200000 in
theorem ahead_walk (a b : ByteArray) (w : World) (ha : a.size ≤ 140737488351232) (hb : b.size ≤ 140737488351232) : Calls Try.prog 4 #[.string a, .string b] w fun e w' => e = .returned (.bool true) ∧ Below w.heap.size w w' := by
  have h1 : (a ++ (⟨#[32]⟩ : ByteArray)).data.toList = a.data.toList ++ [32] := by simp
  have h2 : (a ++ (⟨#[32]⟩ : ByteArray) ++ b).data.toList = a.data.toList ++ 32 :: b.data.toList := by simp
  have HLAW := Aside0.mk (fun ms h => ahead_law h1 h2 (ms := ms) h)
  clear h1 h2
  go_enter Try.func4, Try.ntmps4
  go_wp2_with fail
  refine (all_calls _ _).mono ?_
  cases hr1 : scanAll (a ++ (⟨#[32]⟩ : ByteArray)) with
  | error x =>
    have HN := Aside0.mk (fun ms (h : scanAll (a ++ (⟨#[32]⟩ : ByteArray) ++ b) = .ok ms) => (by obtain ⟨ls, rs, h3, _⟩ := HLAW.out ms h; rw [hr1] at h3; exact absurd h3 (by simp) : False))
    clear hr1 HLAW
    intro e w1 hp
    obtain ⟨q, rfl, hB⟩ := all_error hp
    have HB := Aside0.mk hB
    clear hp hB
    go_wp2_with fail
    refine (all_calls _ _).mono ?_
    cases hr2 : scanAll (a ++ (⟨#[32]⟩ : ByteArray) ++ b) with
    | ok ms => exact (HN.out ms hr2).elim
    | error y =>
      clear hr2 HN
      intro e w2 hp
      obtain ⟨q2, rfl, hB⟩ := all_error hp
      have HB2 := Aside0.mk (below_then HB.out HB.out.size hB)
      clear hp hB
      go_wp2_with fail
      go_ret
      exact ⟨rfl, HB2.out⟩
  | ok ls =>
    have HN := Aside0.mk (fun ms (h : scanAll (a ++ (⟨#[32]⟩ : ByteArray) ++ b) = .ok ms) => (by obtain ⟨ls', rs, h3, h4⟩ := HLAW.out ms h; rw [hr1] at h3; injection h3 with h3; exact ⟨rs, by rw [h4, h3]⟩ : ∃ rs, ms = ls ++ rs))
    have HL := Aside0.mk (all_len hr1)
    clear hr1 HLAW
    intro e w1 hp
    obtain ⟨A1, c1, rfl, hR1, hB⟩ := all_ok hp
    have HB := Aside0.mk hB
    have HR1 := Aside0.mk hR1
    clear hp hB hR1
    go_wp2_with fail
    refine (all_calls _ _).mono ?_
    cases hr2 : scanAll (a ++ (⟨#[32]⟩ : ByteArray) ++ b) with
    | error y =>
      clear hr2 HN
      intro e w2 hp
      obtain ⟨q2, rfl, hB⟩ := all_error hp
      have HB2 := Aside0.mk (below_then HB.out HB.out.size hB)
      clear hp hB
      go_wp2_with fail
      go_ret
      exact ⟨rfl, HB2.out⟩
    | ok ms =>
      obtain ⟨rs, hms⟩ := HN.out ms hr2
      have HL2 := Aside0.mk (all_len hr2)
      clear hr2 HN
      intro e w2 hp
      obtain ⟨A2, c2, rfl, hR2, hB⟩ := all_ok hp
      have HB2 := Aside0.mk (below_then HB.out HB.out.size hB)
      replace HR1 := Aside0.mk (Kd.R_below HR1.out hB)
      have HR2 := Aside0.mk hR2
      have HLL : Aside0 (ls.length ≤ ms.length) := .mk (by rw [hms, List.length_append]; omega)
      have HMS := Aside0.mk hms
      have hl1 := HL.out
      have hl2 := HL2.out
      have hl3 := HLL.out
      clear hp hB hR2 hms
      generalize ms.length = m at *
      go_wp2_with fail
      refine wp_region_held_drew (S := fun _ => True) (by kernel_rfl) trivial (fun hHeld => ?_)
      replace HB2 := Aside0.mk (below_then HB2.out HB2.out.size ((Below.refl _ _).drew))
      replace HR1 := Aside0.mk (Kd.R_drew HR1.out)
      replace HR2 := Aside0.mk (Kd.R_drew HR2.out)
      generalize w2.drew = w3 at *
      have q1 := (Kd.R_reads' HR1.out).2.1
      have q2 := (Kd.R_reads' HR2.out).2.1
      have hS : IntKind.i64.wrap ((ls.length : Int) + 1 - 1) = (ls.length : Int) := by rw [IntWalk.i64_in _ (by omega)]; omega
      have HS := Aside0.mk hS
      clear hS
      refine takeH (d := some 28) (v := ?_) 0 rfl rfl (by kernel_rfl) (by kernel_rfl) (by kernel_rfl) (fun _ _ _ h => h) (by rfl) ?_ hHeld ?_
      rotate_left
      · intro w hSw
        try dsimp only at hSw
        go_simp <;> with_reducible rfl
      try simp only [Act.put, List.setIfInBounds_toArray, List.set_cons_zero, List.set_cons_succ]
      refine takeH (d := some 29) (v := ?_) 1 rfl rfl (by kernel_rfl) (by kernel_rfl) (by kernel_rfl) (fun _ _ _ h => h) (by rfl) ?_ hHeld ?_
      rotate_left
      · intro w hSw
        try dsimp only at hSw
        go_simp <;> with_reducible rfl
      try simp only [Act.put, List.setIfInBounds_toArray, List.set_cons_zero, List.set_cons_succ]
      refine takeH (d := some 30) (v := ?_) 2 rfl rfl (by kernel_rfl) (by kernel_rfl) (by kernel_rfl) (fun _ _ _ h => h) (by rfl) ?_ hHeld ?_
      rotate_left
      · intro w hSw
        try dsimp only at hSw
        go_simp <;> with_reducible rfl
      try simp only [Act.put, List.setIfInBounds_toArray, List.set_cons_zero, List.set_cons_succ]
      refine takeH (d := some 31) (v := ?_) 3 rfl rfl (by kernel_rfl) (by kernel_rfl) (by kernel_rfl) (fun _ _ _ h => h) (by rfl) ?_ hHeld ?_
      rotate_left
      · intro w hSw
        try dsimp only at hSw
        go_simp <;> with_reducible rfl
      try simp only [Act.put, List.setIfInBounds_toArray, List.set_cons_zero, List.set_cons_succ]
      refine takeH (d := some 32) (v := ?_) 4 rfl rfl (by kernel_rfl) (by kernel_rfl) (by kernel_rfl) (fun _ _ _ h => h) (by rfl) ?_ hHeld ?_
      rotate_left
      · intro w hSw
        try dsimp only at hSw
        go_simp <;> with_reducible rfl
      try simp only [Act.put, List.setIfInBounds_toArray, List.set_cons_zero, List.set_cons_succ]
      refine takeH (d := some 33) (v := ?_) 5 rfl rfl (by kernel_rfl) (by kernel_rfl) (by kernel_rfl) (fun _ _ _ h => h) (by rfl) ?_ hHeld ?_
      rotate_left
      · intro w hSw
        try dsimp only at hSw
        go_simp <;> with_reducible rfl
      try simp only [Act.put, List.setIfInBounds_toArray, List.set_cons_zero, List.set_cons_succ]
      refine takeH (d := some 34) (v := ?_) 6 rfl rfl (by kernel_rfl) (by kernel_rfl) (by kernel_rfl) (fun _ _ _ h => h) (by rfl) ?_ hHeld ?_
      rotate_left
      · intro w hSw
        try dsimp only at hSw
        go_simp <;> with_reducible rfl
      try simp only [Act.put, List.setIfInBounds_toArray, List.set_cons_zero, List.set_cons_succ]
      refine takeH (d := some 35) (v := .bool true) 7 rfl rfl (by kernel_rfl) (by kernel_rfl) (by kernel_rfl) (fun _ _ _ h => h) (by rfl) (fun w hSw => by (try dsimp only at hSw); have := HLL.out; go_simp; first | done | omega | rw [decide_eq_true (by omega)]) hHeld ?_
      try simp only [Act.put, List.setIfInBounds_toArray, List.set_cons_zero, List.set_cons_succ]
      refine takeH (d := some 36) (v := ?_) 8 rfl rfl (by kernel_rfl) (by kernel_rfl) (by kernel_rfl) (fun _ _ _ h => h) (by rfl) ?_ hHeld ?_
      rotate_left
      · intro w hSw
        try dsimp only at hSw
        go_simp <;> with_reducible rfl
      try simp only [Act.put, List.setIfInBounds_toArray, List.set_cons_zero, List.set_cons_succ]
      refine takeH (d := some 37) (v := ?_) 9 rfl rfl (by kernel_rfl) (by kernel_rfl) (by kernel_rfl) (fun _ _ _ h => h) (by rfl) ?_ hHeld ?_
      rotate_left
      · intro w hSw
        try dsimp only at hSw
        go_simp <;> with_reducible rfl
      try simp only [Act.put, List.setIfInBounds_toArray, List.set_cons_zero, List.set_cons_succ]
      refine takeH (d := some 38) (v := ?_) 10 rfl rfl (by kernel_rfl) (by kernel_rfl) (by kernel_rfl) (fun _ _ _ h => h) (by rfl) ?_ hHeld ?_
      rotate_left
      · intro w hSw
        try dsimp only at hSw
        go_simp <;> with_reducible rfl
      try simp only [Act.put, List.setIfInBounds_toArray, List.set_cons_zero, List.set_cons_succ]
      refine takeH (d := some 39) (v := ?_) 11 rfl rfl (by kernel_rfl) (by kernel_rfl) (by kernel_rfl) (fun _ _ _ h => h) (by rfl) ?_ hHeld ?_
      rotate_left
      · intro w hSw
        try dsimp only at hSw
        go_simp <;> with_reducible rfl
      try simp only [Act.put, List.setIfInBounds_toArray, List.set_cons_zero, List.set_cons_succ]
      refine takeH (d := some 40) (v := .bool true) 12 rfl rfl (by kernel_rfl) (by kernel_rfl) (by kernel_rfl) (fun _ _ _ h => h) (by rfl) (fun w hSw => by (try dsimp only at hSw); have := HLL.out; go_simp; first | done | omega | rw [decide_eq_true (by omega)]) hHeld ?_
      try simp only [Act.put, List.setIfInBounds_toArray, List.set_cons_zero, List.set_cons_succ]
      refine takeH (d := some 41) (v := ?_) 13 rfl rfl (by kernel_rfl) (by kernel_rfl) (by kernel_rfl) (fun _ _ _ h => h) (by rfl) ?_ hHeld ?_
      rotate_left
      · intro w hSw
        try dsimp only at hSw
        go_simp <;> with_reducible rfl
      try simp only [Act.put, List.setIfInBounds_toArray, List.set_cons_zero, List.set_cons_succ]
      refine takeH (d := some 42) (v := ?_) 14 rfl rfl (by kernel_rfl) (by kernel_rfl) (by kernel_rfl) (fun _ _ _ h => h) (by rfl) ?_ hHeld ?_
      rotate_left
      · intro w hSw
        try dsimp only at hSw
        go_simp <;> with_reducible rfl
      try simp only [Act.put, List.setIfInBounds_toArray, List.set_cons_zero, List.set_cons_succ]
      refine takeH (d := some 43) (v := ?_) 15 rfl rfl (by kernel_rfl) (by kernel_rfl) (by kernel_rfl) (fun _ _ _ h => h) (by rfl) ?_ hHeld ?_
      rotate_left
      · intro w hSw
        try dsimp only at hSw
        go_simp <;> with_reducible rfl
      try simp only [Act.put, List.setIfInBounds_toArray, List.set_cons_zero, List.set_cons_succ]
      refine takeH (d := some 44) (v := ?_) 16 rfl rfl (by kernel_rfl) (by kernel_rfl) (by kernel_rfl) (fun _ _ _ h => h) (by rfl) ?_ hHeld ?_
      rotate_left
      · intro w hSw
        try dsimp only at hSw
        go_simp <;> with_reducible rfl
      try simp only [Act.put, List.setIfInBounds_toArray, List.set_cons_zero, List.set_cons_succ]
      refine takeH (d := some 45) (v := ?_) 17 rfl rfl (by kernel_rfl) (by kernel_rfl) (by kernel_rfl) (fun _ _ _ h => h) (by rfl) ?_ hHeld ?_
      rotate_left
      · intro w hSw
        try dsimp only at hSw
        go_simp <;> with_reducible rfl
      try simp only [Act.put, List.setIfInBounds_toArray, List.set_cons_zero, List.set_cons_succ]
      refine takeH (d := some 46) (v := .int .i64 (ls.length : Int)) 18 rfl rfl (by kernel_rfl) (by kernel_rfl) (by kernel_rfl) (fun _ _ _ h => h) (by rfl) (fun w hSw => by (try dsimp only at hSw); go_simp; (try go_bits); first | done | rw [HS.out] | omega) hHeld ?_
      try simp only [Act.put, List.setIfInBounds_toArray, List.set_cons_zero, List.set_cons_succ]
      refine takeH (d := some 47) (v := .slice A1 ls.length c1) 19 rfl rfl (by kernel_rfl) (by kernel_rfl) (by kernel_rfl) (fun _ _ _ h => h) (by rfl) (fun w hSw => by (try dsimp only at hSw); go_simp; intro hcc; omega) hHeld ?_
      try simp only [Act.put, List.setIfInBounds_toArray, List.set_cons_zero, List.set_cons_succ]
      refine takeH (d := some 48) (v := ?_) 20 rfl rfl (by kernel_rfl) (by kernel_rfl) (by kernel_rfl) (fun _ _ _ h => h) (by rfl) ?_ hHeld ?_
      rotate_left
      · intro w hSw
        try dsimp only at hSw
        go_simp <;> with_reducible rfl
      try simp only [Act.put, List.setIfInBounds_toArray, List.set_cons_zero, List.set_cons_succ]
      refine takeH (d := some 49) (v := ?_) 21 rfl rfl (by kernel_rfl) (by kernel_rfl) (by kernel_rfl) (fun _ _ _ h => h) (by rfl) ?_ hHeld ?_
      rotate_left
      · intro w hSw
        try dsimp only at hSw
        go_simp <;> with_reducible rfl
      try simp only [Act.put, List.setIfInBounds_toArray, List.set_cons_zero, List.set_cons_succ]
      refine takeH (d := some 50) (v := ?_) 22 rfl rfl (by kernel_rfl) (by kernel_rfl) (by kernel_rfl) (fun _ _ _ h => h) (by rfl) ?_ hHeld ?_
      rotate_left
      · intro w hSw
        try dsimp only at hSw
        go_simp <;> with_reducible rfl
      try simp only [Act.put, List.setIfInBounds_toArray, List.set_cons_zero, List.set_cons_succ]
      refine takeH (d := some 51) (v := .int .i64 (ls.length : Int)) 23 rfl rfl (by kernel_rfl) (by kernel_rfl) (by kernel_rfl) (fun _ _ _ h => h) (by rfl) (fun w hSw => by (try dsimp only at hSw); go_simp; (try go_bits); first | done | rw [HS.out] | omega) hHeld ?_
      try simp only [Act.put, List.setIfInBounds_toArray, List.set_cons_zero, List.set_cons_succ]
      refine takeH (d := some 52) (v := .slice A2 ls.length c2) 24 rfl rfl (by kernel_rfl) (by kernel_rfl) (by kernel_rfl) (fun _ _ _ h => h) (by rfl) (fun w hSw => by (try dsimp only at hSw); go_simp; intro hcc; omega) hHeld ?_
      try simp only [Act.put, List.setIfInBounds_toArray, List.set_cons_zero, List.set_cons_succ]
      have hcal : Calls Try.prog 8 #[.slice A1 ls.length c1, .slice A2 ls.length c2] w3 fun e w' => e = .returned (.bool true) ∧ Drawn0 w3 w' := by
        have T1 := Kd.R_reads' (Kd.R_take HR1.out (m := ls.length) (by simp))
        have T2 := Kd.R_reads' (Kd.R_take HR2.out (m := ls.length) (by rw [HMS.out]; simp))
        have e1 : (ls.map wv ++ [endV (a ++ (⟨#[32]⟩ : ByteArray)).size]).take ls.length = ls.map wv := by
          rw [List.take_append_of_le_length (by simp), List.take_of_length_le (by simp)]
        have e2 : (ms.map wv ++ [endV (a ++ (⟨#[32]⟩ : ByteArray) ++ b).size]).take ls.length = ls.map wv := by
          rw [HMS.out, List.map_append, List.append_assoc, List.take_append_of_le_length (by simp), List.take_of_length_le (by simp)]
        rw [e1] at T1
        rw [e2] at T2
        have hl : (ls.map wv).length = ls.length := List.length_map _
        have := lychgatelaw01_Words.calls _ A1 c1 (ls.map wv) A2 c2 (ls.map wv) true w3 T1.2.2 (by rw [hl]; exact T1.2.1) T2.2.2 (by rw [hl]; exact T2.2.1) (words_same _ (by rw [hl]; omega))
        rw [hl] at this
        exact this
      refine callH (d := some 53) 25 rfl rfl (by kernel_rfl) (by rfl) (by kernel_rfl) hcal ?_
      rintro e w4 ⟨rfl, hD⟩
      replace HB2 := Aside0.mk (below_then HB2.out HB2.out.size hD.below)
      clear hD hcal
      refine ⟨_, rfl, trivial, fun hHeld => ?_⟩
      try simp only [Act.put, List.setIfInBounds_toArray, List.set_cons_zero, List.set_cons_succ]
      refine takeH (d := some 54) (v := ?_) 26 rfl rfl (by kernel_rfl) (by kernel_rfl) (by kernel_rfl) (fun _ _ _ h => h) (by rfl) ?_ hHeld ?_
      rotate_left
      · intro w hSw
        try dsimp only at hSw
        go_simp <;> with_reducible rfl
      try simp only [Act.put, List.setIfInBounds_toArray, List.set_cons_zero, List.set_cons_succ]
      refine takeH (d := some 4) (v := ?_) 27 rfl rfl (by kernel_rfl) (by kernel_rfl) (by kernel_rfl) (fun _ _ _ h => h) (by rfl) ?_ hHeld ?_
      rotate_left
      · intro w hSw
        try dsimp only at hSw
        go_simp <;> with_reducible rfl
      try simp only [Act.put, List.setIfInBounds_toArray, List.set_cons_zero, List.set_cons_succ]
      refine wpAnyH_done (by kernel_rfl) ?_ _
      clear hHeld
      go_wp2_with fail
      go_ret
      exact ⟨rfl, HB2.out⟩
end Go.Proofs.Ytjmpejbciniceaa.X
