/- The contract of scan's method span. -/
import Derived.Test.YtjmpejbciniceaaDoorHPut
namespace Go.Proofs.YtjmpejbciniceaaDoor.X
open Go.RowKit Go.Proofs.YtjmpejbciniceaaDoorW.PrintWords Go.Proofs.YtjmpejbciniceaaDoorW.PrintLast Go.Proofs.YtjmpejbciniceaaDoorW.PrintMore
set_option linter.unusedVariables false
set_option linter.unusedSimpArgs false

theorem digit_is (c : UInt8) : scan_digit.f (c.toNat : Int) = some (digU c) := by
  unfold scan_digit.f digU
  have e1 : ((c.toNat : Int) ≥ 48) ↔ 48 ≤ c := by rw [UInt8.le_iff_toNat_le]; show (c.toNat : Int) ≥ 48 ↔ 48 ≤ c.toNat; omega
  have e2 : ((c.toNat : Int) ≤ 57) ↔ c ≤ 57 := by rw [UInt8.le_iff_toNat_le]; show (c.toNat : Int) ≤ 57 ↔ c.toNat ≤ 57; omega
  by_cases h : 48 ≤ c
  · rw [if_pos (e1.2 h)]; simp [h, e2]
  · rw [if_neg (fun q => h (e1.1 q))]; simp [h]
theorem letter_is (c : UInt8) : scan_letter.f (c.toNat : Int) = some (letU c) := by
  unfold scan_letter.f letU
  have le : ∀ a b : UInt8, a ≤ b ↔ (a.toNat : Int) ≤ (b.toNat : Int) := fun a b => by rw [UInt8.le_iff_toNat_le]; omega
  have eq : (c == 95) = decide ((c.toNat : Int) = 95) := by
    rw [Bool.eq_iff_iff, beq_iff_eq, decide_eq_true_eq, ← UInt8.toNat_inj]
    show c.toNat = 95 ↔ _
    omega
  rw [eq]
  simp only [le]
  show _ = some (decide ((65 : Int) ≤ c.toNat) && decide ((c.toNat : Int) ≤ 90) || decide ((97 : Int) ≤ c.toNat) && decide ((c.toNat : Int) ≤ 122) || decide ((c.toNat : Int) = 95))
  by_cases h1 : (65 : Int) ≤ c.toNat <;> by_cases h2 : (c.toNat : Int) ≤ 90 <;> by_cases h3 : (97 : Int) ≤ c.toNat <;> by_cases h4 : (c.toNat : Int) ≤ 122 <;> by_cases h5 : (c.toNat : Int) = 95 <;> simp [h1, h2, h3, h4, h5] <;> omega
theorem digit_calls (c : UInt8) (w : World) : Calls Tryd.prog 63 #[.int .u8 (c.toNat : Int)] w fun e w' => e = .returned (.bool (digU c)) ∧ Below w.heap.size w w' := (scan_digit.calls _ _ w (digit_is c)).mono fun e w' h => ⟨h.1, h.2.below⟩
theorem letter_calls (c : UInt8) (w : World) : Calls Tryd.prog 58 #[.int .u8 (c.toNat : Int)] w fun e w' => e = .returned (.bool (letU c)) ∧ Below w.heap.size w w' := (scan_letter.calls _ _ w (letter_is c)).mono fun e w' h => ⟨h.1, h.2.below⟩
def spanP (b : Bool) (c : UInt8) : Bool := digU c || (b && letU c)
def spanN (s : ByteArray) (a : Nat) (b : Bool) : Nat := ((s.data.toList.drop a).takeWhile (spanP b)).length
set_option maxRecDepth 100000 in
set_option maxHeartbeats 1600000 in
theorem span_calls {w0 : World} {g : Nat} {s : ByteArray} {a : Nat} {v : Value} {ws : List S37} {w : World} (h : Rd w0 g s a v ws w) (b : Bool) (ha : a ≤ s.size) (hs : s.size ≤ 65536) :
    Calls Tryd.prog 59 #[.pointer (some ⟨g, 0, none⟩), .bool b] w fun e w' => e = .returned (.string (s.extract a (a + spanN s a b))) ∧ Below w.heap.size w w' := by
  have HR := Aside0.mk h
  clear h
  go_enter Tryd.func59, Tryd.ntmps59
  have e0 := (blk_cell HR.out.blk 0).trans rfl
  have e1 := (blk_cell HR.out.blk 1).trans rfl
  simp at e0 e1
  go_wp2_with fail
  go_loopw [5] (fun i wr => ∃ p : Nat, i = .int .i64 p ∧ a ≤ p ∧ p ≤ s.size ∧ spanN s a b = (p - a) + spanN s p b ∧ Below w.heap.size w wr) (fun i _ => s.size - (intOf i).toNat)
  case atStart => exact ⟨a, rfl, Nat.le_refl _, ha, by omega, Below.refl _ _⟩
  case round =>
    obtain ⟨p, rfl, h1, h2, h3, hB⟩ := hrel
    have H3 := Aside0.mk h3
    have HB := Aside0.mk hB
    have HR0 := HR
    replace HR := Aside0.mk (HR.out.after hB)
    clear h3 hB e0 e1
    have e0 := (blk_cell HR.out.blk 0).trans rfl
    have e1 := (blk_cell HR.out.blk 1).trans rfl
    simp at e0 e1
    by_cases hlt : p < s.size
    · go_wp2_with fail
      refine (digit_calls _ _).mono ?_
      rintro e w2 ⟨rfl, hB2⟩
      replace HR := Aside0.mk (HR.out.after hB2)
      replace HB := Aside0.mk (below_then HB.out HB.out.size hB2)
      clear hB2 e0 e1
      have hd := drop_at s p hlt
      have HN := Aside0.mk (show spanN s p b = if spanP b s[p] then spanN s (p + 1) b + 1 else 0 from by
        unfold spanN
        rw [hd, List.takeWhile_cons]
        split <;> simp)
      clear hd
      have e0 := (blk_cell HR.out.blk 0).trans rfl
      have e1 := (blk_cell HR.out.blk 1).trans rfl
      simp at e0 e1
      cases hg : digU s[p] with
      | true =>
        have hq := HN.out
        rw [if_pos (by simp [spanP, hg])] at hq
        have HQ := Aside0.mk hq
        clear hq hg
        go_wp2_with fail
        go_roundw
        case rel => exact ⟨p + 1, by go_num, by omega, by omega, by have := H3.out; have := HQ.out; omega, HB.out⟩
        case measure => simp [intOf]; omega
      | false =>
        cases b with
        | false =>
          have hq := HN.out
          rw [if_neg (by simp [spanP, hg])] at hq
          have HQ := Aside0.mk hq
          clear hq hg
          go_wp2_with fail
          have HE : Aside0 (a + spanN s a false = p) := .mk (by have := H3.out; have := HQ.out; omega)
          refine wp_region_held_drew (S := fun w' => w'.cell? ⟨g, 0, none⟩ = some (.string s) ∧ w'.cell? ⟨g, 1, none⟩ = some (.int .i64 (a : Int))) (by kernel_rfl) ⟨e0, e1⟩ (fun hHeld => ?_)
          clear e0 e1
          refine takeA 40 0 (v := ?_) ?_ hHeld ?_
          rotate_left
          · intro w hSw
            try dsimp only at hSw
            go_simp <;> with_reducible rfl
          try simp only [Act.put, List.setIfInBounds_toArray, List.set_cons_zero, List.set_cons_succ]
          refine takeA 41 1 (v := ?_) ?_ hHeld ?_
          rotate_left
          · intro w hSw
            try dsimp only at hSw
            go_simp <;> with_reducible rfl
          try simp only [Act.put, List.setIfInBounds_toArray, List.set_cons_zero, List.set_cons_succ]
          refine takeA 42 2 (v := ?_) ?_ hHeld ?_
          rotate_left
          · intro w hSw
            try dsimp only at hSw
            go_simp <;> with_reducible rfl
          try simp only [Act.put, List.setIfInBounds_toArray, List.set_cons_zero, List.set_cons_succ]
          refine takeA 43 3 (v := ?_) ?_ hHeld ?_
          rotate_left
          · intro w hSw
            try dsimp only at hSw
            go_simp <;> with_reducible rfl
          try simp only [Act.put, List.setIfInBounds_toArray, List.set_cons_zero, List.set_cons_succ]
          refine takeA 44 4 (v := ?_) ?_ hHeld ?_
          rotate_left
          · intro w hSw
            try dsimp only at hSw
            go_simp <;> with_reducible rfl
          try simp only [Act.put, List.setIfInBounds_toArray, List.set_cons_zero, List.set_cons_succ]
          refine takeA 45 5 (v := ?_) ?_ hHeld ?_
          rotate_left
          · intro w hSw
            try dsimp only at hSw
            go_simp <;> with_reducible rfl
          try simp only [Act.put, List.setIfInBounds_toArray, List.set_cons_zero, List.set_cons_succ]
          refine takeA 46 6 (v := ?_) ?_ hHeld ?_
          rotate_left
          · intro w hSw
            try dsimp only at hSw
            go_simp <;> with_reducible rfl
          try simp only [Act.put, List.setIfInBounds_toArray, List.set_cons_zero, List.set_cons_succ]
          refine takeA 47 7 (v := ?_) ?_ hHeld ?_
          rotate_left
          · intro w hSw
            try dsimp only at hSw
            go_simp <;> with_reducible rfl
          try simp only [Act.put, List.setIfInBounds_toArray, List.set_cons_zero, List.set_cons_succ]
          refine takeA 48 8 (v := ?_) ?_ hHeld ?_
          rotate_left
          · intro w hSw
            try dsimp only at hSw
            go_simp <;> with_reducible rfl
          try simp only [Act.put, List.setIfInBounds_toArray, List.set_cons_zero, List.set_cons_succ]
          refine takeA 49 9 (v := ?_) ?_ hHeld ?_
          rotate_left
          · intro w hSw
            try dsimp only at hSw
            go_simp <;> with_reducible rfl
          try simp only [Act.put, List.setIfInBounds_toArray, List.set_cons_zero, List.set_cons_succ]
          refine takeA 4 10 (v := ?_) ?_ hHeld ?_
          rotate_left
          · intro w hSw
            try dsimp only at hSw
            go_simp <;> with_reducible rfl
          try simp only [Act.put, List.setIfInBounds_toArray, List.set_cons_zero, List.set_cons_succ]
          refine wpAnyH_done (by kernel_rfl) ?_ _
          go_wp2_with fail
          go_ret
          refine ⟨?_, below_then HB.out HB.out.size (Below.refl _ _).drew⟩
          rw [HE.out]
          rfl
        | true =>
          go_wp2_with fail
          clear e0 e1
          refine (letter_calls _ _).mono ?_
          rintro e w3 ⟨rfl, hB2⟩
          replace HR := Aside0.mk (HR.out.after hB2)
          replace HB := Aside0.mk (below_then HB.out HB.out.size hB2)
          clear hB2
          have e0 := (blk_cell HR.out.blk 0).trans rfl
          have e1 := (blk_cell HR.out.blk 1).trans rfl
          simp at e0 e1
          cases hl : letU s[p] with
          | true =>
            have hq := HN.out
            rw [if_pos (by simp [spanP, hl])] at hq
            have HQ := Aside0.mk hq
            clear hq hg hl
            go_wp2_with fail
            go_roundw
            case rel => exact ⟨p + 1, by go_num, by omega, by omega, by have := H3.out; have := HQ.out; omega, HB.out⟩
            case measure => simp [intOf]; omega
          | false =>
            have hq := HN.out
            rw [if_neg (by simp [spanP, hg, hl])] at hq
            have HQ := Aside0.mk hq
            clear hq hg hl
            go_wp2_with fail
            have HE : Aside0 (a + spanN s a true = p) := .mk (by have := H3.out; have := HQ.out; omega)
            refine wp_region_held_drew (S := fun w' => w'.cell? ⟨g, 0, none⟩ = some (.string s) ∧ w'.cell? ⟨g, 1, none⟩ = some (.int .i64 (a : Int))) (by kernel_rfl) ⟨e0, e1⟩ (fun hHeld => ?_)
            clear e0 e1
            refine takeA 40 0 (v := ?_) ?_ hHeld ?_
            rotate_left
            · intro w hSw
              try dsimp only at hSw
              go_simp <;> with_reducible rfl
            try simp only [Act.put, List.setIfInBounds_toArray, List.set_cons_zero, List.set_cons_succ]
            refine takeA 41 1 (v := ?_) ?_ hHeld ?_
            rotate_left
            · intro w hSw
              try dsimp only at hSw
              go_simp <;> with_reducible rfl
            try simp only [Act.put, List.setIfInBounds_toArray, List.set_cons_zero, List.set_cons_succ]
            refine takeA 42 2 (v := ?_) ?_ hHeld ?_
            rotate_left
            · intro w hSw
              try dsimp only at hSw
              go_simp <;> with_reducible rfl
            try simp only [Act.put, List.setIfInBounds_toArray, List.set_cons_zero, List.set_cons_succ]
            refine takeA 43 3 (v := ?_) ?_ hHeld ?_
            rotate_left
            · intro w hSw
              try dsimp only at hSw
              go_simp <;> with_reducible rfl
            try simp only [Act.put, List.setIfInBounds_toArray, List.set_cons_zero, List.set_cons_succ]
            refine takeA 44 4 (v := ?_) ?_ hHeld ?_
            rotate_left
            · intro w hSw
              try dsimp only at hSw
              go_simp <;> with_reducible rfl
            try simp only [Act.put, List.setIfInBounds_toArray, List.set_cons_zero, List.set_cons_succ]
            refine takeA 45 5 (v := ?_) ?_ hHeld ?_
            rotate_left
            · intro w hSw
              try dsimp only at hSw
              go_simp <;> with_reducible rfl
            try simp only [Act.put, List.setIfInBounds_toArray, List.set_cons_zero, List.set_cons_succ]
            refine takeA 46 6 (v := ?_) ?_ hHeld ?_
            rotate_left
            · intro w hSw
              try dsimp only at hSw
              go_simp <;> with_reducible rfl
            try simp only [Act.put, List.setIfInBounds_toArray, List.set_cons_zero, List.set_cons_succ]
            refine takeA 47 7 (v := ?_) ?_ hHeld ?_
            rotate_left
            · intro w hSw
              try dsimp only at hSw
              go_simp <;> with_reducible rfl
            try simp only [Act.put, List.setIfInBounds_toArray, List.set_cons_zero, List.set_cons_succ]
            refine takeA 48 8 (v := ?_) ?_ hHeld ?_
            rotate_left
            · intro w hSw
              try dsimp only at hSw
              go_simp <;> with_reducible rfl
            try simp only [Act.put, List.setIfInBounds_toArray, List.set_cons_zero, List.set_cons_succ]
            refine takeA 49 9 (v := ?_) ?_ hHeld ?_
            rotate_left
            · intro w hSw
              try dsimp only at hSw
              go_simp <;> with_reducible rfl
            try simp only [Act.put, List.setIfInBounds_toArray, List.set_cons_zero, List.set_cons_succ]
            refine takeA 4 10 (v := ?_) ?_ hHeld ?_
            rotate_left
            · intro w hSw
              try dsimp only at hSw
              go_simp <;> with_reducible rfl
            try simp only [Act.put, List.setIfInBounds_toArray, List.set_cons_zero, List.set_cons_succ]
            refine wpAnyH_done (by kernel_rfl) ?_ _
            go_wp2_with fail
            go_ret
            refine ⟨?_, below_then HB.out HB.out.size (Below.refl _ _).drew⟩
            rw [HE.out]
            rfl
    · obtain rfl : p = s.size := by omega
      have HQ : Aside0 (spanN s s.size b = 0) := .mk (by
        unfold spanN
        rw [List.drop_eq_nil_of_le (by simp)]
        rfl)
      go_wp2_with fail
      have HE : Aside0 (a + spanN s a b = s.size) := .mk (by have := H3.out; have := HQ.out; omega)
      refine wp_region_held_drew (S := fun w' => w'.cell? ⟨g, 0, none⟩ = some (.string s) ∧ w'.cell? ⟨g, 1, none⟩ = some (.int .i64 (a : Int))) (by kernel_rfl) ⟨e0, e1⟩ (fun hHeld => ?_)
      clear e0 e1
      refine takeA 40 0 (v := ?_) ?_ hHeld ?_
      rotate_left
      · intro w hSw
        try dsimp only at hSw
        go_simp <;> with_reducible rfl
      try simp only [Act.put, List.setIfInBounds_toArray, List.set_cons_zero, List.set_cons_succ]
      refine takeA 41 1 (v := ?_) ?_ hHeld ?_
      rotate_left
      · intro w hSw
        try dsimp only at hSw
        go_simp <;> with_reducible rfl
      try simp only [Act.put, List.setIfInBounds_toArray, List.set_cons_zero, List.set_cons_succ]
      refine takeA 42 2 (v := ?_) ?_ hHeld ?_
      rotate_left
      · intro w hSw
        try dsimp only at hSw
        go_simp <;> with_reducible rfl
      try simp only [Act.put, List.setIfInBounds_toArray, List.set_cons_zero, List.set_cons_succ]
      refine takeA 43 3 (v := ?_) ?_ hHeld ?_
      rotate_left
      · intro w hSw
        try dsimp only at hSw
        go_simp <;> with_reducible rfl
      try simp only [Act.put, List.setIfInBounds_toArray, List.set_cons_zero, List.set_cons_succ]
      refine takeA 44 4 (v := ?_) ?_ hHeld ?_
      rotate_left
      · intro w hSw
        try dsimp only at hSw
        go_simp <;> with_reducible rfl
      try simp only [Act.put, List.setIfInBounds_toArray, List.set_cons_zero, List.set_cons_succ]
      refine takeA 45 5 (v := ?_) ?_ hHeld ?_
      rotate_left
      · intro w hSw
        try dsimp only at hSw
        go_simp <;> with_reducible rfl
      try simp only [Act.put, List.setIfInBounds_toArray, List.set_cons_zero, List.set_cons_succ]
      refine takeA 46 6 (v := ?_) ?_ hHeld ?_
      rotate_left
      · intro w hSw
        try dsimp only at hSw
        go_simp <;> with_reducible rfl
      try simp only [Act.put, List.setIfInBounds_toArray, List.set_cons_zero, List.set_cons_succ]
      refine takeA 47 7 (v := ?_) ?_ hHeld ?_
      rotate_left
      · intro w hSw
        try dsimp only at hSw
        go_simp <;> with_reducible rfl
      try simp only [Act.put, List.setIfInBounds_toArray, List.set_cons_zero, List.set_cons_succ]
      refine takeA 48 8 (v := ?_) ?_ hHeld ?_
      rotate_left
      · intro w hSw
        try dsimp only at hSw
        go_simp <;> with_reducible rfl
      try simp only [Act.put, List.setIfInBounds_toArray, List.set_cons_zero, List.set_cons_succ]
      refine takeA 49 9 (v := ?_) ?_ hHeld ?_
      rotate_left
      · intro w hSw
        try dsimp only at hSw
        go_simp <;> with_reducible rfl
      try simp only [Act.put, List.setIfInBounds_toArray, List.set_cons_zero, List.set_cons_succ]
      refine takeA 4 10 (v := ?_) ?_ hHeld ?_
      rotate_left
      · intro w hSw
        try dsimp only at hSw
        go_simp <;> with_reducible rfl
      try simp only [Act.put, List.setIfInBounds_toArray, List.set_cons_zero, List.set_cons_succ]
      refine wpAnyH_done (by kernel_rfl) ?_ _
      go_wp2_with fail
      go_ret
      refine ⟨?_, below_then HB.out HB.out.size (Below.refl _ _).drew⟩
      rw [HE.out]
      rfl
end Go.Proofs.YtjmpejbciniceaaDoor.X
