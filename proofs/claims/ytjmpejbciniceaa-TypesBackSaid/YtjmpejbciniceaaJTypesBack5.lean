/- Texts of this claim, joined: HPut, HSpan, HNumber. -/
import Derived.Lib.ConvBytes
import Derived.Test.YtjmpejbciniceaaJTypesBack0
import Derived.Test.YtjmpejbciniceaaJTypesBack1
import Derived.Test.YtjmpejbciniceaaJTypesBack2
import Derived.Test.YtjmpejbciniceaaJTypesBack3
import Derived.Test.YtjmpejbciniceaaJTypesBack4
/- The contracts of scan's methods put and fault. -/
namespace Go.Proofs.Ytjmpejbciniceaa.X
open Go.RowKit Go.Proofs.YtjmpejbciniceaaW.PrintWords Go.Proofs.YtjmpejbciniceaaW.PrintLast Go.Proofs.YtjmpejbciniceaaW.PrintMore
set_option linter.unusedVariables false
set_option linter.unusedSimpArgs false

theorem info29 : (Try.prog.info? 29).map (fun i => (i.zero, i.size, i.bytes)) = some (some (.agg #[.int .i8 0, .string ⟨#[]⟩, .int .i64 0, .int .i64 0]), 4, 40) := by kernel_rfl
/-- A fault in memory. -/
def FaultAt (w : World) (p : Nat) (e : Int) (a : Int) (s : ByteArray) : Prop := w.heap[p]? = some (.cells #[.int .i64 e, .int .i64 a, .string s] 51 (0, 0))
def FaultPost (w : World) (e a : Int) (s : ByteArray) (en : Ending) (w' : World) : Prop := ∃ p, en = .returned (.pointer (some ⟨p, 0, none⟩)) ∧ FaultAt w' p e a s ∧ w.heap.size ≤ p ∧ Below w.heap.size w w'
set_option maxRecDepth 100000 in
set_option maxHeartbeats 1600000 in
theorem fault_calls {w0 : World} {g : Nat} {s : ByteArray} {a : Nat} {v : Value} {ws : List S29} {w : World} (h : Rd w0 g s a v ws w) (e : Int) (t : ByteArray) :
    Calls Try.prog 34 #[.pointer (some ⟨g, 0, none⟩), .int .i64 e, .string t] w (FaultPost w e a t) := by
  have e1 := (blk_cell h.blk 1).trans rfl
  simp at e1
  clear h
  go_enter Try.func34, Try.ntmps34
  go_wp2_with fail
  go_ret
  exact ⟨w.heap.size, rfl, heap_alloc_new w _, Nat.le_refl _, (Below.refl _ _).alloc (Nat.le_refl _) _⟩
theorem Rd.push {w0 : World} {g : Nat} {s : ByteArray} {a : Nat} {v v1 : Value} {ws ws' : List S29} {w w1 : World} (h : Rd w0 g s a v ws w) (hg : w.grownBy w1 v.ownBlock) (hb : Below w0.heap.size w0 w1) (hr : k29.R 29 w1 w0.heap.size (fun b => b ≠ g) v1 ws') :
    w1.heap[g]? = some (.cells #[.string s, .int .i64 (a : Int), v] 54 (0, 0)) ∧ Rd w0 g s a v1 ws' (w1.setCell ⟨g, 2, none⟩ v1) := by
  have hne : some g ≠ v.ownBlock := fun e => (h.row.1 g e.symm) rfl
  have h1 := blk_grown h.blk hg hne
  exact ⟨h1, blk_put h1 2 v1 (by simp), Kd.R_far hr (p := ⟨g, 2, none⟩) (fun b hk => hk) _, h.low, hb.setCell (p := ⟨g, 2, none⟩) h.low _⟩
theorem FaultPost.held {w0 : World} {g : Nat} {s t : ByteArray} {a : Nat} {v : Value} {ws : List S29} {w : World} {e p : Int} {en : Ending} {w' : World} (h : FaultPost w e p t en w') (hr : Rd w0 g s a v ws w) : w'.cell? ⟨g, 0, none⟩ = some (.string s) := by
  obtain ⟨q, _, _, _, hb⟩ := h
  exact (blk_cell (blk_below hr.blk hb) 0).trans rfl
def PutPost (w0 : World) (g : Nat) (s : ByteArray) (a : Nat) (ws : List S29) (en : Ending) (w' : World) : Prop := en = .returned (.pointer none) ∧ ∃ v, Rd w0 g s a v ws w'
set_option maxRecDepth 100000 in
set_option maxHeartbeats 1600000 in
theorem put_calls {w0 : World} {g : Nat} {s : ByteArray} {a : Nat} {v : Value} {ws : List S29} {w : World} (h : Rd w0 g s a v ws w) (k : Int) (t : ByteArray) (n : Int) (hl : ws.length ≤ 100000) (ha : a ≤ 100000) (ht : t.size ≤ 100000) :
    Calls Try.prog 36 #[.pointer (some ⟨g, 0, none⟩), .int .i8 k, .string t, .int .i64 n] w (PutPost w0 g s (a + t.size) (ws ++ [⟨k, t, n, a⟩])) := by
  have HR := Aside0.mk h
  clear h
  go_enter Try.func36, Try.ntmps36
  go_wp2_with fail
  have OK := Aside0.mk (fun {v' : Value} (w' : World) (h : w'.heap[g]? = some (.cells #[.string s, .int .i64 (a : Int), v'] 54 (0, 0))) => ((blk_cell h 1).trans rfl : w'.cell? ⟨g, 1, none⟩ = some (.int .i64 (a : Int))))
  refine wp_region_held_drew (S := fun w' => w'.cell? ⟨g, 1, none⟩ = some (.int .i64 (a : Int))) (by kernel_rfl) (OK.out _ (blk_below HR.out.blk (Below.refl _ _).drew)) (fun hHeld => ?_)
  replace HR := Aside0.mk (HR.out.after (Below.refl _ _).drew)
  have HX := Aside0.mk HR.out.blk
  have HG := Aside0.mk (blk_lt HR.out.blk)
  generalize w.drew = wd at *
  refine takeA 9 0 (v := ?_) ?_ hHeld ?_
  rotate_left
  · intro w hSw
    try dsimp only at hSw
    go_simp <;> with_reducible rfl
  try simp only [Act.put, List.setIfInBounds_toArray, List.set_cons_zero, List.set_cons_succ]
  refine takeA 10 1 (v := ?_) ?_ hHeld ?_
  rotate_left
  · intro w hSw
    try dsimp only at hSw
    go_simp <;> with_reducible rfl
  try simp only [Act.put, List.setIfInBounds_toArray, List.set_cons_zero, List.set_cons_succ]
  refine takeA 11 2 (v := ?_) ?_ hHeld ?_
  rotate_left
  · intro w hSw
    try dsimp only at hSw
    go_simp <;> with_reducible rfl
  try simp only [Act.put, List.setIfInBounds_toArray, List.set_cons_zero, List.set_cons_succ]
  refine takeA 12 3 (v := ?_) ?_ hHeld ?_
  rotate_left
  · intro w hSw
    try dsimp only at hSw
    go_simp <;> with_reducible rfl
  try simp only [Act.put, List.setIfInBounds_toArray, List.set_cons_zero, List.set_cons_succ]
  refine takeA 14 5 (v := ?_) ?_ hHeld ?_
  rotate_left
  · intro w hSw
    try dsimp only at hSw
    go_simp <;> with_reducible rfl
  try simp only [Act.put, List.setIfInBounds_toArray, List.set_cons_zero, List.set_cons_succ]
  refine takeA 15 6 (v := ?_) ?_ hHeld ?_
  rotate_left
  · intro w hSw
    try dsimp only at hSw
    go_simp <;> with_reducible rfl
  try simp only [Act.put, List.setIfInBounds_toArray, List.set_cons_zero, List.set_cons_succ]
  refine takeA 16 7 (v := ?_) ?_ hHeld ?_
  rotate_left
  · intro w hSw
    try dsimp only at hSw
    go_simp <;> with_reducible rfl
  try simp only [Act.put, List.setIfInBounds_toArray, List.set_cons_zero, List.set_cons_succ]
  refine takeA 17 8 (v := ?_) ?_ hHeld ?_
  rotate_left
  · intro w hSw
    try dsimp only at hSw
    go_simp <;> with_reducible rfl
  try simp only [Act.put, List.setIfInBounds_toArray, List.set_cons_zero, List.set_cons_succ]
  refine takeA 18 9 (v := ?_) ?_ hHeld ?_
  rotate_left
  · intro w hSw
    try dsimp only at hSw
    go_simp <;> with_reducible rfl
  try simp only [Act.put, List.setIfInBounds_toArray, List.set_cons_zero, List.set_cons_succ]
  refine takeA 19 10 (v := ?_) ?_ hHeld ?_
  rotate_left
  · intro w hSw
    try dsimp only at hSw
    go_simp <;> with_reducible rfl
  try simp only [Act.put, List.setIfInBounds_toArray, List.set_cons_zero, List.set_cons_succ]
  refine takeA 20 11 (v := ?_) ?_ hHeld ?_
  rotate_left
  · intro w hSw
    try dsimp only at hSw
    go_simp <;> with_reducible rfl
  try simp only [Act.put, List.setIfInBounds_toArray, List.set_cons_zero, List.set_cons_succ]
  refine takeA 21 12 (v := ?_) ?_ hHeld ?_
  rotate_left
  · intro w hSw
    try dsimp only at hSw
    go_simp <;> with_reducible rfl
  try simp only [Act.put, List.setIfInBounds_toArray, List.set_cons_zero, List.set_cons_succ]
  refine wpAnyH_ready (rs := [4, 13]) (by kernel_rfl) (by simp) ?_
  refine AllReadyH.cons rfl (fun K hK => ?_) (AllReadyH.cons rfl (fun K hK => ?_) AllReadyH.nil)
  · have e2 := (blk_cell HX.out 2).trans rfl
    simp at e2
    go_simp
    clear e2
    refine hK.out _ _ hHeld (fun hHeld => ?_)
    clear hK K
    try simp only [Act.put, List.setIfInBounds_toArray, List.set_cons_zero, List.set_cons_succ]
    refine wpAnyH_ready (rs := [13]) (by kernel_rfl) (by simp) ?_
    refine AllReadyH.cons rfl (fun K hK => ?_) AllReadyH.nil
    go_simp
    replace HX := Aside0.mk (blk_alloc HX.out (.cells #[.int .i8 k, .string t, .int .i64 n, .int .i64 (a : Int)] 29))
    refine hK.out _ _ (OK.out _ HX.out) (fun hHeld => ?_)
    clear hK K
    try simp only [Act.put, List.setIfInBounds_toArray, List.set_cons_zero, List.set_cons_succ]
    refine wpAnyH_ready (rs := [14]) (by kernel_rfl) (by simp) ?_
    refine AllReadyH.cons rfl (fun K hK => ?_) AllReadyH.nil
    refine Kd.R_append_step k29 w0.heap.size (by rfl) (.tmp 13) (.tmp 22) 22 29 (.agg #[.int .i8 0, .string ⟨#[]⟩, .int .i64 0, .int .i64 0]) 40 rfl Try.underlying22 info29 rfl (by decide) (by decide) v ws ⟨k, t, n, a⟩ [.int .i8 k, .string t, .int .i64 n, .int .i64 (a : Int)] (fun b => b ≠ g) (fun _ => False) (by rfl) (by rfl) (k29_mkM _ _ _ ⟨k, t, n, a⟩) (fun b hb => hb.elim) (fun b hb => by have := HG.out; omega) HR.out.row HR.out.below HR.out.below.size (by omega) ?_
    intro v4 w1 hr4 hb4 hg4 hat4
    obtain ⟨A4, c4, e4⟩ := Kd.R_slice hr4
    obtain ⟨n4, hn4⟩ : ∃ m, m = (ws ++ [(⟨k, t, n, a⟩ : S29)]).length := ⟨_, rfl⟩
    rw [← hn4] at e4
    subst e4
    clear hn4
    have hP := HR.out.push hg4 hb4 hr4
    have e2 := (blk_cell hP.1 2).trans rfl
    have z2 := blk_frozen hP.1 2
    simp at e2
    refine hK.out _ _ (OK.out _ hP.1) (fun hHeld => ?_)
    clear hK K
    have HJ := Aside0.mk hP.2
    clear hr4 hb4 hg4 hat4 hP HX
    try simp only [Act.put, List.setIfInBounds_toArray, List.set_cons_zero, List.set_cons_succ]
    refine takeA 24 15 (v := ?_) ?_ hHeld ?_
    rotate_left
    · intro w hSw
      try dsimp only at hSw
      go_simp <;> with_reducible rfl
    try simp only [Act.put, List.setIfInBounds_toArray, List.set_cons_zero, List.set_cons_succ]
    refine takeA 25 16 (v := ?_) ?_ hHeld ?_
    rotate_left
    · intro w hSw
      try dsimp only at hSw
      go_simp <;> with_reducible rfl
    try simp only [Act.put, List.setIfInBounds_toArray, List.set_cons_zero, List.set_cons_succ]
    refine wpAnyH_ready (rs := [17]) (by kernel_rfl) (by simp) ?_
    refine AllReadyH.cons rfl (fun K hK => ?_) AllReadyH.nil
    go_simp
    clear e2 z2
    refine hK.out _ _ (OK.out _ HJ.out.blk) (fun hHeld => ?_)
    clear hK K
    refine wpAnyH_done (by kernel_rfl) ?_ _
    have HF := Aside0.mk (HJ.out.move (a + t.size))
    have e1 := (blk_cell HJ.out.blk 1).trans rfl
    have z1 := blk_frozen HJ.out.blk 1
    simp at e1
    clear OK hHeld
    go_wp2_with fail
    go_ret
    exact ⟨rfl, _, HF.out⟩
  · go_simp
    replace HX := Aside0.mk (blk_alloc HX.out (.cells #[.int .i8 k, .string t, .int .i64 n, .int .i64 (a : Int)] 29))
    refine hK.out _ _ (OK.out _ HX.out) (fun hHeld => ?_)
    clear hK K
    try simp only [Act.put, List.setIfInBounds_toArray, List.set_cons_zero, List.set_cons_succ]
    refine wpAnyH_ready (rs := [4]) (by kernel_rfl) (by simp) ?_
    refine AllReadyH.cons rfl (fun K hK => ?_) AllReadyH.nil
    have e2 := (blk_cell HX.out 2).trans rfl
    simp at e2
    go_simp
    clear e2
    refine hK.out _ _ hHeld (fun hHeld => ?_)
    clear hK K
    try simp only [Act.put, List.setIfInBounds_toArray, List.set_cons_zero, List.set_cons_succ]
    refine wpAnyH_ready (rs := [14]) (by kernel_rfl) (by simp) ?_
    refine AllReadyH.cons rfl (fun K hK => ?_) AllReadyH.nil
    refine Kd.R_append_step k29 w0.heap.size (by rfl) (.tmp 13) (.tmp 22) 22 29 (.agg #[.int .i8 0, .string ⟨#[]⟩, .int .i64 0, .int .i64 0]) 40 rfl Try.underlying22 info29 rfl (by decide) (by decide) v ws ⟨k, t, n, a⟩ [.int .i8 k, .string t, .int .i64 n, .int .i64 (a : Int)] (fun b => b ≠ g) (fun _ => False) (by rfl) (by rfl) (k29_mkM _ _ _ ⟨k, t, n, a⟩) (fun b hb => hb.elim) (fun b hb => by have := HG.out; omega) HR.out.row HR.out.below HR.out.below.size (by omega) ?_
    intro v4 w1 hr4 hb4 hg4 hat4
    obtain ⟨A4, c4, e4⟩ := Kd.R_slice hr4
    obtain ⟨n4, hn4⟩ : ∃ m, m = (ws ++ [(⟨k, t, n, a⟩ : S29)]).length := ⟨_, rfl⟩
    rw [← hn4] at e4
    subst e4
    clear hn4
    have hP := HR.out.push hg4 hb4 hr4
    have e2 := (blk_cell hP.1 2).trans rfl
    have z2 := blk_frozen hP.1 2
    simp at e2
    refine hK.out _ _ (OK.out _ hP.1) (fun hHeld => ?_)
    clear hK K
    have HJ := Aside0.mk hP.2
    clear hr4 hb4 hg4 hat4 hP HX
    try simp only [Act.put, List.setIfInBounds_toArray, List.set_cons_zero, List.set_cons_succ]
    refine takeA 24 15 (v := ?_) ?_ hHeld ?_
    rotate_left
    · intro w hSw
      try dsimp only at hSw
      go_simp <;> with_reducible rfl
    try simp only [Act.put, List.setIfInBounds_toArray, List.set_cons_zero, List.set_cons_succ]
    refine takeA 25 16 (v := ?_) ?_ hHeld ?_
    rotate_left
    · intro w hSw
      try dsimp only at hSw
      go_simp <;> with_reducible rfl
    try simp only [Act.put, List.setIfInBounds_toArray, List.set_cons_zero, List.set_cons_succ]
    refine wpAnyH_ready (rs := [17]) (by kernel_rfl) (by simp) ?_
    refine AllReadyH.cons rfl (fun K hK => ?_) AllReadyH.nil
    go_simp
    clear e2 z2
    refine hK.out _ _ (OK.out _ HJ.out.blk) (fun hHeld => ?_)
    clear hK K
    refine wpAnyH_done (by kernel_rfl) ?_ _
    have HF := Aside0.mk (HJ.out.move (a + t.size))
    have e1 := (blk_cell HJ.out.blk 1).trans rfl
    have z1 := blk_frozen HJ.out.blk 1
    simp at e1
    clear OK hHeld
    go_wp2_with fail
    go_ret
    exact ⟨rfl, _, HF.out⟩
end Go.Proofs.Ytjmpejbciniceaa.X
/- The contract of scan's method span. -/
namespace Go.Proofs.Ytjmpejbciniceaa.X
open Go.RowKit Go.Proofs.YtjmpejbciniceaaW.PrintWords Go.Proofs.YtjmpejbciniceaaW.PrintLast Go.Proofs.YtjmpejbciniceaaW.PrintMore
set_option linter.unusedVariables false
set_option linter.unusedSimpArgs false

theorem digit_is (c : UInt8) : scan_digit.f (c.toNat : Int) = some (digU c) := by
  unfold scan_digit.f digU
  have e1 : ((c.toNat : Int) ≥ 48) ↔ 48 ≤ c := by rw [UInt8.le_iff_toNat_le]; show (c.toNat : Int) ≥ 48 ↔ 48 ≤ c.toNat; omega
  have e2 : ((c.toNat : Int) ≤ 57) ↔ c ≤ 57 := by rw [UInt8.le_iff_toNat_le]; show (c.toNat : Int) ≤ 57 ↔ c.toNat ≤ 57; omega
  by_cases h : 48 ≤ c
  · rw [if_pos (e1.2 h)]; simp [h, e2]
  · rw [if_neg (fun q => h (e1.1 q))]; simp [h]
theorem letter_is (c : UInt8) : scan_letter.f (c.toNat : Int) = some (letU c) := by
  unfold scan_letter.f letU
  have le : ∀ a b : UInt8, a ≤ b ↔ (a.toNat : Int) ≤ (b.toNat : Int) := fun a b => by rw [UInt8.le_iff_toNat_le]; omega
  have eq : (c == 95) = decide ((c.toNat : Int) = 95) := by
    rw [Bool.eq_iff_iff, beq_iff_eq, decide_eq_true_eq, ← UInt8.toNat_inj]
    show c.toNat = 95 ↔ _
    omega
  rw [eq]
  simp only [le]
  show _ = some (decide ((65 : Int) ≤ c.toNat) && decide ((c.toNat : Int) ≤ 90) || decide ((97 : Int) ≤ c.toNat) && decide ((c.toNat : Int) ≤ 122) || decide ((c.toNat : Int) = 95))
  by_cases h1 : (65 : Int) ≤ c.toNat <;> by_cases h2 : (c.toNat : Int) ≤ 90 <;> by_cases h3 : (97 : Int) ≤ c.toNat <;> by_cases h4 : (c.toNat : Int) ≤ 122 <;> by_cases h5 : (c.toNat : Int) = 95 <;> simp [h1, h2, h3, h4, h5] <;> omega
theorem digit_calls (c : UInt8) (w : World) : Calls Try.prog 37 #[.int .u8 (c.toNat : Int)] w fun e w' => e = .returned (.bool (digU c)) ∧ Below w.heap.size w w' := (scan_digit.calls _ _ w (digit_is c)).mono fun e w' h => ⟨h.1, h.2.below⟩
theorem letter_calls (c : UInt8) (w : World) : Calls Try.prog 32 #[.int .u8 (c.toNat : Int)] w fun e w' => e = .returned (.bool (letU c)) ∧ Below w.heap.size w w' := (scan_letter.calls _ _ w (letter_is c)).mono fun e w' h => ⟨h.1, h.2.below⟩
def spanP (b : Bool) (c : UInt8) : Bool := digU c || (b && letU c)
def spanN (s : ByteArray) (a : Nat) (b : Bool) : Nat := ((s.data.toList.drop a).takeWhile (spanP b)).length
set_option maxRecDepth 100000 in
set_option maxHeartbeats 1600000 in
theorem span_calls {w0 : World} {g : Nat} {s : ByteArray} {a : Nat} {v : Value} {ws : List S29} {w : World} (h : Rd w0 g s a v ws w) (b : Bool) (ha : a ≤ s.size) (hs : s.size ≤ 65536) :
    Calls Try.prog 33 #[.pointer (some ⟨g, 0, none⟩), .bool b] w fun e w' => e = .returned (.string (s.extract a (a + spanN s a b))) ∧ Below w.heap.size w w' := by
  have HR := Aside0.mk h
  clear h
  go_enter Try.func33, Try.ntmps33
  have e0 := (blk_cell HR.out.blk 0).trans rfl
  have e1 := (blk_cell HR.out.blk 1).trans rfl
  simp at e0 e1
  go_wp2_with fail
  go_loopw [5] (fun i wr => ∃ p : Nat, i = .int .i64 p ∧ a ≤ p ∧ p ≤ s.size ∧ spanN s a b = (p - a) + spanN s p b ∧ Below w.heap.size w wr) (fun i _ => s.size - (intOf i).toNat)
  case atStart => exact ⟨a, rfl, Nat.le_refl _, ha, by omega, Below.refl _ _⟩
  case round =>
    obtain ⟨p, rfl, h1, h2, h3, hB⟩ := hrel
    have H3 := Aside0.mk h3
    have HB := Aside0.mk hB
    have HR0 := HR
    replace HR := Aside0.mk (HR.out.after hB)
    clear h3 hB e0 e1
    have e0 := (blk_cell HR.out.blk 0).trans rfl
    have e1 := (blk_cell HR.out.blk 1).trans rfl
    simp at e0 e1
    by_cases hlt : p < s.size
    · go_wp2_with fail
      refine (digit_calls _ _).mono ?_
      rintro e w2 ⟨rfl, hB2⟩
      replace HR := Aside0.mk (HR.out.after hB2)
      replace HB := Aside0.mk (below_then HB.out HB.out.size hB2)
      clear hB2 e0 e1
      have hd := drop_at s p hlt
      have HN := Aside0.mk (show spanN s p b = if spanP b s[p] then spanN s (p + 1) b + 1 else 0 from by
        unfold spanN
        rw [hd, List.takeWhile_cons]
        split <;> simp)
      clear hd
      have e0 := (blk_cell HR.out.blk 0).trans rfl
      have e1 := (blk_cell HR.out.blk 1).trans rfl
      simp at e0 e1
      cases hg : digU s[p] with
      | true =>
        have hq := HN.out
        rw [if_pos (by simp [spanP, hg])] at hq
        have HQ := Aside0.mk hq
        clear hq hg
        go_wp2_with fail
        go_roundw
        case rel => exact ⟨p + 1, by go_num, by omega, by omega, by have := H3.out; have := HQ.out; omega, HB.out⟩
        case measure => simp [intOf]; omega
      | false =>
        cases b with
        | false =>
          have hq := HN.out
          rw [if_neg (by simp [spanP, hg])] at hq
          have HQ := Aside0.mk hq
          clear hq hg
          go_wp2_with fail
          have HE : Aside0 (a + spanN s a false = p) := .mk (by have := H3.out; have := HQ.out; omega)
          refine wp_region_held_drew (S := fun w' => w'.cell? ⟨g, 0, none⟩ = some (.string s) ∧ w'.cell? ⟨g, 1, none⟩ = some (.int .i64 (a : Int))) (by kernel_rfl) ⟨e0, e1⟩ (fun hHeld => ?_)
          clear e0 e1
          refine takeA 40 0 (v := ?_) ?_ hHeld ?_
          rotate_left
          · intro w hSw
            try dsimp only at hSw
            go_simp <;> with_reducible rfl
          try simp only [Act.put, List.setIfInBounds_toArray, List.set_cons_zero, List.set_cons_succ]
          refine takeA 41 1 (v := ?_) ?_ hHeld ?_
          rotate_left
          · intro w hSw
            try dsimp only at hSw
            go_simp <;> with_reducible rfl
          try simp only [Act.put, List.setIfInBounds_toArray, List.set_cons_zero, List.set_cons_succ]
          refine takeA 42 2 (v := ?_) ?_ hHeld ?_
          rotate_left
          · intro w hSw
            try dsimp only at hSw
            go_simp <;> with_reducible rfl
          try simp only [Act.put, List.setIfInBounds_toArray, List.set_cons_zero, List.set_cons_succ]
          refine takeA 43 3 (v := ?_) ?_ hHeld ?_
          rotate_left
          · intro w hSw
            try dsimp only at hSw
            go_simp <;> with_reducible rfl
          try simp only [Act.put, List.setIfInBounds_toArray, List.set_cons_zero, List.set_cons_succ]
          refine takeA 44 4 (v := ?_) ?_ hHeld ?_
          rotate_left
          · intro w hSw
            try dsimp only at hSw
            go_simp <;> with_reducible rfl
          try simp only [Act.put, List.setIfInBounds_toArray, List.set_cons_zero, List.set_cons_succ]
          refine takeA 45 5 (v := ?_) ?_ hHeld ?_
          rotate_left
          · intro w hSw
            try dsimp only at hSw
            go_simp <;> with_reducible rfl
          try simp only [Act.put, List.setIfInBounds_toArray, List.set_cons_zero, List.set_cons_succ]
          refine takeA 46 6 (v := ?_) ?_ hHeld ?_
          rotate_left
          · intro w hSw
            try dsimp only at hSw
            go_simp <;> with_reducible rfl
          try simp only [Act.put, List.setIfInBounds_toArray, List.set_cons_zero, List.set_cons_succ]
          refine takeA 47 7 (v := ?_) ?_ hHeld ?_
          rotate_left
          · intro w hSw
            try dsimp only at hSw
            go_simp <;> with_reducible rfl
          try simp only [Act.put, List.setIfInBounds_toArray, List.set_cons_zero, List.set_cons_succ]
          refine takeA 48 8 (v := ?_) ?_ hHeld ?_
          rotate_left
          · intro w hSw
            try dsimp only at hSw
            go_simp <;> with_reducible rfl
          try simp only [Act.put, List.setIfInBounds_toArray, List.set_cons_zero, List.set_cons_succ]
          refine takeA 49 9 (v := ?_) ?_ hHeld ?_
          rotate_left
          · intro w hSw
            try dsimp only at hSw
            go_simp <;> with_reducible rfl
          try simp only [Act.put, List.setIfInBounds_toArray, List.set_cons_zero, List.set_cons_succ]
          refine takeA 4 10 (v := ?_) ?_ hHeld ?_
          rotate_left
          · intro w hSw
            try dsimp only at hSw
            go_simp <;> with_reducible rfl
          try simp only [Act.put, List.setIfInBounds_toArray, List.set_cons_zero, List.set_cons_succ]
          refine wpAnyH_done (by kernel_rfl) ?_ _
          go_wp2_with fail
          go_ret
          refine ⟨?_, below_then HB.out HB.out.size (Below.refl _ _).drew⟩
          rw [HE.out]
          rfl
        | true =>
          go_wp2_with fail
          clear e0 e1
          refine (letter_calls _ _).mono ?_
          rintro e w3 ⟨rfl, hB2⟩
          replace HR := Aside0.mk (HR.out.after hB2)
          replace HB := Aside0.mk (below_then HB.out HB.out.size hB2)
          clear hB2
          have e0 := (blk_cell HR.out.blk 0).trans rfl
          have e1 := (blk_cell HR.out.blk 1).trans rfl
          simp at e0 e1
          cases hl : letU s[p] with
          | true =>
            have hq := HN.out
            rw [if_pos (by simp [spanP, hl])] at hq
            have HQ := Aside0.mk hq
            clear hq hg hl
            go_wp2_with fail
            go_roundw
            case rel => exact ⟨p + 1, by go_num, by omega, by omega, by have := H3.out; have := HQ.out; omega, HB.out⟩
            case measure => simp [intOf]; omega
          | false =>
            have hq := HN.out
            rw [if_neg (by simp [spanP, hg, hl])] at hq
            have HQ := Aside0.mk hq
            clear hq hg hl
            go_wp2_with fail
            have HE : Aside0 (a + spanN s a true = p) := .mk (by have := H3.out; have := HQ.out; omega)
            refine wp_region_held_drew (S := fun w' => w'.cell? ⟨g, 0, none⟩ = some (.string s) ∧ w'.cell? ⟨g, 1, none⟩ = some (.int .i64 (a : Int))) (by kernel_rfl) ⟨e0, e1⟩ (fun hHeld => ?_)
            clear e0 e1
            refine takeA 40 0 (v := ?_) ?_ hHeld ?_
            rotate_left
            · intro w hSw
              try dsimp only at hSw
              go_simp <;> with_reducible rfl
            try simp only [Act.put, List.setIfInBounds_toArray, List.set_cons_zero, List.set_cons_succ]
            refine takeA 41 1 (v := ?_) ?_ hHeld ?_
            rotate_left
            · intro w hSw
              try dsimp only at hSw
              go_simp <;> with_reducible rfl
            try simp only [Act.put, List.setIfInBounds_toArray, List.set_cons_zero, List.set_cons_succ]
            refine takeA 42 2 (v := ?_) ?_ hHeld ?_
            rotate_left
            · intro w hSw
              try dsimp only at hSw
              go_simp <;> with_reducible rfl
            try simp only [Act.put, List.setIfInBounds_toArray, List.set_cons_zero, List.set_cons_succ]
            refine takeA 43 3 (v := ?_) ?_ hHeld ?_
            rotate_left
            · intro w hSw
              try dsimp only at hSw
              go_simp <;> with_reducible rfl
            try simp only [Act.put, List.setIfInBounds_toArray, List.set_cons_zero, List.set_cons_succ]
            refine takeA 44 4 (v := ?_) ?_ hHeld ?_
            rotate_left
            · intro w hSw
              try dsimp only at hSw
              go_simp <;> with_reducible rfl
            try simp only [Act.put, List.setIfInBounds_toArray, List.set_cons_zero, List.set_cons_succ]
            refine takeA 45 5 (v := ?_) ?_ hHeld ?_
            rotate_left
            · intro w hSw
              try dsimp only at hSw
              go_simp <;> with_reducible rfl
            try simp only [Act.put, List.setIfInBounds_toArray, List.set_cons_zero, List.set_cons_succ]
            refine takeA 46 6 (v := ?_) ?_ hHeld ?_
            rotate_left
            · intro w hSw
              try dsimp only at hSw
              go_simp <;> with_reducible rfl
            try simp only [Act.put, List.setIfInBounds_toArray, List.set_cons_zero, List.set_cons_succ]
            refine takeA 47 7 (v := ?_) ?_ hHeld ?_
            rotate_left
            · intro w hSw
              try dsimp only at hSw
              go_simp <;> with_reducible rfl
            try simp only [Act.put, List.setIfInBounds_toArray, List.set_cons_zero, List.set_cons_succ]
            refine takeA 48 8 (v := ?_) ?_ hHeld ?_
            rotate_left
            · intro w hSw
              try dsimp only at hSw
              go_simp <;> with_reducible rfl
            try simp only [Act.put, List.setIfInBounds_toArray, List.set_cons_zero, List.set_cons_succ]
            refine takeA 49 9 (v := ?_) ?_ hHeld ?_
            rotate_left
            · intro w hSw
              try dsimp only at hSw
              go_simp <;> with_reducible rfl
            try simp only [Act.put, List.setIfInBounds_toArray, List.set_cons_zero, List.set_cons_succ]
            refine takeA 4 10 (v := ?_) ?_ hHeld ?_
            rotate_left
            · intro w hSw
              try dsimp only at hSw
              go_simp <;> with_reducible rfl
            try simp only [Act.put, List.setIfInBounds_toArray, List.set_cons_zero, List.set_cons_succ]
            refine wpAnyH_done (by kernel_rfl) ?_ _
            go_wp2_with fail
            go_ret
            refine ⟨?_, below_then HB.out HB.out.size (Below.refl _ _).drew⟩
            rw [HE.out]
            rfl
    · obtain rfl : p = s.size := by omega
      have HQ : Aside0 (spanN s s.size b = 0) := .mk (by
        unfold spanN
        rw [List.drop_eq_nil_of_le (by simp)]
        rfl)
      go_wp2_with fail
      have HE : Aside0 (a + spanN s a b = s.size) := .mk (by have := H3.out; have := HQ.out; omega)
      refine wp_region_held_drew (S := fun w' => w'.cell? ⟨g, 0, none⟩ = some (.string s) ∧ w'.cell? ⟨g, 1, none⟩ = some (.int .i64 (a : Int))) (by kernel_rfl) ⟨e0, e1⟩ (fun hHeld => ?_)
      clear e0 e1
      refine takeA 40 0 (v := ?_) ?_ hHeld ?_
      rotate_left
      · intro w hSw
        try dsimp only at hSw
        go_simp <;> with_reducible rfl
      try simp only [Act.put, List.setIfInBounds_toArray, List.set_cons_zero, List.set_cons_succ]
      refine takeA 41 1 (v := ?_) ?_ hHeld ?_
      rotate_left
      · intro w hSw
        try dsimp only at hSw
        go_simp <;> with_reducible rfl
      try simp only [Act.put, List.setIfInBounds_toArray, List.set_cons_zero, List.set_cons_succ]
      refine takeA 42 2 (v := ?_) ?_ hHeld ?_
      rotate_left
      · intro w hSw
        try dsimp only at hSw
        go_simp <;> with_reducible rfl
      try simp only [Act.put, List.setIfInBounds_toArray, List.set_cons_zero, List.set_cons_succ]
      refine takeA 43 3 (v := ?_) ?_ hHeld ?_
      rotate_left
      · intro w hSw
        try dsimp only at hSw
        go_simp <;> with_reducible rfl
      try simp only [Act.put, List.setIfInBounds_toArray, List.set_cons_zero, List.set_cons_succ]
      refine takeA 44 4 (v := ?_) ?_ hHeld ?_
      rotate_left
      · intro w hSw
        try dsimp only at hSw
        go_simp <;> with_reducible rfl
      try simp only [Act.put, List.setIfInBounds_toArray, List.set_cons_zero, List.set_cons_succ]
      refine takeA 45 5 (v := ?_) ?_ hHeld ?_
      rotate_left
      · intro w hSw
        try dsimp only at hSw
        go_simp <;> with_reducible rfl
      try simp only [Act.put, List.setIfInBounds_toArray, List.set_cons_zero, List.set_cons_succ]
      refine takeA 46 6 (v := ?_) ?_ hHeld ?_
      rotate_left
      · intro w hSw
        try dsimp only at hSw
        go_simp <;> with_reducible rfl
      try simp only [Act.put, List.setIfInBounds_toArray, List.set_cons_zero, List.set_cons_succ]
      refine takeA 47 7 (v := ?_) ?_ hHeld ?_
      rotate_left
      · intro w hSw
        try dsimp only at hSw
        go_simp <;> with_reducible rfl
      try simp only [Act.put, List.setIfInBounds_toArray, List.set_cons_zero, List.set_cons_succ]
      refine takeA 48 8 (v := ?_) ?_ hHeld ?_
      rotate_left
      · intro w hSw
        try dsimp only at hSw
        go_simp <;> with_reducible rfl
      try simp only [Act.put, List.setIfInBounds_toArray, List.set_cons_zero, List.set_cons_succ]
      refine takeA 49 9 (v := ?_) ?_ hHeld ?_
      rotate_left
      · intro w hSw
        try dsimp only at hSw
        go_simp <;> with_reducible rfl
      try simp only [Act.put, List.setIfInBounds_toArray, List.set_cons_zero, List.set_cons_succ]
      refine takeA 4 10 (v := ?_) ?_ hHeld ?_
      rotate_left
      · intro w hSw
        try dsimp only at hSw
        go_simp <;> with_reducible rfl
      try simp only [Act.put, List.setIfInBounds_toArray, List.set_cons_zero, List.set_cons_succ]
      refine wpAnyH_done (by kernel_rfl) ?_ _
      go_wp2_with fail
      go_ret
      refine ⟨?_, below_then HB.out HB.out.size (Below.refl _ _).drew⟩
      rw [HE.out]
      rfl
end Go.Proofs.Ytjmpejbciniceaa.X
/- The contract of scan's method number. -/
namespace Go.Proofs.Ytjmpejbciniceaa.X
open Go.RowKit Go.Proofs.YtjmpejbciniceaaW.PrintWords Go.Proofs.YtjmpejbciniceaaW.PrintLast Go.Proofs.YtjmpejbciniceaaW.PrintMore
set_option linter.unusedVariables false
set_option linter.unusedSimpArgs false

def bytesS (l : List UInt8) : ByteArray := ⟨l.toArray⟩
def WordPost (w0 : World) (g : Nat) (s : ByteArray) (a : Nat) (ws : List S29) (w : World) : SRes → Ending → World → Prop
  | .fault e t => FaultPost w e a (bytesS t)
  | .word k t n => PutPost w0 g s (a + t.length) (ws ++ [⟨k, bytesS t, (n : Int), a⟩])
def numS (t : ByteArray) (more : Bool) : SRes :=
  match numR t.data.toList 0 with
  | none => .fault 3 t.data.toList
  | some n => if (1 < t.data.toList.length ∧ t.data.toList.head? = some 48) ∨ more = true then .fault 10 t.data.toList else .word 2 t.data.toList n
theorem bytes_of (t : ByteArray) : bytesS t.data.toList = t := by
  simp [bytesS]
def bound63 : Int := 9223372036854775807
def numOver (n d : Int) : Bool := decide ((9223372036854775807 - d) / 10 < n)
theorem FaultPost.lift {w wr : World} {e a : Int} {s : ByteArray} {en : Ending} {w' : World} (hb : Below w.heap.size w wr) (h : FaultPost wr e a s en w') : FaultPost w e a s en w' := by
  obtain ⟨p, h1, h2, h3, h4⟩ := h
  exact ⟨p, h1, h2, Nat.le_trans hb.size h3, below_then hb hb.size h4⟩
set_option maxRecDepth 100000 in
set_option maxHeartbeats 1600000 in
theorem number_calls {w0 : World} {g : Nat} {s : ByteArray} {a : Nat} {v : Value} {ws : List S29} {w : World} (h : Rd w0 g s a v ws w) (t : ByteArray) (hd : ∀ c ∈ t.data.toList, digU c = true) (ht : 1 ≤ t.size) (hat : a + t.size ≤ s.size) (hs : s.size ≤ 65536) (hl : ws.length ≤ 100000) :
    Calls Try.prog 38 #[.pointer (some ⟨g, 0, none⟩), .string t] w (WordPost w0 g s a ws w (numS t (headLet (s.data.toList.drop (a + t.size))))) := by
  have HR := Aside0.mk h
  have HD := Aside0.mk hd
  have hcv := fun W : World => Lib.run_convert_string_bytes (P := Try.prog) W 9 56 5 t Try.underlying9 Try.underlying56 Try.underlying5
  clear h hd
  go_enter Try.func38, Try.ntmps38
  go_wp2_with fail
  have hcell : ∀ j, j < t.size → (Lib.bytesWorld w 5 t).cell? ⟨w.heap.size, j, none⟩ = some (.int .u8 ((t.data.toList.getD j 0).toNat : Int)) := fun j hj => Lib.bytesWorld_cell w 5 t j hj
  have hB3 : Below w.heap.size w (Lib.bytesWorld w 5 t) := ⟨rfl, rfl, rfl, by rw [Lib.bytesWorld_size]; omega, fun k hk => Lib.bytesWorld_at_old w 5 t k hk⟩
  have hs3 : w.heap.size < (Lib.bytesWorld w 5 t).heap.size := by rw [Lib.bytesWorld_size]; omega
  clear hcv
  generalize Lib.bytesWorld w 5 t = W3 at *
  have HC := Aside0.mk hcell
  have HB3 := Aside0.mk hB3
  have hl : t.data.toList.length = t.size := by simp
  have HL := Aside0.mk hl
  clear hcell hB3 hl
  go_loopw [5, 13] (fun n i wr => ∃ (j m : Nat), i = .int .i64 j ∧ n = .int .u64 m ∧ j ≤ t.size ∧ m ≤ 9223372036854775807 ∧ numR (t.data.toList.drop j) m = numR t.data.toList 0 ∧ Below W3.heap.size W3 wr) (fun _ i _ => t.size - (intOf i).toNat)
  case atStart => exact ⟨0, 0, rfl, rfl, Nat.zero_le _, Nat.zero_le _, rfl, Below.refl _ _⟩
  case round =>
    obtain ⟨j, m, rfl, rfl, hj, hm, hnum, hB⟩ := hrel
    have HB := Aside0.mk hB
    have HN := Aside0.mk hnum
    clear hB hnum
    by_cases hlt : j < t.size
    · have hx : wr.cell? ⟨w.heap.size, j, none⟩ = some (.int .u8 ((t.data.toList.getD j 0).toNat : Int)) := (HB.out.cell hs3).trans (HC.out j hlt)
      have hn : ((t.data.toList.getD j 0).toNat : Int) = ((t.data.toList[j]'(by rw [HL.out]; exact hlt)).toNat : Int) := by rw [List.getD_eq_getElem?_getD, List.getElem?_eq_getElem]; rfl
      have HT := Aside0.mk (show t.data.toList.drop j = t.data.toList[j]'(by rw [HL.out]; exact hlt) :: t.data.toList.drop (j + 1) from List.drop_eq_getElem_cons (by rw [HL.out]; exact hlt))
      have hdx := HD.out (t.data.toList[j]'(by rw [HL.out]; exact hlt)) (List.getElem_mem _)
      rw [hn] at hx
      generalize t.data.toList[j]'(by rw [HL.out]; exact hlt) = x at *
      have hb : 48 ≤ x.toNat ∧ x.toNat ≤ 57 := by
        unfold digU at hdx
        simp only [Bool.and_eq_true, decide_eq_true_eq, UInt8.le_iff_toNat_le] at hdx
        exact hdx
      obtain ⟨d, hxd, hd9⟩ : ∃ d : Nat, x.toNat = d + 48 ∧ d ≤ 9 := ⟨x.toNat - 48, by omega, by omega⟩
      have HN2 := Aside0.mk (show numR t.data.toList 0 = if (9223372036854775807 - d) / 10 < m then none else numR (t.data.toList.drop (j + 1)) (m * 10 + d) from by
        rw [← HN.out, HT.out, numR, hxd, Nat.add_sub_cancel])
      rw [hxd] at hx
      clear hn hdx hb HN HT hxd
      by_cases hov : (9223372036854775807 - d) / 10 < m
      · go_wp2_with fail
        refine (fault_calls (HR.out.after (below_then HB3.out HB3.out.size HB.out)) 3 t).mono ?_
        intro e w5 hp
        have HV := Aside0.mk (show numR t.data.toList 0 = none from by rw [HN2.out, if_pos hov])
        obtain ⟨p, rfl, hq⟩ := hp.lift (below_then HB3.out HB3.out.size HB.out)
        have HQ := Aside0.mk hq
        clear hp hq hx HN2 hov
        go_wp2_with fail
        go_ret
        unfold numS
        rw [HV.out]
        show FaultPost w 3 a (bytesS t.data.toList) _ _
        rw [bytes_of]
        exact ⟨p, rfl, HQ.out⟩
      · have HN3 := Aside0.mk (show numR (t.data.toList.drop (j + 1)) (m * 10 + d) = numR t.data.toList 0 from by rw [HN2.out, if_neg hov])
        have hov2 : m ≤ (9223372036854775807 - d) / 10 := by omega
        have hov3 : ¬ (9223372036854775807 - (d : Int)) / 10 < (m : Int) := by omega
        clear HN2 hov
        go_wp2_with fail
        go_roundw
        case rel => exact ⟨j + 1, m * 10 + d, by go_num, by go_num, by omega, by omega, HN3.out, HB.out⟩
        case measure => simp [intOf]; omega
    · obtain rfl : j = t.size := by omega
      have HV := Aside0.mk (show numR t.data.toList 0 = some m from by rw [← HN.out, List.drop_eq_nil_of_le (by rw [HL.out]; exact Nat.le_refl _)]; rfl)
      have HBW := Aside0.mk (below_then HB3.out HB3.out.size HB.out)
      replace HR := Aside0.mk (HR.out.after HBW.out)
      have h00 : 0 < t.size := by omega
      have hhd : t.data.toList.head? = some (t[0]'h00) := by
        have := drop_at t 0 h00
        rw [List.drop_zero] at this
        rw [this]
        rfl
      have HHD := Aside0.mk hhd
      have HLL := HL
      have e0 := (blk_cell HR.out.blk 0).trans rfl
      have e1 := (blk_cell HR.out.blk 1).trans rfl
      simp at e0 e1
      clear hhd HN HB hs3 HC HB3 hlt
      by_cases c1 : 1 < t.size ∧ t[0]'h00 = 48
      · obtain ⟨c2, c3⟩ := c1
        have d48 : ((((t[0]'h00).toNat : Nat) : Int) == 48) = true := by rw [c3]; rfl
        have HE : Aside0 (numS t (headLet (s.data.toList.drop (a + t.size))) = .fault 10 t.data.toList) := .mk (by
          unfold numS
          rw [HV.out]
          simp only
          rw [if_pos (.inl ⟨by rw [HLL.out]; exact c2, by rw [HHD.out, c3]⟩)])
        clear c3
        go_wp2_with fail
        clear e0 e1
        refine (fault_calls HR.out 10 t).mono ?_
        intro e w5 hp
        obtain ⟨p, rfl, hq⟩ := hp.lift HBW.out
        have HQ := Aside0.mk hq
        clear hp hq
        go_wp2_with fail
        go_ret
        rw [HE.out]
        show FaultPost w 10 a (bytesS t.data.toList) _ _
        rw [bytes_of]
        exact ⟨p, rfl, HQ.out⟩
      · have hz : ¬ (1 < t.data.toList.length ∧ t.data.toList.head? = some 48) := by
          rw [HLL.out, HHD.out]
          intro h
          exact c1 ⟨h.1, by have := h.2; simpa using this⟩
        have HZ := Aside0.mk hz
        have hd48 : ¬ 1 < t.size ∨ ((((t[0]'h00).toNat : Nat) : Int) == 48) = false := by
          by_cases c2 : 1 < t.size
          · right
            have : t[0]'h00 ≠ 48 := fun e => c1 ⟨c2, e⟩
            rw [beq_eq_false_iff_ne]
            intro e
            apply this
            rw [← UInt8.toNat_inj]
            show (t[0]'h00).toNat = 48
            omega
          · exact .inl c2
        clear c1 hz
        by_cases he : a + t.size < s.size
        · have HLT := Aside0.mk (show headLet (s.data.toList.drop (a + t.size)) = letU (s[a + t.size]'he) from by rw [drop_at s _ he]; rfl)
          rcases hd48 with c2 | d48
          · go_wp2_with fail
            clear e0 e1
            refine (letter_calls _ _).mono ?_
            rintro e w4 ⟨rfl, hB4⟩
            replace HR := Aside0.mk (HR.out.after hB4)
            replace HBW := Aside0.mk (below_then HBW.out HBW.out.size hB4)
            clear hB4
            have e0 := trivial
            have e1 := trivial
            cases hle : letU (s[a + t.size]'he) with
            | true =>
              rw [hle] at HLT
              have HE : Aside0 (numS t (headLet (s.data.toList.drop (a + t.size))) = .fault 10 t.data.toList) := .mk (by
                unfold numS
                rw [HV.out]
                simp only
                rw [if_pos (.inr HLT.out)])
              clear hle
              go_wp2_with fail
              clear e0 e1
              refine (fault_calls HR.out 10 t).mono ?_
              intro e w5 hp
              obtain ⟨p, rfl, hq⟩ := hp.lift HBW.out
              have HQ := Aside0.mk hq
              clear hp hq
              go_wp2_with fail
              go_ret
              rw [HE.out]
              show FaultPost w 10 a (bytesS t.data.toList) _ _
              rw [bytes_of]
              exact ⟨p, rfl, HQ.out⟩
            | false =>
              rw [hle] at HLT
              clear hle
              go_wp2_with fail
              clear e0 e1
              have HE : Aside0 (numS t (headLet (s.data.toList.drop (a + t.size))) = .word 2 t.data.toList m) := .mk (by
                unfold numS
                rw [HV.out]
                simp only
                rw [if_neg]
                intro h
                rcases h with h | h
                · exact HZ.out h
                · rw [HLT.out] at h; exact absurd h (by decide))
              refine (put_calls HR.out 2 t m hl (by omega) (by omega)).mono ?_
              rintro e w5 ⟨rfl, v5, hv⟩
              have HVV := Aside0.mk hv
              clear hv
              go_wp2_with fail
              go_ret
              rw [HE.out]
              show PutPost w0 g s (a + t.data.toList.length) (ws ++ [⟨2, bytesS t.data.toList, (m : Int), a⟩]) _ _
              rw [bytes_of, HLL.out]
              exact ⟨rfl, v5, HVV.out⟩
          · by_cases c2 : 1 < t.size
            · go_wp2_with fail
              clear e0 e1
              refine (letter_calls _ _).mono ?_
              rintro e w4 ⟨rfl, hB4⟩
              replace HR := Aside0.mk (HR.out.after hB4)
              replace HBW := Aside0.mk (below_then HBW.out HBW.out.size hB4)
              clear hB4
              have e0 := trivial
              have e1 := trivial
              cases hle : letU (s[a + t.size]'he) with
              | true =>
                rw [hle] at HLT
                have HE : Aside0 (numS t (headLet (s.data.toList.drop (a + t.size))) = .fault 10 t.data.toList) := .mk (by
                  unfold numS
                  rw [HV.out]
                  simp only
                  rw [if_pos (.inr HLT.out)])
                clear hle
                go_wp2_with fail
                clear e0 e1
                refine (fault_calls HR.out 10 t).mono ?_
                intro e w5 hp
                obtain ⟨p, rfl, hq⟩ := hp.lift HBW.out
                have HQ := Aside0.mk hq
                clear hp hq
                go_wp2_with fail
                go_ret
                rw [HE.out]
                show FaultPost w 10 a (bytesS t.data.toList) _ _
                rw [bytes_of]
                exact ⟨p, rfl, HQ.out⟩
              | false =>
                rw [hle] at HLT
                clear hle
                go_wp2_with fail
                clear e0 e1
                have HE : Aside0 (numS t (headLet (s.data.toList.drop (a + t.size))) = .word 2 t.data.toList m) := .mk (by
                  unfold numS
                  rw [HV.out]
                  simp only
                  rw [if_neg]
                  intro h
                  rcases h with h | h
                  · exact HZ.out h
                  · rw [HLT.out] at h; exact absurd h (by decide))
                refine (put_calls HR.out 2 t m hl (by omega) (by omega)).mono ?_
                rintro e w5 ⟨rfl, v5, hv⟩
                have HVV := Aside0.mk hv
                clear hv
                go_wp2_with fail
                go_ret
                rw [HE.out]
                show PutPost w0 g s (a + t.data.toList.length) (ws ++ [⟨2, bytesS t.data.toList, (m : Int), a⟩]) _ _
                rw [bytes_of, HLL.out]
                exact ⟨rfl, v5, HVV.out⟩
            · clear d48
              go_wp2_with fail
              clear e0 e1
              refine (letter_calls _ _).mono ?_
              rintro e w4 ⟨rfl, hB4⟩
              replace HR := Aside0.mk (HR.out.after hB4)
              replace HBW := Aside0.mk (below_then HBW.out HBW.out.size hB4)
              clear hB4
              have e0 := trivial
              have e1 := trivial
              cases hle : letU (s[a + t.size]'he) with
              | true =>
                rw [hle] at HLT
                have HE : Aside0 (numS t (headLet (s.data.toList.drop (a + t.size))) = .fault 10 t.data.toList) := .mk (by
                  unfold numS
                  rw [HV.out]
                  simp only
                  rw [if_pos (.inr HLT.out)])
                clear hle
                go_wp2_with fail
                clear e0 e1
                refine (fault_calls HR.out 10 t).mono ?_
                intro e w5 hp
                obtain ⟨p, rfl, hq⟩ := hp.lift HBW.out
                have HQ := Aside0.mk hq
                clear hp hq
                go_wp2_with fail
                go_ret
                rw [HE.out]
                show FaultPost w 10 a (bytesS t.data.toList) _ _
                rw [bytes_of]
                exact ⟨p, rfl, HQ.out⟩
              | false =>
                rw [hle] at HLT
                clear hle
                go_wp2_with fail
                clear e0 e1
                have HE : Aside0 (numS t (headLet (s.data.toList.drop (a + t.size))) = .word 2 t.data.toList m) := .mk (by
                  unfold numS
                  rw [HV.out]
                  simp only
                  rw [if_neg]
                  intro h
                  rcases h with h | h
                  · exact HZ.out h
                  · rw [HLT.out] at h; exact absurd h (by decide))
                refine (put_calls HR.out 2 t m hl (by omega) (by omega)).mono ?_
                rintro e w5 ⟨rfl, v5, hv⟩
                have HVV := Aside0.mk hv
                clear hv
                go_wp2_with fail
                go_ret
                rw [HE.out]
                show PutPost w0 g s (a + t.data.toList.length) (ws ++ [⟨2, bytesS t.data.toList, (m : Int), a⟩]) _ _
                rw [bytes_of, HLL.out]
                exact ⟨rfl, v5, HVV.out⟩
        · have HLT := Aside0.mk (show headLet (s.data.toList.drop (a + t.size)) = false from by rw [List.drop_eq_nil_of_le (by simp; omega)]; rfl)
          rcases hd48 with c2 | d48
          · go_wp2_with fail
            clear e0 e1
            have HE : Aside0 (numS t (headLet (s.data.toList.drop (a + t.size))) = .word 2 t.data.toList m) := .mk (by
              unfold numS
              rw [HV.out]
              simp only
              rw [if_neg]
              intro h
              rcases h with h | h
              · exact HZ.out h
              · rw [HLT.out] at h; exact absurd h (by decide))
            refine (put_calls HR.out 2 t m hl (by omega) (by omega)).mono ?_
            rintro e w5 ⟨rfl, v5, hv⟩
            have HVV := Aside0.mk hv
            clear hv
            go_wp2_with fail
            go_ret
            rw [HE.out]
            show PutPost w0 g s (a + t.data.toList.length) (ws ++ [⟨2, bytesS t.data.toList, (m : Int), a⟩]) _ _
            rw [bytes_of, HLL.out]
            exact ⟨rfl, v5, HVV.out⟩
          · by_cases c2 : 1 < t.size
            · go_wp2_with fail
              clear e0 e1
              have HE : Aside0 (numS t (headLet (s.data.toList.drop (a + t.size))) = .word 2 t.data.toList m) := .mk (by
                unfold numS
                rw [HV.out]
                simp only
                rw [if_neg]
                intro h
                rcases h with h | h
                · exact HZ.out h
                · rw [HLT.out] at h; exact absurd h (by decide))
              refine (put_calls HR.out 2 t m hl (by omega) (by omega)).mono ?_
              rintro e w5 ⟨rfl, v5, hv⟩
              have HVV := Aside0.mk hv
              clear hv
              go_wp2_with fail
              go_ret
              rw [HE.out]
              show PutPost w0 g s (a + t.data.toList.length) (ws ++ [⟨2, bytesS t.data.toList, (m : Int), a⟩]) _ _
              rw [bytes_of, HLL.out]
              exact ⟨rfl, v5, HVV.out⟩
            · clear d48
              go_wp2_with fail
              clear e0 e1
              have HE : Aside0 (numS t (headLet (s.data.toList.drop (a + t.size))) = .word 2 t.data.toList m) := .mk (by
                unfold numS
                rw [HV.out]
                simp only
                rw [if_neg]
                intro h
                rcases h with h | h
                · exact HZ.out h
                · rw [HLT.out] at h; exact absurd h (by decide))
              refine (put_calls HR.out 2 t m hl (by omega) (by omega)).mono ?_
              rintro e w5 ⟨rfl, v5, hv⟩
              have HVV := Aside0.mk hv
              clear hv
              go_wp2_with fail
              go_ret
              rw [HE.out]
              show PutPost w0 g s (a + t.data.toList.length) (ws ++ [⟨2, bytesS t.data.toList, (m : Int), a⟩]) _ _
              rw [bytes_of, HLL.out]
              exact ⟨rfl, v5, HVV.out⟩
end Go.Proofs.Ytjmpejbciniceaa.X
