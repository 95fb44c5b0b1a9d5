/- The contract of the reference's word: signs and the rest. -/
import Derived.Test.YtjmpejbciniceaaDoorHRefWord
namespace Go.Proofs.YtjmpejbciniceaaDoor.X
open Go.RowKit Go.Proofs.YtjmpejbciniceaaDoorW.PrintWords Go.Proofs.YtjmpejbciniceaaDoorW.PrintLast Go.Proofs.YtjmpejbciniceaaDoorW.PrintMore
set_option linter.unusedVariables false
set_option linter.unusedSimpArgs false

set_option maxRecDepth 100000 in
set_option maxHeartbeats 3200000 in
theorem rw_arrow {s : ByteArray} {a : Nat} {w : World} (ha : a < s.size) (hs : s.size ≤ 65536) (HL : Aside0 (letU (s[a]'ha) = false)) (HD : Aside0 (digU (s[a]'ha) = false)) (h45 : s[a]'ha = 45) (hn : a + 1 < s.size) (h62 : s[a + 1]'hn = 62) (r : W8) (HE : Aside0 (r = (4, ⟨#[45, 62]⟩, 0, (a : Int), (a : Int) + 2, 0, 0, ⟨#[]⟩))) :
    Calls Tryd.prog 28 #[.string s, .int .i64 (a : Int)] w (WPost8 r w) := by
  have q1 : (((s[a]'ha).toNat : Int) == 45) = true := by rw [h45]; rfl
  have q2 : (((s[a + 1]'hn).toNat : Int) == 62) = true := by rw [h62]; rfl
  clear h45 h62
  have hB0 := rbelow2 w #[.int .i8 0, .string ⟨#[]⟩, .int .i64 0, .int .i64 0] #[.int .i64 0, .int .i64 0, .string ⟨#[]⟩] 37 29
  have HB := Aside0.mk hB0
  have K0 := Aside0.mk (blk_alloc (heap_alloc_new w (.cells #[.int .i8 0, .string ⟨#[]⟩, .int .i64 0, .int .i64 0] 37)) (.cells #[.int .i64 0, .int .i64 0, .string ⟨#[]⟩] 29))
  have K1 := Aside0.mk (rnew2 w (.cells #[.int .i8 0, .string ⟨#[]⟩, .int .i64 0, .int .i64 0] 37) #[.int .i64 0, .int .i64 0, .string ⟨#[]⟩] 29)
  clear hB0
  go_enter Tryd.func28, Tryd.ntmps28
  go_wp2_with fail
  generalize (w.alloc (.cells #[.int .i8 0, .string ⟨#[]⟩, .int .i64 0, .int .i64 0] 37)).alloc (.cells #[.int .i64 0, .int .i64 0, .string ⟨#[]⟩] 29) = wa at *
  refine (rletter_calls (s[a]'ha) rfl _).mono ?_
  rw [HL.out]
  rintro e w1 ⟨rfl, hB⟩
  replace K0 := Aside0.mk (blk_below K0.out hB)
  replace K1 := Aside0.mk (blk_below K1.out hB)
  replace HB := Aside0.mk (below_then HB.out HB.out.size hB)
  clear hB
  go_wp2_with fail
  refine (rdigit_calls (s[a]'ha) rfl _).mono ?_
  rw [HD.out]
  rintro e w2 ⟨rfl, hB⟩
  replace K0 := Aside0.mk (blk_below K0.out hB)
  replace K1 := Aside0.mk (blk_below K1.out hB)
  replace HB := Aside0.mk (below_then HB.out HB.out.size hB)
  clear hB
  have c0 := (blk_cell K0.out 0).trans rfl
  have c1 := (blk_cell K0.out 1).trans rfl
  have c2 := (blk_cell K0.out 2).trans rfl
  have c3 := (blk_cell K0.out 3).trans rfl
  have d0 := (blk_cell K1.out 0).trans rfl
  have d1 := (blk_cell K1.out 1).trans rfl
  have d2 := (blk_cell K1.out 2).trans rfl
  have y0 := blk_frozen K0.out 0
  have y1 := blk_frozen K0.out 1
  have y2 := blk_frozen K0.out 2
  have y3 := blk_frozen K0.out 3
  have z0 := blk_frozen K1.out 0
  have z1 := blk_frozen K1.out 1
  have z2 := blk_frozen K1.out 2
  simp at c0 c1 c2 c3 d0 d1 d2
  go_wp2_with fail
  refine bodyPost_ret (results_list (rs := [.cell 4 37, .tmp 5, .cell 6 29]) rfl (by simp) (.cell w.heap.size 37 _ (0, 0) _ rfl (put_three_far (put_four K0.out _ _ _ _) (by omega) _ _ _) Tryd.underlying37 rfl (by kernel_rfl) (.tmp (.cell (w.heap.size + 1) 29 _ (0, 0) _ rfl (put_three (put_four_far K1.out (by omega) _ _ _ _) _ _ _) Tryd.underlying29 rfl (by kernel_rfl) .nil)))) rfl ?_
  rw [HE.out]
  exact ⟨rfl, ((((((HB.out.setCell (Nat.le_refl _) _).setCell (Nat.le_refl _) _).setCell (Nat.le_refl _) _).setCell (Nat.le_refl _) _).setCell (by show _ ≤ w.heap.size + 1; omega) _).setCell (by show _ ≤ w.heap.size + 1; omega) _).setCell (by show _ ≤ w.heap.size + 1; omega) _⟩
set_option maxRecDepth 100000 in
set_option maxHeartbeats 3200000 in
theorem rw_sign {s : ByteArray} {a : Nat} {w : World} (ha : a < s.size) (hs : s.size ≤ 65536) (HL : Aside0 (letU (s[a]'ha) = false)) (HD : Aside0 (digU (s[a]'ha) = false)) (hno : (s[a]'ha ≠ 45) ∨ (s[a]'ha = 45 ∧ s.size ≤ a + 1) ∨ (s[a]'ha = 45 ∧ ∃ hn : a + 1 < s.size, s[a + 1]'hn ≠ 62)) (HS : Aside0 (signU (s[a]'ha) = true)) (r : W8) (HE0 : Aside0 (r = wordT a (.word 4 [s[a]'ha] 0))) :
    Calls Tryd.prog 28 #[.string s, .int .i64 (a : Int)] w (WPost8 r w) := by
  have hone := one_text s a (a + 1) rfl ha
  have HE : Aside0 (r = (4, s.extract a (a + 1), 0, (a : Int), (a : Int) + 1, 0, 0, ⟨#[]⟩)) := .mk (by rw [HE0.out, hone]; rfl)
  clear hone
  have hsl : ∀ wx, (Instr.slice 9 (.string s) (some (.int .i64 (a : Int))) (some (.int .i64 ((a : Int) + 1))) none).run Tryd.prog wx = .ok (.string (s.extract a (a + 1))) wx := fun wx => (run_slice_string (P := Tryd.prog) wx 9 s .i64 .i64 (a : Int) ((a : Int) + 1) Tryd.underlying9 (by omega) (by omega) (by omega)).trans rfl
  rcases hno with h45 | ⟨h45, hn⟩ | ⟨h45, hn, h62⟩
  · have q1 : (((s[a]'ha).toNat : Int) == 45) = false := by rw [beq_eq_false_iff_ne]; exact fun e => h45 ((u8_is _ 45).1 e)
    clear h45
    have hB0 := rbelow2 w #[.int .i8 0, .string ⟨#[]⟩, .int .i64 0, .int .i64 0] #[.int .i64 0, .int .i64 0, .string ⟨#[]⟩] 37 29
    have HB := Aside0.mk hB0
    have K0 := Aside0.mk (blk_alloc (heap_alloc_new w (.cells #[.int .i8 0, .string ⟨#[]⟩, .int .i64 0, .int .i64 0] 37)) (.cells #[.int .i64 0, .int .i64 0, .string ⟨#[]⟩] 29))
    have K1 := Aside0.mk (rnew2 w (.cells #[.int .i8 0, .string ⟨#[]⟩, .int .i64 0, .int .i64 0] 37) #[.int .i64 0, .int .i64 0, .string ⟨#[]⟩] 29)
    clear hB0
    go_enter Tryd.func28, Tryd.ntmps28
    go_wp2_with fail
    generalize (w.alloc (.cells #[.int .i8 0, .string ⟨#[]⟩, .int .i64 0, .int .i64 0] 37)).alloc (.cells #[.int .i64 0, .int .i64 0, .string ⟨#[]⟩] 29) = wa at *
    refine (rletter_calls (s[a]'ha) rfl _).mono ?_
    rw [HL.out]
    rintro e w1 ⟨rfl, hB⟩
    replace K0 := Aside0.mk (blk_below K0.out hB)
    replace K1 := Aside0.mk (blk_below K1.out hB)
    replace HB := Aside0.mk (below_then HB.out HB.out.size hB)
    clear hB
    go_wp2_with fail
    refine (rdigit_calls (s[a]'ha) rfl _).mono ?_
    rw [HD.out]
    rintro e w2 ⟨rfl, hB⟩
    replace K0 := Aside0.mk (blk_below K0.out hB)
    replace K1 := Aside0.mk (blk_below K1.out hB)
    replace HB := Aside0.mk (below_then HB.out HB.out.size hB)
    clear hB
    go_wp2_with fail
    refine (rsign_calls (s[a]'ha) rfl _).mono ?_
    rw [HS.out]
    rintro e w3 ⟨rfl, hB⟩
    replace K0 := Aside0.mk (blk_below K0.out hB)
    replace K1 := Aside0.mk (blk_below K1.out hB)
    replace HB := Aside0.mk (below_then HB.out HB.out.size hB)
    clear hB
    have c0 := (blk_cell K0.out 0).trans rfl
    have c1 := (blk_cell K0.out 1).trans rfl
    have c2 := (blk_cell K0.out 2).trans rfl
    have c3 := (blk_cell K0.out 3).trans rfl
    have d0 := (blk_cell K1.out 0).trans rfl
    have d1 := (blk_cell K1.out 1).trans rfl
    have d2 := (blk_cell K1.out 2).trans rfl
    have y0 := blk_frozen K0.out 0
    have y1 := blk_frozen K0.out 1
    have y2 := blk_frozen K0.out 2
    have y3 := blk_frozen K0.out 3
    have z0 := blk_frozen K1.out 0
    have z1 := blk_frozen K1.out 1
    have z2 := blk_frozen K1.out 2
    simp at c0 c1 c2 c3 d0 d1 d2
    go_wp2_with fail
    refine bodyPost_ret (results_list (rs := [.cell 4 37, .tmp 5, .cell 6 29]) rfl (by simp) (.cell w.heap.size 37 _ (0, 0) _ rfl (put_three_far (put_four K0.out _ _ _ _) (by omega) _ _ _) Tryd.underlying37 rfl (by kernel_rfl) (.tmp (.cell (w.heap.size + 1) 29 _ (0, 0) _ rfl (put_three (put_four_far K1.out (by omega) _ _ _ _) _ _ _) Tryd.underlying29 rfl (by kernel_rfl) .nil)))) rfl ?_
    rw [HE.out]
    exact ⟨rfl, ((((((HB.out.setCell (Nat.le_refl _) _).setCell (Nat.le_refl _) _).setCell (Nat.le_refl _) _).setCell (Nat.le_refl _) _).setCell (by show _ ≤ w.heap.size + 1; omega) _).setCell (by show _ ≤ w.heap.size + 1; omega) _).setCell (by show _ ≤ w.heap.size + 1; omega) _⟩
  · have q1 : (((s[a]'ha).toNat : Int) == 45) = true := by rw [h45]; rfl
    have q2 : ¬ (a : Int) + 1 < (s.size : Int) := by omega
    clear h45
    have hB0 := rbelow2 w #[.int .i8 0, .string ⟨#[]⟩, .int .i64 0, .int .i64 0] #[.int .i64 0, .int .i64 0, .string ⟨#[]⟩] 37 29
    have HB := Aside0.mk hB0
    have K0 := Aside0.mk (blk_alloc (heap_alloc_new w (.cells #[.int .i8 0, .string ⟨#[]⟩, .int .i64 0, .int .i64 0] 37)) (.cells #[.int .i64 0, .int .i64 0, .string ⟨#[]⟩] 29))
    have K1 := Aside0.mk (rnew2 w (.cells #[.int .i8 0, .string ⟨#[]⟩, .int .i64 0, .int .i64 0] 37) #[.int .i64 0, .int .i64 0, .string ⟨#[]⟩] 29)
    clear hB0
    go_enter Tryd.func28, Tryd.ntmps28
    go_wp2_with fail
    generalize (w.alloc (.cells #[.int .i8 0, .string ⟨#[]⟩, .int .i64 0, .int .i64 0] 37)).alloc (.cells #[.int .i64 0, .int .i64 0, .string ⟨#[]⟩] 29) = wa at *
    refine (rletter_calls (s[a]'ha) rfl _).mono ?_
    rw [HL.out]
    rintro e w1 ⟨rfl, hB⟩
    replace K0 := Aside0.mk (blk_below K0.out hB)
    replace K1 := Aside0.mk (blk_below K1.out hB)
    replace HB := Aside0.mk (below_then HB.out HB.out.size hB)
    clear hB
    go_wp2_with fail
    refine (rdigit_calls (s[a]'ha) rfl _).mono ?_
    rw [HD.out]
    rintro e w2 ⟨rfl, hB⟩
    replace K0 := Aside0.mk (blk_below K0.out hB)
    replace K1 := Aside0.mk (blk_below K1.out hB)
    replace HB := Aside0.mk (below_then HB.out HB.out.size hB)
    clear hB
    go_wp2_with fail
    refine (rsign_calls (s[a]'ha) rfl _).mono ?_
    rw [HS.out]
    rintro e w3 ⟨rfl, hB⟩
    replace K0 := Aside0.mk (blk_below K0.out hB)
    replace K1 := Aside0.mk (blk_below K1.out hB)
    replace HB := Aside0.mk (below_then HB.out HB.out.size hB)
    clear hB
    have c0 := (blk_cell K0.out 0).trans rfl
    have c1 := (blk_cell K0.out 1).trans rfl
    have c2 := (blk_cell K0.out 2).trans rfl
    have c3 := (blk_cell K0.out 3).trans rfl
    have d0 := (blk_cell K1.out 0).trans rfl
    have d1 := (blk_cell K1.out 1).trans rfl
    have d2 := (blk_cell K1.out 2).trans rfl
    have y0 := blk_frozen K0.out 0
    have y1 := blk_frozen K0.out 1
    have y2 := blk_frozen K0.out 2
    have y3 := blk_frozen K0.out 3
    have z0 := blk_frozen K1.out 0
    have z1 := blk_frozen K1.out 1
    have z2 := blk_frozen K1.out 2
    simp at c0 c1 c2 c3 d0 d1 d2
    go_wp2_with fail
    refine bodyPost_ret (results_list (rs := [.cell 4 37, .tmp 5, .cell 6 29]) rfl (by simp) (.cell w.heap.size 37 _ (0, 0) _ rfl (put_three_far (put_four K0.out _ _ _ _) (by omega) _ _ _) Tryd.underlying37 rfl (by kernel_rfl) (.tmp (.cell (w.heap.size + 1) 29 _ (0, 0) _ rfl (put_three (put_four_far K1.out (by omega) _ _ _ _) _ _ _) Tryd.underlying29 rfl (by kernel_rfl) .nil)))) rfl ?_
    rw [HE.out]
    exact ⟨rfl, ((((((HB.out.setCell (Nat.le_refl _) _).setCell (Nat.le_refl _) _).setCell (Nat.le_refl _) _).setCell (Nat.le_refl _) _).setCell (by show _ ≤ w.heap.size + 1; omega) _).setCell (by show _ ≤ w.heap.size + 1; omega) _).setCell (by show _ ≤ w.heap.size + 1; omega) _⟩
  · have q1 : (((s[a]'ha).toNat : Int) == 45) = true := by rw [h45]; rfl
    have q2 : (((s[a + 1]'hn).toNat : Int) == 62) = false := by rw [beq_eq_false_iff_ne]; exact fun e => h62 ((u8_is _ 62).1 e)
    clear h45 h62
    have hB0 := rbelow2 w #[.int .i8 0, .string ⟨#[]⟩, .int .i64 0, .int .i64 0] #[.int .i64 0, .int .i64 0, .string ⟨#[]⟩] 37 29
    have HB := Aside0.mk hB0
    have K0 := Aside0.mk (blk_alloc (heap_alloc_new w (.cells #[.int .i8 0, .string ⟨#[]⟩, .int .i64 0, .int .i64 0] 37)) (.cells #[.int .i64 0, .int .i64 0, .string ⟨#[]⟩] 29))
    have K1 := Aside0.mk (rnew2 w (.cells #[.int .i8 0, .string ⟨#[]⟩, .int .i64 0, .int .i64 0] 37) #[.int .i64 0, .int .i64 0, .string ⟨#[]⟩] 29)
    clear hB0
    go_enter Tryd.func28, Tryd.ntmps28
    go_wp2_with fail
    generalize (w.alloc (.cells #[.int .i8 0, .string ⟨#[]⟩, .int .i64 0, .int .i64 0] 37)).alloc (.cells #[.int .i64 0, .int .i64 0, .string ⟨#[]⟩] 29) = wa at *
    refine (rletter_calls (s[a]'ha) rfl _).mono ?_
    rw [HL.out]
    rintro e w1 ⟨rfl, hB⟩
    replace K0 := Aside0.mk (blk_below K0.out hB)
    replace K1 := Aside0.mk (blk_below K1.out hB)
    replace HB := Aside0.mk (below_then HB.out HB.out.size hB)
    clear hB
    go_wp2_with fail
    refine (rdigit_calls (s[a]'ha) rfl _).mono ?_
    rw [HD.out]
    rintro e w2 ⟨rfl, hB⟩
    replace K0 := Aside0.mk (blk_below K0.out hB)
    replace K1 := Aside0.mk (blk_below K1.out hB)
    replace HB := Aside0.mk (below_then HB.out HB.out.size hB)
    clear hB
    go_wp2_with fail
    refine (rsign_calls (s[a]'ha) rfl _).mono ?_
    rw [HS.out]
    rintro e w3 ⟨rfl, hB⟩
    replace K0 := Aside0.mk (blk_below K0.out hB)
    replace K1 := Aside0.mk (blk_below K1.out hB)
    replace HB := Aside0.mk (below_then HB.out HB.out.size hB)
    clear hB
    have c0 := (blk_cell K0.out 0).trans rfl
    have c1 := (blk_cell K0.out 1).trans rfl
    have c2 := (blk_cell K0.out 2).trans rfl
    have c3 := (blk_cell K0.out 3).trans rfl
    have d0 := (blk_cell K1.out 0).trans rfl
    have d1 := (blk_cell K1.out 1).trans rfl
    have d2 := (blk_cell K1.out 2).trans rfl
    have y0 := blk_frozen K0.out 0
    have y1 := blk_frozen K0.out 1
    have y2 := blk_frozen K0.out 2
    have y3 := blk_frozen K0.out 3
    have z0 := blk_frozen K1.out 0
    have z1 := blk_frozen K1.out 1
    have z2 := blk_frozen K1.out 2
    simp at c0 c1 c2 c3 d0 d1 d2
    go_wp2_with fail
    refine bodyPost_ret (results_list (rs := [.cell 4 37, .tmp 5, .cell 6 29]) rfl (by simp) (.cell w.heap.size 37 _ (0, 0) _ rfl (put_three_far (put_four K0.out _ _ _ _) (by omega) _ _ _) Tryd.underlying37 rfl (by kernel_rfl) (.tmp (.cell (w.heap.size + 1) 29 _ (0, 0) _ rfl (put_three (put_four_far K1.out (by omega) _ _ _ _) _ _ _) Tryd.underlying29 rfl (by kernel_rfl) .nil)))) rfl ?_
    rw [HE.out]
    exact ⟨rfl, ((((((HB.out.setCell (Nat.le_refl _) _).setCell (Nat.le_refl _) _).setCell (Nat.le_refl _) _).setCell (Nat.le_refl _) _).setCell (by show _ ≤ w.heap.size + 1; omega) _).setCell (by show _ ≤ w.heap.size + 1; omega) _).setCell (by show _ ≤ w.heap.size + 1; omega) _⟩
set_option maxRecDepth 100000 in
set_option maxHeartbeats 3200000 in
theorem rw_other {s : ByteArray} {a : Nat} {w : World} (ha : a < s.size) (hs : s.size ≤ 65536) (HL : Aside0 (letU (s[a]'ha) = false)) (HD : Aside0 (digU (s[a]'ha) = false)) (h45 : s[a]'ha ≠ 45) (HS : Aside0 (signU (s[a]'ha) = false)) (r : W8) (HE0 : Aside0 (r = wordT a (.fault 10 [s[a]'ha]))) :
    Calls Tryd.prog 28 #[.string s, .int .i64 (a : Int)] w (WPost8 r w) := by
  have hone := one_text s a (a + 1) rfl ha
  have HE : Aside0 (r = (0, ⟨#[]⟩, 0, 0, 0, 10, (a : Int), s.extract a (a + 1))) := .mk (by rw [HE0.out, hone]; rfl)
  clear hone
  have HSL : Aside0 (∀ wx, (Instr.slice 9 (.string s) (some (.int .i64 (a : Int))) (some (.int .i64 ((a : Int) + 1))) none).run Tryd.prog wx = .ok (.string (s.extract a (a + 1))) wx) := .mk (fun wx => (run_slice_string (P := Tryd.prog) wx 9 s .i64 .i64 (a : Int) ((a : Int) + 1) Tryd.underlying9 (by omega) (by omega) (by omega)).trans rfl)
  have hW : IntKind.i64.wrap ((a : Int) + 1) = (a : Int) + 1 := IntWalk.i64_in _ (by omega)
  have HW := Aside0.mk hW
  clear hW
  have q1 : (((s[a]'ha).toNat : Int) == 45) = false := by rw [beq_eq_false_iff_ne]; exact fun e => h45 ((u8_is _ 45).1 e)
  clear h45
  have hB0 := rbelow2 w #[.int .i8 0, .string ⟨#[]⟩, .int .i64 0, .int .i64 0] #[.int .i64 0, .int .i64 0, .string ⟨#[]⟩] 37 29
  have HB := Aside0.mk hB0
  have K0 := Aside0.mk (blk_alloc (heap_alloc_new w (.cells #[.int .i8 0, .string ⟨#[]⟩, .int .i64 0, .int .i64 0] 37)) (.cells #[.int .i64 0, .int .i64 0, .string ⟨#[]⟩] 29))
  have K1 := Aside0.mk (rnew2 w (.cells #[.int .i8 0, .string ⟨#[]⟩, .int .i64 0, .int .i64 0] 37) #[.int .i64 0, .int .i64 0, .string ⟨#[]⟩] 29)
  clear hB0
  go_enter Tryd.func28, Tryd.ntmps28
  go_wp2_with fail
  generalize (w.alloc (.cells #[.int .i8 0, .string ⟨#[]⟩, .int .i64 0, .int .i64 0] 37)).alloc (.cells #[.int .i64 0, .int .i64 0, .string ⟨#[]⟩] 29) = wa at *
  refine (rletter_calls (s[a]'ha) rfl _).mono ?_
  rw [HL.out]
  rintro e w1 ⟨rfl, hB⟩
  replace K0 := Aside0.mk (blk_below K0.out hB)
  replace K1 := Aside0.mk (blk_below K1.out hB)
  replace HB := Aside0.mk (below_then HB.out HB.out.size hB)
  clear hB
  go_wp2_with fail
  refine (rdigit_calls (s[a]'ha) rfl _).mono ?_
  rw [HD.out]
  rintro e w2 ⟨rfl, hB⟩
  replace K0 := Aside0.mk (blk_below K0.out hB)
  replace K1 := Aside0.mk (blk_below K1.out hB)
  replace HB := Aside0.mk (below_then HB.out HB.out.size hB)
  clear hB
  go_wp2_with fail
  refine (rsign_calls (s[a]'ha) rfl _).mono ?_
  rw [HS.out]
  rintro e w3 ⟨rfl, hB⟩
  replace K0 := Aside0.mk (blk_below K0.out hB)
  replace K1 := Aside0.mk (blk_below K1.out hB)
  replace HB := Aside0.mk (below_then HB.out HB.out.size hB)
  clear hB
  go_wp2_with fail
  refine wp_region_held_drew (S := fun _ => True) (by kernel_rfl) trivial (fun hHeld => ?_)
  have hB := (Below.refl w3.heap.size w3).drew
  replace K0 := Aside0.mk (blk_below K0.out hB)
  replace K1 := Aside0.mk (blk_below K1.out hB)
  replace HB := Aside0.mk (below_then HB.out HB.out.size hB)
  clear hB
  generalize w3.drew = w4 at *
  refine takeA 131 0 (v := ?_) ?_ hHeld ?_
  rotate_left
  · intro w hSw
    try dsimp only at hSw
    go_simp <;> with_reducible rfl
  try simp only [Act.put, List.setIfInBounds_toArray, List.set_cons_zero, List.set_cons_succ]
  refine takeA 133 2 (v := ?_) ?_ hHeld ?_
  rotate_left
  · intro w hSw
    try dsimp only at hSw
    go_simp <;> with_reducible rfl
  try simp only [Act.put, List.setIfInBounds_toArray, List.set_cons_zero, List.set_cons_succ]
  refine takeA 134 3 (v := ?_) ?_ hHeld ?_
  rotate_left
  · intro w hSw
    try dsimp only at hSw
    go_simp <;> with_reducible rfl
  try simp only [Act.put, List.setIfInBounds_toArray, List.set_cons_zero, List.set_cons_succ]
  refine takeA 135 4 (v := ?_) ?_ hHeld ?_
  rotate_left
  · intro w hSw
    try dsimp only at hSw
    go_simp <;> with_reducible rfl
  try simp only [Act.put, List.setIfInBounds_toArray, List.set_cons_zero, List.set_cons_succ]
  refine takeH (d := some 136) (v := .int .i64 ((a : Int) + 1)) 5 rfl rfl (by kernel_rfl) (by kernel_rfl) (by kernel_rfl) (fun _ _ _ h => h) (by rfl) (fun w hSw => by (try dsimp only at hSw); go_simp; rw [HW.out]) hHeld ?_
  try simp only [Act.put, List.setIfInBounds_toArray, List.set_cons_zero, List.set_cons_succ]
  refine takeH (d := some 137) (v := .string (s.extract a (a + 1))) 6 rfl rfl (by kernel_rfl) (by kernel_rfl) (by kernel_rfl) (fun _ _ _ h => h) (by rfl) (fun w hSw => by (try dsimp only at hSw); go_simp; rw [HSL.out]; rfl) hHeld ?_
  try simp only [Act.put, List.setIfInBounds_toArray, List.set_cons_zero, List.set_cons_succ]
  refine takeA 132 1 (v := ?_) ?_ hHeld ?_
  rotate_left
  · intro w hSw
    try dsimp only at hSw
    go_simp <;> with_reducible rfl
  try simp only [Act.put, List.setIfInBounds_toArray, List.set_cons_zero, List.set_cons_succ]
  refine takeA 138 7 (v := ?_) ?_ hHeld ?_
  rotate_left
  · intro w hSw
    try dsimp only at hSw
    go_simp <;> with_reducible rfl
  try simp only [Act.put, List.setIfInBounds_toArray, List.set_cons_zero, List.set_cons_succ]
  refine wpAnyH_ready (rs := [8]) (by kernel_rfl) (by simp) ?_
  refine AllReadyH.cons rfl (fun K hK => ?_) AllReadyH.nil
  have c0 := (blk_cell K0.out 0).trans rfl
  have c1 := (blk_cell K0.out 1).trans rfl
  have c2 := (blk_cell K0.out 2).trans rfl
  have c3 := (blk_cell K0.out 3).trans rfl
  have y0 := blk_frozen K0.out 0
  have y1 := blk_frozen K0.out 1
  have y2 := blk_frozen K0.out 2
  have y3 := blk_frozen K0.out 3
  simp at c0 c1 c2 c3
  go_simp
  clear c0 c1 c2 c3 y0 y1 y2 y3
  refine hK.out _ _ trivial (fun hHeld => ?_)
  clear hK K
  try simp only [Act.put, List.setIfInBounds_toArray, List.set_cons_zero, List.set_cons_succ]
  refine takeA 5 9 (v := ?_) ?_ hHeld ?_
  rotate_left
  · intro w hSw
    try dsimp only at hSw
    go_simp <;> with_reducible rfl
  try simp only [Act.put, List.setIfInBounds_toArray, List.set_cons_zero, List.set_cons_succ]
  have k0 := put_four K0.out (.int .i8 0) (.string ⟨#[]⟩) (.int .i64 0) (.int .i64 0)
  have k1 := put_four_far (g := w.heap.size) K1.out (by omega) (.int .i8 0) (.string ⟨#[]⟩) (.int .i64 0) (.int .i64 0)
  have hb := ((((HB.out.setCell (p := ⟨w.heap.size, 0, none⟩) (Nat.le_refl _) (.int .i8 0)).setCell (p := ⟨w.heap.size, 1, none⟩) (Nat.le_refl _) (.string ⟨#[]⟩)).setCell (p := ⟨w.heap.size, 2, none⟩) (Nat.le_refl _) (.int .i64 0)).setCell (p := ⟨w.heap.size, 3, none⟩) (Nat.le_refl _) (.int .i64 0))
  replace K0 := Aside0.mk k0
  replace K1 := Aside0.mk k1
  replace HB := Aside0.mk hb
  clear k0 k1 hb
  generalize ((((w4.setCell ⟨w.heap.size, 0, none⟩ (.int .i8 0)).setCell ⟨w.heap.size, 1, none⟩ (.string ⟨#[]⟩)).setCell ⟨w.heap.size, 2, none⟩ (.int .i64 0)).setCell ⟨w.heap.size, 3, none⟩ (.int .i64 0)) = w5 at *
  refine wpAnyH_ready (rs := [10]) (by kernel_rfl) (by simp) ?_
  refine AllReadyH.cons rfl (fun K hK => ?_) AllReadyH.nil
  have d0 := (blk_cell K1.out 0).trans rfl
  have d1 := (blk_cell K1.out 1).trans rfl
  have d2 := (blk_cell K1.out 2).trans rfl
  have z0 := blk_frozen K1.out 0
  have z1 := blk_frozen K1.out 1
  have z2 := blk_frozen K1.out 2
  simp at d0 d1 d2
  go_simp
  clear d0 d1 d2 z0 z1 z2
  refine hK.out _ _ trivial (fun hHeld => ?_)
  clear hK K
  try simp only [Act.put, List.setIfInBounds_toArray, List.set_cons_zero, List.set_cons_succ]
  refine wpAnyH_done (by kernel_rfl) ?_ _
  go_wp2_with fail
  refine bodyPost_ret (results_list (rs := [.cell 4 37, .tmp 5, .cell 6 29]) rfl (by simp) (.cell w.heap.size 37 _ (0, 0) _ rfl (put_three_far K0.out (by omega) _ _ _) Tryd.underlying37 rfl (by kernel_rfl) (.tmp (.cell (w.heap.size + 1) 29 _ (0, 0) _ rfl (put_three K1.out _ _ _) Tryd.underlying29 rfl (by kernel_rfl) .nil)))) rfl ?_
  rw [HE.out]
  exact ⟨rfl, ((HB.out.setCell (by show _ ≤ w.heap.size + 1; omega) _).setCell (by show _ ≤ w.heap.size + 1; omega) _).setCell (by show _ ≤ w.heap.size + 1; omega) _⟩
/-! ### all together -/
theorem rw_all (s : ByteArray) (a : Nat) (w : World) (ha : a < s.size) (hs : s.size ≤ 65536) : Calls Tryd.prog 28 #[.string s, .int .i64 (a : Int)] w (WPost8 (wordT a (wordR (s.data.toList.drop a))) w) := by
  have hd := drop_at s a ha
  by_cases hL : letU (s[a]'ha) = true
  · refine rw_letter ha hs (.mk hL) _ (.mk rfl) _ (.mk rfl) _ (.mk ?_)
    congr 1
    rw [hd, wordR, if_pos hL]
    have e : s[a]'ha :: (s.data.toList.drop (a + 1)).takeWhile (fun d => letU d || digU d) = (s[a]'ha :: s.data.toList.drop (a + 1)).takeWhile (spanP true) := by rw [span_true, List.takeWhile_cons, if_pos (by rw [hL]; rfl)]
    rw [e]
  · have hL := Bool.eq_false_iff.2 hL
    by_cases hD : digU (s[a]'ha) = true
    · have e : s[a]'ha :: (s.data.toList.drop (a + 1)).takeWhile digU = (s[a]'ha :: s.data.toList.drop (a + 1)).takeWhile (spanP false) := by rw [span_false, List.takeWhile_cons, if_pos hD]
      refine rw_digit ha hs (.mk hL) (.mk hD) _ (.mk rfl) _ (.mk rfl) _ (.mk ?_)
      congr 1
      have e2 : (s.data.toList.drop (a + 1)).dropWhile digU = s.data.toList.drop (a + ((s.data.toList.drop a).takeWhile (spanP false)).length) := by
        have e3 : (s.data.toList.drop a).drop ((s.data.toList.drop a).takeWhile digU).length = (s.data.toList.drop a).dropWhile digU := drop_while_len _ _
        rw [List.drop_drop] at e3
        rw [span_false, e3, hd, List.dropWhile_cons, if_pos hD]
      rw [hd, wordR, if_neg (by simp [hL]), if_pos hD, e, e2, hd]
      rfl
    · have hD := Bool.eq_false_iff.2 hD
      have hw : wordR (s.data.toList.drop a) = if s[a]'ha = 45 ∧ (s.data.toList.drop (a + 1)).head? = some 62 then .word 4 [45, 62] 0 else if signU (s[a]'ha) then .word 4 [s[a]'ha] 0 else .fault 10 [s[a]'ha] := by
        rw [hd, wordR, if_neg (by simp [hL]), if_neg (by simp [hD])]
      by_cases h45 : s[a]'ha = 45
      · by_cases hn : a + 1 < s.size
        · have hd1 := drop_at s (a + 1) hn
          by_cases h62 : s[a + 1]'hn = 62
          · refine rw_arrow ha hs (.mk hL) (.mk hD) h45 hn h62 _ (.mk ?_)
            rw [hw, hd1, if_pos ⟨h45, by rw [h62]; rfl⟩]
            rfl
          · refine rw_sign ha hs (.mk hL) (.mk hD) (.inr (.inr ⟨h45, hn, h62⟩)) (.mk (by rw [h45]; rfl)) _ (.mk ?_)
            rw [hw, hd1, if_neg (by intro h; exact h62 (by simpa using h.2)), if_pos (by rw [h45]; rfl)]
        · refine rw_sign ha hs (.mk hL) (.mk hD) (.inr (.inl ⟨h45, by omega⟩)) (.mk (by rw [h45]; rfl)) _ (.mk ?_)
          rw [hw, if_neg (by intro h; have := h.2; rw [List.drop_eq_nil_of_le (by simp; omega)] at this; simp at this), if_pos (by rw [h45]; rfl)]
      · rw [if_neg (fun h => h45 h.1)] at hw
        by_cases hS : signU (s[a]'ha) = true
        · rw [if_pos hS] at hw
          exact rw_sign ha hs (.mk hL) (.mk hD) (.inl h45) (.mk hS) _ (.mk (by rw [hw]))
        · rw [if_neg hS] at hw
          exact rw_other ha hs (.mk hL) (.mk hD) h45 (.mk (Bool.eq_false_iff.2 hS)) _ (.mk (by rw [hw]))
/-- .. in the print's shape. -/
def lychgateref01_word.f (a0 : ByteArray) (a1 : Int) : Option W8 := if 0 ≤ a1 ∧ a1 < (a0.size : Int) ∧ a0.size ≤ 65536 then some (wordT a1.toNat (wordR (a0.data.toList.drop a1.toNat))) else none
theorem lychgateref01_word.calls (a0 : ByteArray) (a1 : Int) (r1 : Int) (r2 : ByteArray) (r3 : Int) (r4 : Int) (r5 : Int) (r6 : Int) (r7 : Int) (r8 : ByteArray) (w : World) (h : lychgateref01_word.f a0 a1 = some (r1, r2, r3, r4, r5, r6, r7, r8)) :
    Calls Tryd.prog 28 #[.string a0, .int .i64 a1] w fun e w' => e = .returned (.tuple #[.agg #[.int .i8 r1, .string r2, .int .i64 r3, .int .i64 r4], .int .i64 r5, .agg #[.int .i64 r6, .int .i64 r7, .string r8]]) ∧ Below w.heap.size w w' := by
  unfold lychgateref01_word.f at h
  split at h
  · rename_i hc
    injection h with h
    obtain ⟨n, rfl⟩ := Int.eq_ofNat_of_zero_le hc.1
    have h2 := rw_all a0 n w (by omega) hc.2.2
    rw [show ((n : Int)).toNat = n from rfl] at h
    rw [h] at h2
    exact h2
  · simp at h
end Go.Proofs.YtjmpejbciniceaaDoor.X
