/- The contract of the reference's word. -/
import Derived.Test.YtjmpejbciniceaaDoorPureRef1
namespace Go.Proofs.YtjmpejbciniceaaDoor.X
open Go.RowKit Go.Proofs.YtjmpejbciniceaaDoorW.PrintWords Go.Proofs.YtjmpejbciniceaaDoorW.PrintLast Go.Proofs.YtjmpejbciniceaaDoorW.PrintMore
set_option linter.unusedVariables false
set_option linter.unusedSimpArgs false

theorem rletter_calls (c : UInt8) {q : Int} (hq : (c.toNat : Int) = q) (w : World) : Calls Tryd.prog 66 #[.int .u8 q] w fun e w' => e = .returned (.bool (letU c)) ∧ Below w.heap.size w w' := (lychgateref01_Letter.calls _ _ w (hq ▸ rletter_is c)).mono fun e w' h => ⟨h.1, h.2.below⟩
theorem rdigit_calls (c : UInt8) {q : Int} (hq : (c.toNat : Int) = q) (w : World) : Calls Tryd.prog 69 #[.int .u8 q] w fun e w' => e = .returned (.bool (digU c)) ∧ Below w.heap.size w w' := (lychgateref01_Digit.calls _ _ w (hq ▸ rdigit_is c)).mono fun e w' h => ⟨h.1, h.2.below⟩
theorem rsign_calls (c : UInt8) {q : Int} (hq : (c.toNat : Int) = q) (w : World) : Calls Tryd.prog 71 #[.int .u8 q] w fun e w' => e = .returned (.bool (signU c)) ∧ Below w.heap.size w w' := (lychgateref01_sign.calls 25 _ _ w (hq ▸ rsign_is c)).mono fun e w' h => ⟨h.1, h.2.below⟩
theorem rrun_calls (s : ByteArray) (b : Bool) (hs : s.size ≤ 65536) (a : Nat) (ha : a ≤ s.size) (w : World) : Calls Tryd.prog 67 #[.string s, .int .i64 (a : Int), .bool b] w fun e w' => e = .returned (.int .i64 ((a + spanN s a b : Nat) : Int)) ∧ Below w.heap.size w w' := (lychgateref01_run.calls 100001 _ _ _ _ w (run_is s b (by omega) a ha)).mono fun e w' h => ⟨h.1, h.2.below⟩
theorem rkey_calls (t : ByteArray) (w : World) : Calls Tryd.prog 68 #[.string t] w fun e w' => e = .returned (.bool (keyU t.data.toList)) ∧ Below w.heap.size w w' := (lychgateref01_Key.calls _ _ w (by rw [rkey_is, bytes_toList])).mono fun e w' h => ⟨h.1, h.2.below⟩
theorem rnum_calls (t : ByteArray) (hs : t.size ≤ 65536) (hd : ∀ c ∈ t.data.toList, digU c = true) (w : World) : Calls Tryd.prog 70 #[.string t] w fun e w' => e = .returned (match numR t.data.toList 0 with
      | none => .tuple #[.int .i64 0, .bool false]
      | some m => .tuple #[.int .i64 (m : Int), .bool true]) ∧ Below w.heap.size w w' := by
  obtain ⟨h1, h2⟩ := num_is (t.size + 1) t (by omega) (Nat.lt_succ_self _) hd
  cases hn : numR t.data.toList 0 with
  | none => exact (lychgateref01_Number.calls _ _ _ _ w (h1 hn)).mono fun e w' h => ⟨h.1, h.2.below⟩
  | some m => exact (lychgateref01_Number.calls _ _ _ _ w (h2 m hn)).mono fun e w' h => ⟨h.1, h.2.below⟩
abbrev W8 : Type := Int × ByteArray × Int × Int × Int × Int × Int × ByteArray
def wordT (a : Nat) : SRes → W8
  | .word k t n => (k, bytesS t, (n : Int), (a : Int), ((a + t.length : Nat) : Int), 0, 0, ⟨#[]⟩)
  | .fault e t => (0, ⟨#[]⟩, 0, 0, 0, e, (a : Int), bytesS t)
def WPost8 (r : W8) (w : World) (e : Ending) (w' : World) : Prop :=
  e = .returned (.tuple #[.agg #[.int .i8 r.1, .string r.2.1, .int .i64 r.2.2.1, .int .i64 r.2.2.2.1], .int .i64 r.2.2.2.2.1, .agg #[.int .i64 r.2.2.2.2.2.1, .int .i64 r.2.2.2.2.2.2.1, .string r.2.2.2.2.2.2.2]]) ∧ Below w.heap.size w w'
theorem mem_take {α : Type} (p : α → Bool) (l : List α) : ∀ c ∈ l.takeWhile p, p c = true := by
  induction l with
  | nil => intro c h; simp at h
  | cons a l ih =>
    intro c h
    rw [List.takeWhile_cons] at h
    split at h
    · rcases List.mem_cons.1 h with rfl | h
      · assumption
      · exact ih c h
    · simp at h
theorem blk_putf {w : World} {g : Nat} {o : Obj} (h : w.heap[g]? = some o) {p : Addr} {u : Value} (hp : g ≠ p.block) : (w.setCell p u).heap[g]? = some o := (Below.heap_setCell w p u g hp).trans h
theorem rbelow2 (w : World) (a b : Array Value) (ta tb : TypeId) : Below w.heap.size w ((w.alloc (.cells a ta)).alloc (.cells b tb)) := ((Below.refl _ _).alloc (Nat.le_refl _) _).alloc (by simp) _
theorem rnew2 (w : World) (o : Obj) (a : Array Value) (t : TypeId) : ((w.alloc o).alloc (.cells a t)).heap[w.heap.size + 1]? = some (.cells a t (0, 0)) := by
  have := heap_alloc_new (w.alloc o) (.cells a t)
  simpa using this
theorem put_four {w : World} {g : Nat} {c0 c1 c2 c3 : Value} {t : TypeId} (h : w.heap[g]? = some (.cells #[c0, c1, c2, c3] t (0, 0))) (x0 x1 x2 x3 : Value) : ((((w.setCell ⟨g, 0, none⟩ x0).setCell ⟨g, 1, none⟩ x1).setCell ⟨g, 2, none⟩ x2).setCell ⟨g, 3, none⟩ x3).heap[g]? = some (.cells #[x0, x1, x2, x3] t (0, 0)) :=
  blk_put (cs := #[x0, x1, x2, c3]) (blk_put (cs := #[x0, x1, c2, c3]) (blk_put (cs := #[x0, c1, c2, c3]) (blk_put h 0 _ rfl) 1 _ rfl) 2 _ rfl) 3 _ rfl
theorem put_three {w : World} {g : Nat} {c0 c1 c2 : Value} {t : TypeId} (h : w.heap[g]? = some (.cells #[c0, c1, c2] t (0, 0))) (x0 x1 x2 : Value) : (((w.setCell ⟨g, 0, none⟩ x0).setCell ⟨g, 1, none⟩ x1).setCell ⟨g, 2, none⟩ x2).heap[g]? = some (.cells #[x0, x1, x2] t (0, 0)) :=
  blk_put (cs := #[x0, x1, c2]) (blk_put (cs := #[x0, c1, c2]) (blk_put h 0 _ rfl) 1 _ rfl) 2 _ rfl
theorem put_four_far {w : World} {g k : Nat} {o : Obj} (h : w.heap[k]? = some o) (hk : k ≠ g) (x0 x1 x2 x3 : Value) : ((((w.setCell ⟨g, 0, none⟩ x0).setCell ⟨g, 1, none⟩ x1).setCell ⟨g, 2, none⟩ x2).setCell ⟨g, 3, none⟩ x3).heap[k]? = some o :=
  blk_putf (blk_putf (blk_putf (blk_putf h hk) hk) hk) hk
theorem put_three_far {w : World} {g k : Nat} {o : Obj} (h : w.heap[k]? = some o) (hk : k ≠ g) (x0 x1 x2 : Value) : (((w.setCell ⟨g, 0, none⟩ x0).setCell ⟨g, 1, none⟩ x1).setCell ⟨g, 2, none⟩ x2).heap[k]? = some o :=
  blk_putf (blk_putf (blk_putf h hk) hk) hk
set_option maxRecDepth 100000 in
set_option maxHeartbeats 3200000 in
theorem rw_letter {s : ByteArray} {a : Nat} {w : World} (ha : a < s.size) (hs : s.size ≤ 65536) (HL : Aside0 (letU (s[a]'ha) = true)) (m : List UInt8) (HM : Aside0 ((s.data.toList.drop a).takeWhile (spanP true) = m)) (K : Bool) (HK : Aside0 (keyU m = K)) (r : W8)
    (HE0 : Aside0 (r = wordT a (if 64 < m.length then .fault 3 m else .word (if K then 3 else 1) m 0))) :
    Calls Tryd.prog 28 #[.string s, .int .i64 (a : Int)] w (WPost8 r w) := by
  have hB0 := rbelow2 w #[.int .i8 0, .string ⟨#[]⟩, .int .i64 0, .int .i64 0] #[.int .i64 0, .int .i64 0, .string ⟨#[]⟩] 37 29
  have HB := Aside0.mk hB0
  have K0 := Aside0.mk (blk_alloc (heap_alloc_new w (.cells #[.int .i8 0, .string ⟨#[]⟩, .int .i64 0, .int .i64 0] 37)) (.cells #[.int .i64 0, .int .i64 0, .string ⟨#[]⟩] 29))
  have K1 := Aside0.mk (rnew2 w (.cells #[.int .i8 0, .string ⟨#[]⟩, .int .i64 0, .int .i64 0] 37) #[.int .i64 0, .int .i64 0, .string ⟨#[]⟩] 29)
  clear hB0
  go_enter Tryd.func28, Tryd.ntmps28
  go_wp2_with fail
  generalize (w.alloc (.cells #[.int .i8 0, .string ⟨#[]⟩, .int .i64 0, .int .i64 0] 37)).alloc (.cells #[.int .i64 0, .int .i64 0, .string ⟨#[]⟩] 29) = wa at *
  refine (rletter_calls (s[a]'ha) rfl _).mono ?_
  rw [HL.out]
  rintro e w1 ⟨rfl, hB⟩
  replace K0 := Aside0.mk (blk_below K0.out hB)
  replace K1 := Aside0.mk (blk_below K1.out hB)
  replace HB := Aside0.mk (below_then HB.out HB.out.size hB)
  clear hB
  go_wp2_with fail
  refine (rrun_calls s true hs a (by omega) _).mono ?_
  rintro e w2 ⟨rfl, hB⟩
  replace K0 := Aside0.mk (blk_below K0.out hB)
  replace K1 := Aside0.mk (blk_below K1.out hB)
  replace HB := Aside0.mk (below_then HB.out HB.out.size hB)
  clear hB
  have hx := span_text s a true (by omega)
  rw [HM.out] at hx
  obtain ⟨b, hb⟩ : ∃ b, b = a + spanN s a true := ⟨_, rfl⟩
  have hbl : b ≤ s.size := by
    have := (List.takeWhile_sublist (spanP true) (l := s.data.toList.drop a)).length_le
    rw [List.length_drop] at this
    rw [hb]; unfold spanN; simp at this ⊢; omega
  have hba : a ≤ b := by omega
  rw [← hb] at hx ⊢
  have hbm : b = a + m.length := by rw [hb]; unfold spanN; rw [HM.out]
  have HBM := Aside0.mk hbm
  clear hb hbm
  have hsl : ∀ wx, (Instr.slice 9 (.string s) (some (.int .i64 (a : Int))) (some (.int .i64 (b : Int))) none).run Tryd.prog wx = .ok (.string (s.extract a b)) wx := fun wx => (run_slice_string (P := Tryd.prog) wx 9 s .i64 .i64 (a : Int) (b : Int) Tryd.underlying9 (by omega) (by omega) (by omega)).trans rfl
  have HT := Aside0.mk hx
  have hz : (s.extract a b).size = m.length := by rw [← hx]; simp; try omega
  have HTB := Aside0.mk (show bytesS m = s.extract a b by rw [← hx]; exact bytes_of _)
  have HZ := Aside0.mk hz
  clear hx hz
  by_cases hb : 64 < m.length
  · have HE : Aside0 (r = (0, ⟨#[]⟩, 0, 0, 0, 3, (a : Int), s.extract a b)) := .mk (by rw [HE0.out, if_pos hb, wordT, HTB.out])
    have hb2 : (64 : Int) < ((b - a : Nat) : Int) := by have := HBM.out; omega
    have c0 := (blk_cell K0.out 0).trans rfl
    have c1 := (blk_cell K0.out 1).trans rfl
    have c2 := (blk_cell K0.out 2).trans rfl
    have c3 := (blk_cell K0.out 3).trans rfl
    have d0 := (blk_cell K1.out 0).trans rfl
    have d1 := (blk_cell K1.out 1).trans rfl
    have d2 := (blk_cell K1.out 2).trans rfl
    have y0 := blk_frozen K0.out 0
    have y1 := blk_frozen K0.out 1
    have y2 := blk_frozen K0.out 2
    have y3 := blk_frozen K0.out 3
    have z0 := blk_frozen K1.out 0
    have z1 := blk_frozen K1.out 1
    have z2 := blk_frozen K1.out 2
    simp at c0 c1 c2 c3 d0 d1 d2
    go_wp2_with fail
    refine bodyPost_ret (results_list (rs := [.cell 4 37, .tmp 5, .cell 6 29]) rfl (by simp) (.cell w.heap.size 37 _ (0, 0) _ rfl (put_three_far (put_four K0.out _ _ _ _) (by omega) _ _ _) Tryd.underlying37 rfl (by kernel_rfl) (.tmp (.cell (w.heap.size + 1) 29 _ (0, 0) _ rfl (put_three (put_four_far K1.out (by omega) _ _ _ _) _ _ _) Tryd.underlying29 rfl (by kernel_rfl) .nil)))) rfl ?_
    rw [HE.out]
    exact ⟨rfl, ((((((HB.out.setCell (Nat.le_refl _) _).setCell (Nat.le_refl _) _).setCell (Nat.le_refl _) _).setCell (Nat.le_refl _) _).setCell (by show _ ≤ w.heap.size + 1; omega) _).setCell (by show _ ≤ w.heap.size + 1; omega) _).setCell (by show _ ≤ w.heap.size + 1; omega) _⟩
  · have hb2 : ¬ (64 : Int) < ((b - a : Nat) : Int) := by have := HBM.out; omega
    go_wp2_with fail
    refine (rkey_calls _ _).mono ?_
    rw [HT.out, HK.out]
    rintro e w3 ⟨rfl, hB⟩
    replace K0 := Aside0.mk (blk_below K0.out hB)
    replace K1 := Aside0.mk (blk_below K1.out hB)
    replace HB := Aside0.mk (below_then HB.out HB.out.size hB)
    clear hB
    have c0 := (blk_cell K0.out 0).trans rfl
    have c1 := (blk_cell K0.out 1).trans rfl
    have c2 := (blk_cell K0.out 2).trans rfl
    have c3 := (blk_cell K0.out 3).trans rfl
    have d0 := (blk_cell K1.out 0).trans rfl
    have d1 := (blk_cell K1.out 1).trans rfl
    have d2 := (blk_cell K1.out 2).trans rfl
    have y0 := blk_frozen K0.out 0
    have y1 := blk_frozen K0.out 1
    have y2 := blk_frozen K0.out 2
    have y3 := blk_frozen K0.out 3
    have z0 := blk_frozen K1.out 0
    have z1 := blk_frozen K1.out 1
    have z2 := blk_frozen K1.out 2
    simp at c0 c1 c2 c3 d0 d1 d2
    cases K with
    | true =>
      have HE : Aside0 (r = (3, s.extract a b, 0, (a : Int), (b : Int), 0, 0, ⟨#[]⟩)) := .mk (by rw [HE0.out, if_neg hb, wordT, HTB.out, HBM.out]; rfl)
      go_wp2_with fail
      refine bodyPost_ret (results_list (rs := [.cell 4 37, .tmp 5, .cell 6 29]) rfl (by simp) (.cell w.heap.size 37 _ (0, 0) _ rfl (put_three_far (put_four K0.out _ _ _ _) (by omega) _ _ _) Tryd.underlying37 rfl (by kernel_rfl) (.tmp (.cell (w.heap.size + 1) 29 _ (0, 0) _ rfl (put_three (put_four_far K1.out (by omega) _ _ _ _) _ _ _) Tryd.underlying29 rfl (by kernel_rfl) .nil)))) rfl ?_
      rw [HE.out]
      exact ⟨rfl, ((((((HB.out.setCell (Nat.le_refl _) _).setCell (Nat.le_refl _) _).setCell (Nat.le_refl _) _).setCell (Nat.le_refl _) _).setCell (by show _ ≤ w.heap.size + 1; omega) _).setCell (by show _ ≤ w.heap.size + 1; omega) _).setCell (by show _ ≤ w.heap.size + 1; omega) _⟩
    | false =>
      have HE : Aside0 (r = (1, s.extract a b, 0, (a : Int), (b : Int), 0, 0, ⟨#[]⟩)) := .mk (by rw [HE0.out, if_neg hb, wordT, HTB.out, HBM.out]; rfl)
      go_wp2_with fail
      refine bodyPost_ret (results_list (rs := [.cell 4 37, .tmp 5, .cell 6 29]) rfl (by simp) (.cell w.heap.size 37 _ (0, 0) _ rfl (put_three_far (put_four K0.out _ _ _ _) (by omega) _ _ _) Tryd.underlying37 rfl (by kernel_rfl) (.tmp (.cell (w.heap.size + 1) 29 _ (0, 0) _ rfl (put_three (put_four_far K1.out (by omega) _ _ _ _) _ _ _) Tryd.underlying29 rfl (by kernel_rfl) .nil)))) rfl ?_
      rw [HE.out]
      exact ⟨rfl, ((((((HB.out.setCell (Nat.le_refl _) _).setCell (Nat.le_refl _) _).setCell (Nat.le_refl _) _).setCell (Nat.le_refl _) _).setCell (by show _ ≤ w.heap.size + 1; omega) _).setCell (by show _ ≤ w.heap.size + 1; omega) _).setCell (by show _ ≤ w.heap.size + 1; omega) _⟩
set_option maxRecDepth 100000 in
set_option maxHeartbeats 3200000 in
theorem rw_digit {s : ByteArray} {a : Nat} {w : World} (ha : a < s.size) (hs : s.size ≤ 65536) (HL : Aside0 (letU (s[a]'ha) = false)) (HD : Aside0 (digU (s[a]'ha) = true)) (m : List UInt8) (HM : Aside0 ((s.data.toList.drop a).takeWhile (spanP false) = m)) (h : Bool) (HH : Aside0 (headLet (s.data.toList.drop (a + m.length)) = h)) (r : W8)
    (HE0 : Aside0 (r = wordT a (match numR m 0 with | none => .fault 3 m | some n => if (1 < m.length ∧ s[a]'ha = 48) ∨ h = true then .fault 10 m else .word 2 m n))) :
    Calls Tryd.prog 28 #[.string s, .int .i64 (a : Int)] w (WPost8 r w) := by
  have hB0 := rbelow2 w #[.int .i8 0, .string ⟨#[]⟩, .int .i64 0, .int .i64 0] #[.int .i64 0, .int .i64 0, .string ⟨#[]⟩] 37 29
  have HB := Aside0.mk hB0
  have K0 := Aside0.mk (blk_alloc (heap_alloc_new w (.cells #[.int .i8 0, .string ⟨#[]⟩, .int .i64 0, .int .i64 0] 37)) (.cells #[.int .i64 0, .int .i64 0, .string ⟨#[]⟩] 29))
  have K1 := Aside0.mk (rnew2 w (.cells #[.int .i8 0, .string ⟨#[]⟩, .int .i64 0, .int .i64 0] 37) #[.int .i64 0, .int .i64 0, .string ⟨#[]⟩] 29)
  clear hB0
  go_enter Tryd.func28, Tryd.ntmps28
  go_wp2_with fail
  generalize (w.alloc (.cells #[.int .i8 0, .string ⟨#[]⟩, .int .i64 0, .int .i64 0] 37)).alloc (.cells #[.int .i64 0, .int .i64 0, .string ⟨#[]⟩] 29) = wa at *
  refine (rletter_calls (s[a]'ha) rfl _).mono ?_
  rw [HL.out]
  rintro e w1 ⟨rfl, hB⟩
  replace K0 := Aside0.mk (blk_below K0.out hB)
  replace K1 := Aside0.mk (blk_below K1.out hB)
  replace HB := Aside0.mk (below_then HB.out HB.out.size hB)
  clear hB
  go_wp2_with fail
  refine (rdigit_calls (s[a]'ha) rfl _).mono ?_
  rw [HD.out]
  rintro e w2 ⟨rfl, hB⟩
  replace K0 := Aside0.mk (blk_below K0.out hB)
  replace K1 := Aside0.mk (blk_below K1.out hB)
  replace HB := Aside0.mk (below_then HB.out HB.out.size hB)
  clear hB
  go_wp2_with fail
  refine (rrun_calls s false hs a (by omega) _).mono ?_
  rintro e w3 ⟨rfl, hB⟩
  replace K0 := Aside0.mk (blk_below K0.out hB)
  replace K1 := Aside0.mk (blk_below K1.out hB)
  replace HB := Aside0.mk (below_then HB.out HB.out.size hB)
  clear hB
  have hx := span_text s a false (by omega)
  rw [HM.out] at hx
  obtain ⟨b, hb⟩ : ∃ b, b = a + spanN s a false := ⟨_, rfl⟩
  have hbl : b ≤ s.size := by
    have := (List.takeWhile_sublist (spanP false) (l := s.data.toList.drop a)).length_le
    rw [List.length_drop] at this
    rw [hb]; unfold spanN; simp at this ⊢; omega
  have hba : a ≤ b := by omega
  rw [← hb] at hx ⊢
  have hbm : b = a + m.length := by rw [hb]; unfold spanN; rw [HM.out]
  have HBM := Aside0.mk hbm
  clear hb hbm
  have hsl : ∀ wx, (Instr.slice 9 (.string s) (some (.int .i64 (a : Int))) (some (.int .i64 (b : Int))) none).run Tryd.prog wx = .ok (.string (s.extract a b)) wx := fun wx => (run_slice_string (P := Tryd.prog) wx 9 s .i64 .i64 (a : Int) (b : Int) Tryd.underlying9 (by omega) (by omega) (by omega)).trans rfl
  have HT := Aside0.mk hx
  have hz : (s.extract a b).size = m.length := by rw [← hx]; simp; try omega
  have HTB := Aside0.mk (show bytesS m = s.extract a b by rw [← hx]; exact bytes_of _)
  have HZ := Aside0.mk hz
  have HDG : Aside0 (∀ c ∈ (s.extract a b).data.toList, digU c = true) := .mk (by
    rw [hx, ← HM.out]
    intro c hc
    have := mem_take _ _ c hc
    simpa [spanP] using this)
  clear hx hz
  go_wp2_with fail
  refine (rnum_calls _ (by have := HZ.out; have := HBM.out; omega) HDG.out _).mono ?_
  rw [HT.out]
  clear hsl
  generalize s.extract a b = t at *
  have hts : t.size = m.length := HZ.out
  have HTS := Aside0.mk hts
  clear hts
  cases hn : numR m 0 with
  | none =>
    have HE : Aside0 (r = (0, ⟨#[]⟩, 0, 0, 0, 3, (a : Int), t)) := .mk (by rw [HE0.out, hn, ← HTB.out]; rfl)
    clear hn
    rintro e w4 ⟨rfl, hB⟩
    replace K0 := Aside0.mk (blk_below K0.out hB)
    replace K1 := Aside0.mk (blk_below K1.out hB)
    replace HB := Aside0.mk (below_then HB.out HB.out.size hB)
    clear hB
    have c0 := (blk_cell K0.out 0).trans rfl
    have c1 := (blk_cell K0.out 1).trans rfl
    have c2 := (blk_cell K0.out 2).trans rfl
    have c3 := (blk_cell K0.out 3).trans rfl
    have d0 := (blk_cell K1.out 0).trans rfl
    have d1 := (blk_cell K1.out 1).trans rfl
    have d2 := (blk_cell K1.out 2).trans rfl
    have y0 := blk_frozen K0.out 0
    have y1 := blk_frozen K0.out 1
    have y2 := blk_frozen K0.out 2
    have y3 := blk_frozen K0.out 3
    have z0 := blk_frozen K1.out 0
    have z1 := blk_frozen K1.out 1
    have z2 := blk_frozen K1.out 2
    simp at c0 c1 c2 c3 d0 d1 d2
    go_wp2_with fail
    refine bodyPost_ret (results_list (rs := [.cell 4 37, .tmp 5, .cell 6 29]) rfl (by simp) (.cell w.heap.size 37 _ (0, 0) _ rfl (put_three_far (put_four K0.out _ _ _ _) (by omega) _ _ _) Tryd.underlying37 rfl (by kernel_rfl) (.tmp (.cell (w.heap.size + 1) 29 _ (0, 0) _ rfl (put_three (put_four_far K1.out (by omega) _ _ _ _) _ _ _) Tryd.underlying29 rfl (by kernel_rfl) .nil)))) rfl ?_
    rw [HE.out]
    exact ⟨rfl, ((((((HB.out.setCell (Nat.le_refl _) _).setCell (Nat.le_refl _) _).setCell (Nat.le_refl _) _).setCell (Nat.le_refl _) _).setCell (by show _ ≤ w.heap.size + 1; omega) _).setCell (by show _ ≤ w.heap.size + 1; omega) _).setCell (by show _ ≤ w.heap.size + 1; omega) _⟩
  | some n =>
    have HN := Aside0.mk hn
    clear hn
    rintro e w4 ⟨rfl, hB⟩
    replace K0 := Aside0.mk (blk_below K0.out hB)
    replace K1 := Aside0.mk (blk_below K1.out hB)
    replace HB := Aside0.mk (below_then HB.out HB.out.size hB)
    clear hB
    by_cases h48 : s[a]'ha = 48 ∧ 1 < m.length
    · have HE : Aside0 (r = (0, ⟨#[]⟩, 0, 0, 0, 10, (a : Int), t)) := .mk (by
        rw [HE0.out, HN.out]
        show wordT a (if _ then _ else _) = _
        rw [if_pos (.inl ⟨h48.2, h48.1⟩), ← HTB.out]; rfl)
      have q1 : (((s[a]'ha).toNat : Int) == 48) = true := by rw [h48.1]; rfl
      have q2 : (1 : Int) < (t.size : Int) := by have := HTS.out; have := h48.2; omega
      clear h48
      have c0 := (blk_cell K0.out 0).trans rfl
      have c1 := (blk_cell K0.out 1).trans rfl
      have c2 := (blk_cell K0.out 2).trans rfl
      have c3 := (blk_cell K0.out 3).trans rfl
      have d0 := (blk_cell K1.out 0).trans rfl
      have d1 := (blk_cell K1.out 1).trans rfl
      have d2 := (blk_cell K1.out 2).trans rfl
      have y0 := blk_frozen K0.out 0
      have y1 := blk_frozen K0.out 1
      have y2 := blk_frozen K0.out 2
      have y3 := blk_frozen K0.out 3
      have z0 := blk_frozen K1.out 0
      have z1 := blk_frozen K1.out 1
      have z2 := blk_frozen K1.out 2
      simp at c0 c1 c2 c3 d0 d1 d2
      go_wp2_with fail
      refine bodyPost_ret (results_list (rs := [.cell 4 37, .tmp 5, .cell 6 29]) rfl (by simp) (.cell w.heap.size 37 _ (0, 0) _ rfl (put_three_far (put_four K0.out _ _ _ _) (by omega) _ _ _) Tryd.underlying37 rfl (by kernel_rfl) (.tmp (.cell (w.heap.size + 1) 29 _ (0, 0) _ rfl (put_three (put_four_far K1.out (by omega) _ _ _ _) _ _ _) Tryd.underlying29 rfl (by kernel_rfl) .nil)))) rfl ?_
      rw [HE.out]
      exact ⟨rfl, ((((((HB.out.setCell (Nat.le_refl _) _).setCell (Nat.le_refl _) _).setCell (Nat.le_refl _) _).setCell (Nat.le_refl _) _).setCell (by show _ ≤ w.heap.size + 1; omega) _).setCell (by show _ ≤ w.heap.size + 1; omega) _).setCell (by show _ ≤ w.heap.size + 1; omega) _⟩
    · have HT1 : (((s[a]'ha).toNat : Int) == 48) = false ∨ ((((s[a]'ha).toNat : Int) == 48) = true ∧ ¬ (1 : Int) < (t.size : Int)) := by
        by_cases h4 : s[a]'ha = 48
        · right
          have h5 : ¬ 1 < m.length := fun h5 => h48 ⟨h4, h5⟩
          exact ⟨by rw [h4]; rfl, by have := HTS.out; omega⟩
        · left
          rw [beq_eq_false_iff_ne]
          intro e
          exact h4 ((u8_is _ 48).1 e)
      have hno : ¬ (1 < m.length ∧ s[a]'ha = 48) := fun h => h48 ⟨h.2, h.1⟩
      have HNO := Aside0.mk hno
      clear h48 hno
      by_cases hlb : b < s.size
      · have hhd : headLet (s.data.toList.drop (a + m.length)) = letU (s[b]'hlb) := by rw [← HBM.out, drop_at s b hlb]; rfl
        have HHD := Aside0.mk (hhd.symm.trans HH.out)
        have hlbI : (b : Int) < (s.size : Int) := by omega
        clear hhd
        cases h with
        | true =>
          have HE : Aside0 (r = (0, ⟨#[]⟩, 0, 0, 0, 10, (a : Int), t)) := .mk (by
            rw [HE0.out, HN.out]
            show wordT a (if _ then _ else _) = _
            rw [if_pos (.inr rfl), ← HTB.out]; rfl)
          rcases HT1 with q1 | ⟨q1, q2⟩
          all_goals
            go_wp2_with fail
            refine (rletter_calls (s[b]'hlb) rfl _).mono ?_
            rw [HHD.out]
            rintro e w5 ⟨rfl, hB⟩
            replace K0 := Aside0.mk (blk_below K0.out hB)
            replace K1 := Aside0.mk (blk_below K1.out hB)
            replace HB := Aside0.mk (below_then HB.out HB.out.size hB)
            clear hB
            have c0 := (blk_cell K0.out 0).trans rfl
            have c1 := (blk_cell K0.out 1).trans rfl
            have c2 := (blk_cell K0.out 2).trans rfl
            have c3 := (blk_cell K0.out 3).trans rfl
            have d0 := (blk_cell K1.out 0).trans rfl
            have d1 := (blk_cell K1.out 1).trans rfl
            have d2 := (blk_cell K1.out 2).trans rfl
            have y0 := blk_frozen K0.out 0
            have y1 := blk_frozen K0.out 1
            have y2 := blk_frozen K0.out 2
            have y3 := blk_frozen K0.out 3
            have z0 := blk_frozen K1.out 0
            have z1 := blk_frozen K1.out 1
            have z2 := blk_frozen K1.out 2
            simp at c0 c1 c2 c3 d0 d1 d2
            go_wp2_with fail
            refine bodyPost_ret (results_list (rs := [.cell 4 37, .tmp 5, .cell 6 29]) rfl (by simp) (.cell w.heap.size 37 _ (0, 0) _ rfl (put_three_far (put_four K0.out _ _ _ _) (by omega) _ _ _) Tryd.underlying37 rfl (by kernel_rfl) (.tmp (.cell (w.heap.size + 1) 29 _ (0, 0) _ rfl (put_three (put_four_far K1.out (by omega) _ _ _ _) _ _ _) Tryd.underlying29 rfl (by kernel_rfl) .nil)))) rfl ?_
            rw [HE.out]
            exact ⟨rfl, ((((((HB.out.setCell (Nat.le_refl _) _).setCell (Nat.le_refl _) _).setCell (Nat.le_refl _) _).setCell (Nat.le_refl _) _).setCell (by show _ ≤ w.heap.size + 1; omega) _).setCell (by show _ ≤ w.heap.size + 1; omega) _).setCell (by show _ ≤ w.heap.size + 1; omega) _⟩
        | false =>
          have HE : Aside0 (r = (2, t, (n : Int), (a : Int), (b : Int), 0, 0, ⟨#[]⟩)) := .mk (by
            rw [HE0.out, HN.out]
            show wordT a (if _ then _ else _) = _
            rw [if_neg (fun h => h.elim HNO.out (fun e => absurd e (by decide))), wordT, HTB.out, HBM.out])
          rcases HT1 with q1 | ⟨q1, q2⟩
          all_goals
            go_wp2_with fail
            refine (rletter_calls (s[b]'hlb) rfl _).mono ?_
            rw [HHD.out]
            rintro e w5 ⟨rfl, hB⟩
            replace K0 := Aside0.mk (blk_below K0.out hB)
            replace K1 := Aside0.mk (blk_below K1.out hB)
            replace HB := Aside0.mk (below_then HB.out HB.out.size hB)
            clear hB
            have c0 := (blk_cell K0.out 0).trans rfl
            have c1 := (blk_cell K0.out 1).trans rfl
            have c2 := (blk_cell K0.out 2).trans rfl
            have c3 := (blk_cell K0.out 3).trans rfl
            have d0 := (blk_cell K1.out 0).trans rfl
            have d1 := (blk_cell K1.out 1).trans rfl
            have d2 := (blk_cell K1.out 2).trans rfl
            have y0 := blk_frozen K0.out 0
            have y1 := blk_frozen K0.out 1
            have y2 := blk_frozen K0.out 2
            have y3 := blk_frozen K0.out 3
            have z0 := blk_frozen K1.out 0
            have z1 := blk_frozen K1.out 1
            have z2 := blk_frozen K1.out 2
            simp at c0 c1 c2 c3 d0 d1 d2
            go_wp2_with fail
            refine bodyPost_ret (results_list (rs := [.cell 4 37, .tmp 5, .cell 6 29]) rfl (by simp) (.cell w.heap.size 37 _ (0, 0) _ rfl (put_three_far (put_four K0.out _ _ _ _) (by omega) _ _ _) Tryd.underlying37 rfl (by kernel_rfl) (.tmp (.cell (w.heap.size + 1) 29 _ (0, 0) _ rfl (put_three (put_four_far K1.out (by omega) _ _ _ _) _ _ _) Tryd.underlying29 rfl (by kernel_rfl) .nil)))) rfl ?_
            rw [HE.out]
            exact ⟨rfl, ((((((HB.out.setCell (Nat.le_refl _) _).setCell (Nat.le_refl _) _).setCell (Nat.le_refl _) _).setCell (Nat.le_refl _) _).setCell (by show _ ≤ w.heap.size + 1; omega) _).setCell (by show _ ≤ w.heap.size + 1; omega) _).setCell (by show _ ≤ w.heap.size + 1; omega) _⟩
      · have hhd : h = false := by rw [← HH.out, ← HBM.out, List.drop_eq_nil_of_le (by simp; omega)]; rfl
        have HE : Aside0 (r = (2, t, (n : Int), (a : Int), (b : Int), 0, 0, ⟨#[]⟩)) := .mk (by
          rw [HE0.out, HN.out]
          show wordT a (if _ then _ else _) = _
          rw [if_neg (fun h => h.elim HNO.out (fun e => absurd (hhd.symm.trans e) (by decide))), wordT, HTB.out, HBM.out])
        clear hhd
        have hlbI : ¬ (b : Int) < (s.size : Int) := by omega
        rcases HT1 with q1 | ⟨q1, q2⟩
        all_goals
          have c0 := (blk_cell K0.out 0).trans rfl
          have c1 := (blk_cell K0.out 1).trans rfl
          have c2 := (blk_cell K0.out 2).trans rfl
          have c3 := (blk_cell K0.out 3).trans rfl
          have d0 := (blk_cell K1.out 0).trans rfl
          have d1 := (blk_cell K1.out 1).trans rfl
          have d2 := (blk_cell K1.out 2).trans rfl
          have y0 := blk_frozen K0.out 0
          have y1 := blk_frozen K0.out 1
          have y2 := blk_frozen K0.out 2
          have y3 := blk_frozen K0.out 3
          have z0 := blk_frozen K1.out 0
          have z1 := blk_frozen K1.out 1
          have z2 := blk_frozen K1.out 2
          simp at c0 c1 c2 c3 d0 d1 d2
          go_wp2_with fail
          refine bodyPost_ret (results_list (rs := [.cell 4 37, .tmp 5, .cell 6 29]) rfl (by simp) (.cell w.heap.size 37 _ (0, 0) _ rfl (put_three_far (put_four K0.out _ _ _ _) (by omega) _ _ _) Tryd.underlying37 rfl (by kernel_rfl) (.tmp (.cell (w.heap.size + 1) 29 _ (0, 0) _ rfl (put_three (put_four_far K1.out (by omega) _ _ _ _) _ _ _) Tryd.underlying29 rfl (by kernel_rfl) .nil)))) rfl ?_
          rw [HE.out]
          exact ⟨rfl, ((((((HB.out.setCell (Nat.le_refl _) _).setCell (Nat.le_refl _) _).setCell (Nat.le_refl _) _).setCell (Nat.le_refl _) _).setCell (by show _ ≤ w.heap.size + 1; omega) _).setCell (by show _ ≤ w.heap.size + 1; omega) _).setCell (by show _ ≤ w.heap.size + 1; omega) _⟩
end Go.Proofs.YtjmpejbciniceaaDoor.X
