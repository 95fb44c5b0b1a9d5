/- report.Where by its contract: line and column of a place. -/
import Derived.Test.YtamfknhgjkmdfaaDoorHBase
namespace Go.Proofs.YtamfknhgjkmdfaaDoor.X
open Go.RowKit Go.Proofs.YtamfknhgjkmdfaaDoorW.PrintWords Go.Proofs.YtamfknhgjkmdfaaDoorW.PrintLast Go.Proofs.YtamfknhgjkmdfaaDoorW.PrintMore
set_option linter.unusedVariables false
set_option linter.unusedSimpArgs false

/-- One byte further. -/
def stepW (p : Nat × Nat) (c : UInt8) : Nat × Nat := if c = 10 then (p.1 + 1, 1) else (p.1, p.2 + 1)
/-- Line and column behind these bytes. -/
def whereP (l : List UInt8) : Nat × Nat := l.foldl stepW (1, 1)
theorem whereP_snoc (l : List UInt8) (c : UInt8) : whereP (l ++ [c]) = stepW (whereP l) c := by simp [whereP]
theorem stepW_le (p : Nat × Nat) (c : UInt8) : (stepW p c).1 ≤ p.1 + 1 ∧ (stepW p c).2 ≤ max 1 (p.2 + 1) ∧ p.1 ≤ (stepW p c).1 ∧ 1 ≤ (stepW p c).2 := by unfold stepW; split <;> simp <;> omega
theorem foldW_le (l : List UInt8) (p : Nat × Nat) (h : 1 ≤ p.2) : (l.foldl stepW p).1 ≤ p.1 + l.length ∧ (l.foldl stepW p).2 ≤ p.2 + l.length ∧ p.1 ≤ (l.foldl stepW p).1 ∧ 1 ≤ (l.foldl stepW p).2 := by
  induction l generalizing p with
  | nil => simp; omega
  | cons c l ih =>
    have h1 := stepW_le p c
    have h2 := ih (stepW p c) h1.2.2.2
    simp only [List.foldl_cons, List.length_cons]
    omega
theorem whereP_le (l : List UInt8) : (whereP l).1 ≤ l.length + 1 ∧ (whereP l).2 ≤ l.length + 1 ∧ 1 ≤ (whereP l).1 ∧ 1 ≤ (whereP l).2 := by
  have := foldW_le l (1, 1) (by decide)
  unfold whereP
  omega
/-- A place of a text, within its bounds. -/
def atN (a : Int) (n : Nat) : Nat := (max 0 (min a (n : Int))).toNat
theorem atN_le (a : Int) (n : Nat) : atN a n ≤ n := by unfold atN; omega
theorem atN_eq (a : Int) (n : Nat) : ((atN a n : Nat) : Int) = max 0 (min a (n : Int)) := by unfold atN; omega

set_option maxRecDepth 100000 in
set_option maxHeartbeats 3200000 in
theorem where_calls (s : ByteArray) (a : Int) (w : World) (hs : s.size ≤ 140737488355328) :
    Calls Tryd.prog 11 #[.string s, .int .i64 a] w fun e w' => e = .returned (.agg #[.int .i64 (whereP (s.data.toList.take (atN a s.size))).1, .int .i64 (whereP (s.data.toList.take (atN a s.size))).2]) ∧ Below w.heap.size w w' := by
  have hcv : ∀ (W : World) (t : ByteArray), (convert 9 59 (.string t)).run Tryd.prog W = .ok (.slice (some ⟨W.heap.size, 0, none⟩) t.size (grownCap W t.size 0 5)) (Lib.bytesWorld W 5 t) := fun W t => Lib.run_convert_string_bytes W 9 59 5 t Tryd.underlying9 Tryd.underlying59 Tryd.underlying5
  have K0 := Aside0.mk (blk_alloc (heap_alloc_new w (.cells #[.int .i64 0, .int .i64 0] 39)) (.cells #[.int .i64 1, .int .i64 1] 39))
  have K1 := Aside0.mk (rnew2 w (.cells #[.int .i64 0, .int .i64 0] 39) #[.int .i64 1, .int .i64 1] 39)
  have HB := Aside0.mk (rbelow2 w #[.int .i64 0, .int .i64 0] #[.int .i64 1, .int .i64 1] 39 39)
  have HSZ : Aside0 (((w.alloc (.cells #[.int .i64 0, .int .i64 0] 39)).alloc (.cells #[.int .i64 1, .int .i64 1] 39)).heap.size = w.heap.size + 1 + 1) := .mk (by simp)
  go_enter Tryd.func11, Tryd.ntmps11
  go_wp2_with fail
  all_goals generalize ((w.alloc (.cells #[.int .i64 0, .int .i64 0] 39)).alloc (.cells #[.int .i64 1, .int .i64 1] 39)) = w1 at *
  all_goals clear hcv
  · have hEq : s.data.toList = s.data.toList.take (atN a s.size) := by
      have : atN a s.size = s.size := by unfold atN; omega
      rw [this, List.take_of_length_le (by simp)]
    have hN : s.size = s.size := rfl
    have htl : Aside0 (s.data.toList = s.data.toList.take (atN a s.size)) := .mk hEq
    clear hEq
    have htn : Aside0 (s.data.toList.length = s.size) := .mk (by rw [← hN]; simp)
    have htz : s.size ≤ 140737488355328 := by first | exact hs | omega
    have hB2 := bytes_below w1 s
    have HC : Aside0 (∀ j, j < s.size → (Lib.bytesWorld w1 5 s).cell? ⟨w.heap.size + 1 + 1, j, none⟩ = some (.int .u8 ((s.data.toList.getD j 0).toNat : Int))) := .mk (fun j hj => by rw [← HSZ.out]; exact Lib.bytesWorld_cell w1 5 s j (by rw [hN]; exact hj))
    replace K0 := Aside0.mk (blk_below K0.out hB2)
    replace K1 := Aside0.mk (blk_below K1.out hB2)
    have hB3 := below_then HB.out HB.out.size hB2
    replace HB := Aside0.mk hB3
    have HZ2 : Aside0 ((Lib.bytesWorld w1 5 s).heap.size = w.heap.size + 1 + 1 + 1) := .mk (by rw [Lib.bytesWorld_size, HSZ.out])
    clear hB2 hB3 HSZ hN
    generalize Lib.bytesWorld w1 5 s = w2 at *
    generalize grownCap w1 s.size 0 5 = cap
    go_loopw [18] (fun i wr => ∃ j : Nat, i = .int .i64 j ∧ j ≤ s.size ∧ wr.heap[w.heap.size]? = some (.cells #[.int .i64 0, .int .i64 0] 39 (0, 0)) ∧ wr.heap[w.heap.size + 1]? = some (.cells #[.int .i64 (whereP (s.data.toList.take j)).1, .int .i64 (whereP (s.data.toList.take j)).2] 39 (0, 0)) ∧ (∀ j, j < s.size → wr.cell? ⟨w.heap.size + 1 + 1, j, none⟩ = some (.int .u8 ((s.data.toList.getD j 0).toNat : Int))) ∧ Below w.heap.size w wr) (fun i _ => s.size - (intOf i).toNat)
    case atStart => exact ⟨0, rfl, Nat.zero_le _, K0.out, K1.out, HC.out, HB.out⟩
    case round =>
      obtain ⟨j, rfl, hj, k0, k1, hc, hb⟩ := hrel
      clear HB K0 K1 HC HZ2
      have HC := Aside0.mk hc
      have HB := Aside0.mk hb
      have K0 := Aside0.mk k0
      have K1 := Aside0.mk k1
      clear hc hb k0 k1
      by_cases hlt : j < s.size
      · have HT : Aside0 (whereP (s.data.toList.take (j + 1)) = stepW (whereP (s.data.toList.take j)) (s.data.toList.getD j 0)) := .mk (by
          rw [← whereP_snoc, List.take_add_one, List.getD_eq_getElem?_getD, List.getElem?_eq_getElem (by rw [htn.out]; exact hlt)]; rfl)
        have hx := HC.out j hlt
        have HL := whereP_le (s.data.toList.take j)
        have hl2 : (s.data.toList.take j).length ≤ j := by simp; omega
        generalize s.data.toList.getD j 0 = x at *
        generalize whereP (s.data.toList.take j) = p at *
        obtain ⟨l, c⟩ := p
        obtain ⟨c0, c1, z0, z1⟩ := cells2 K1.out
        simp only at HL c0 c1
        go_wp2_with fail
        · refine ⟨⟨j + 1, by first | rfl | simp, by omega, blk_putf (blk_putf (blk_putf K0.out (by show w.heap.size ≠ w.heap.size + 1; omega)) (by show w.heap.size ≠ w.heap.size + 1; omega)) (by show w.heap.size ≠ w.heap.size + 1; omega), ?_, fun k hk => set_far (set_far (set_far (HC.out k hk) (by show w.heap.size + 1 ≠ _; omega)) (by show w.heap.size + 1 ≠ _; omega)) (by show w.heap.size + 1 ≠ _; omega), ((HB.out.setCell (by show w.heap.size ≤ w.heap.size + 1; omega) _).setCell (by show w.heap.size ≤ w.heap.size + 1; omega) _).setCell (by show w.heap.size ≤ w.heap.size + 1; omega) _⟩, by first | (simp [intOf]; done) | (simp [intOf]; omega)⟩
          have hx10 : x = 10 := by
            rename_i hxx
            have : (x.toNat : Int) = 10 := by simpa using hxx
            exact UInt8.toNat_inj.1 (by simpa using (show x.toNat = 10 by omega))
          rw [HT.out, stepW, if_pos hx10]
          exact blk_put (blk_put (blk_put K1.out 1 _ rfl) 0 _ rfl) 1 _ (by simp)
        · refine ⟨⟨j + 1, by first | rfl | simp, by omega, blk_putf K0.out (by show w.heap.size ≠ w.heap.size + 1; omega), ?_, fun k hk => set_far (HC.out k hk) (by show w.heap.size + 1 ≠ _; omega), HB.out.setCell (by show w.heap.size ≤ w.heap.size + 1; omega) _⟩, by first | (simp [intOf]; done) | (simp [intOf]; omega)⟩
          have hx10 : x ≠ 10 := by
            rename_i hxx
            rintro rfl
            exact absurd hxx (by decide)
          rw [HT.out, stepW, if_neg hx10]
          exact blk_put K1.out 1 _ (by simp)
      · have HD := Aside0.mk (show j = s.size by omega)
        obtain ⟨c0, c1, z0, z1⟩ := cells2 K1.out
        obtain ⟨d0, d1, y0, y1⟩ := cells2 K0.out
        go_wp2_with fail
        have h2 : Aside0 (whereP (s.data.toList.take (atN a s.size)) = whereP (s.data.toList.take j)) := .mk (by rw [← htl.out, HD.out, List.take_of_length_le (by rw [htn.out]; exact Nat.le_refl _)])
        rw [h2.out]
        refine bodyPost_ret (results_cell_row rfl _ _ w.heap.size 39 _ (0, 0) _ rfl (put_two K0.out _ _) Tryd.underlying39 rfl (by kernel_rfl)) rfl ?_
        exact ⟨by first | rfl | simp, (HB.out.setCell (Nat.le_refl _) _).setCell (Nat.le_refl _) _⟩
  · have hEq : s.data.toList.take (atN a s.size) = [] := by
      have : atN a s.size = 0 := by unfold atN; omega
      rw [this]; rfl
    have HE := Aside0.mk hEq
    have hB2 := bytes_below w1 (ByteArray.empty : ByteArray)
    replace K0 := Aside0.mk (blk_below K0.out hB2)
    replace K1 := Aside0.mk (blk_below K1.out hB2)
    have hB3 := below_then HB.out HB.out.size hB2
    replace HB := Aside0.mk hB3
    clear hB2 hB3 HSZ hEq
    generalize Lib.bytesWorld w1 5 (ByteArray.empty : ByteArray) = w2 at *
    obtain ⟨c0, c1, z0, z1⟩ := cells2 K1.out
    obtain ⟨d0, d1, y0, y1⟩ := cells2 K0.out
    refine wp_loop_rounds 1 ?_
    rw [rounds_succ]
    go_wp2_with fail
    refine bodyPost_ret (results_cell_row rfl _ _ w.heap.size 39 _ (0, 0) _ rfl (put_two K0.out _ _) Tryd.underlying39 rfl (by kernel_rfl)) rfl ?_
    rw [HE.out]
    exact ⟨by first | rfl | simp, (HB.out.setCell (Nat.le_refl _) _).setCell (Nat.le_refl _) _⟩
  · obtain ⟨m, rfl⟩ : ∃ m : Nat, a = m := ⟨a.toNat, by omega⟩
    have hm : max (m : Int) 0 = m := by omega
    rw [hm]
    have hEq : (s.extract 0 m).data.toList = s.data.toList.take (atN m s.size) := by
      have : atN (m : Int) s.size = m := by unfold atN; omega
      rw [this, extract_take]
    have hN : (s.extract 0 m).size = m := by rw [ByteArray.size_extract]; omega
    simp only [Int.toNat_natCast]
    have htl : Aside0 ((s.extract 0 m).data.toList = s.data.toList.take (atN (m : Int) s.size)) := .mk hEq
    clear hEq
    have htn : Aside0 ((s.extract 0 m).data.toList.length = m) := .mk (by rw [← hN]; simp)
    have htz : m ≤ 140737488355328 := by first | exact hs | omega
    have hB2 := bytes_below w1 (s.extract 0 m)
    have HC : Aside0 (∀ j, j < m → (Lib.bytesWorld w1 5 (s.extract 0 m)).cell? ⟨w.heap.size + 1 + 1, j, none⟩ = some (.int .u8 (((s.extract 0 m).data.toList.getD j 0).toNat : Int))) := .mk (fun j hj => by rw [← HSZ.out]; exact Lib.bytesWorld_cell w1 5 (s.extract 0 m) j (by rw [hN]; exact hj))
    replace K0 := Aside0.mk (blk_below K0.out hB2)
    replace K1 := Aside0.mk (blk_below K1.out hB2)
    have hB3 := below_then HB.out HB.out.size hB2
    replace HB := Aside0.mk hB3
    have HZ2 : Aside0 ((Lib.bytesWorld w1 5 (s.extract 0 m)).heap.size = w.heap.size + 1 + 1 + 1) := .mk (by rw [Lib.bytesWorld_size, HSZ.out])
    clear hB2 hB3 HSZ hN
    generalize Lib.bytesWorld w1 5 (s.extract 0 m) = w2 at *
    generalize grownCap w1 m 0 5 = cap
    go_loopw [18] (fun i wr => ∃ j : Nat, i = .int .i64 j ∧ j ≤ m ∧ wr.heap[w.heap.size]? = some (.cells #[.int .i64 0, .int .i64 0] 39 (0, 0)) ∧ wr.heap[w.heap.size + 1]? = some (.cells #[.int .i64 (whereP ((s.extract 0 m).data.toList.take j)).1, .int .i64 (whereP ((s.extract 0 m).data.toList.take j)).2] 39 (0, 0)) ∧ (∀ j, j < m → wr.cell? ⟨w.heap.size + 1 + 1, j, none⟩ = some (.int .u8 (((s.extract 0 m).data.toList.getD j 0).toNat : Int))) ∧ Below w.heap.size w wr) (fun i _ => m - (intOf i).toNat)
    case atStart => exact ⟨0, rfl, Nat.zero_le _, K0.out, K1.out, HC.out, HB.out⟩
    case round =>
      obtain ⟨j, rfl, hj, k0, k1, hc, hb⟩ := hrel
      clear HB K0 K1 HC HZ2
      have HC := Aside0.mk hc
      have HB := Aside0.mk hb
      have K0 := Aside0.mk k0
      have K1 := Aside0.mk k1
      clear hc hb k0 k1
      by_cases hlt : j < m
      · have HT : Aside0 (whereP ((s.extract 0 m).data.toList.take (j + 1)) = stepW (whereP ((s.extract 0 m).data.toList.take j)) ((s.extract 0 m).data.toList.getD j 0)) := .mk (by
          rw [← whereP_snoc, List.take_add_one, List.getD_eq_getElem?_getD, List.getElem?_eq_getElem (by rw [htn.out]; exact hlt)]; rfl)
        have hx := HC.out j hlt
        have HL := whereP_le ((s.extract 0 m).data.toList.take j)
        have hl2 : ((s.extract 0 m).data.toList.take j).length ≤ j := by simp; omega
        generalize (s.extract 0 m).data.toList.getD j 0 = x at *
        generalize whereP ((s.extract 0 m).data.toList.take j) = p at *
        obtain ⟨l, c⟩ := p
        obtain ⟨c0, c1, z0, z1⟩ := cells2 K1.out
        simp only at HL c0 c1
        go_wp2_with fail
        · refine ⟨⟨j + 1, by first | rfl | simp, by omega, blk_putf (blk_putf (blk_putf K0.out (by show w.heap.size ≠ w.heap.size + 1; omega)) (by show w.heap.size ≠ w.heap.size + 1; omega)) (by show w.heap.size ≠ w.heap.size + 1; omega), ?_, fun k hk => set_far (set_far (set_far (HC.out k hk) (by show w.heap.size + 1 ≠ _; omega)) (by show w.heap.size + 1 ≠ _; omega)) (by show w.heap.size + 1 ≠ _; omega), ((HB.out.setCell (by show w.heap.size ≤ w.heap.size + 1; omega) _).setCell (by show w.heap.size ≤ w.heap.size + 1; omega) _).setCell (by show w.heap.size ≤ w.heap.size + 1; omega) _⟩, by first | (simp [intOf]; done) | (simp [intOf]; omega)⟩
          have hx10 : x = 10 := by
            rename_i hxx
            have : (x.toNat : Int) = 10 := by simpa using hxx
            exact UInt8.toNat_inj.1 (by simpa using (show x.toNat = 10 by omega))
          rw [HT.out, stepW, if_pos hx10]
          exact blk_put (blk_put (blk_put K1.out 1 _ rfl) 0 _ rfl) 1 _ (by simp)
        · refine ⟨⟨j + 1, by first | rfl | simp, by omega, blk_putf K0.out (by show w.heap.size ≠ w.heap.size + 1; omega), ?_, fun k hk => set_far (HC.out k hk) (by show w.heap.size + 1 ≠ _; omega), HB.out.setCell (by show w.heap.size ≤ w.heap.size + 1; omega) _⟩, by first | (simp [intOf]; done) | (simp [intOf]; omega)⟩
          have hx10 : x ≠ 10 := by
            rename_i hxx
            rintro rfl
            exact absurd hxx (by decide)
          rw [HT.out, stepW, if_neg hx10]
          exact blk_put K1.out 1 _ (by simp)
      · have HD := Aside0.mk (show j = m by omega)
        obtain ⟨c0, c1, z0, z1⟩ := cells2 K1.out
        obtain ⟨d0, d1, y0, y1⟩ := cells2 K0.out
        go_wp2_with fail
        have h2 : Aside0 (whereP (s.data.toList.take (atN (m : Int) s.size)) = whereP ((s.extract 0 m).data.toList.take j)) := .mk (by rw [← htl.out, HD.out, List.take_of_length_le (by rw [htn.out]; exact Nat.le_refl _)])
        rw [h2.out]
        refine bodyPost_ret (results_cell_row rfl _ _ w.heap.size 39 _ (0, 0) _ rfl (put_two K0.out _ _) Tryd.underlying39 rfl (by kernel_rfl)) rfl ?_
        exact ⟨by first | rfl | simp, (HB.out.setCell (Nat.le_refl _) _).setCell (Nat.le_refl _) _⟩
  · have hEq : s.data.toList.take (atN a s.size) = [] := by
      have : atN a s.size = 0 := by unfold atN; omega
      rw [this]; rfl
    have HE := Aside0.mk hEq
    have hB2 := bytes_below w1 (ByteArray.empty : ByteArray)
    replace K0 := Aside0.mk (blk_below K0.out hB2)
    replace K1 := Aside0.mk (blk_below K1.out hB2)
    have hB3 := below_then HB.out HB.out.size hB2
    replace HB := Aside0.mk hB3
    clear hB2 hB3 HSZ hEq
    generalize Lib.bytesWorld w1 5 (ByteArray.empty : ByteArray) = w2 at *
    obtain ⟨c0, c1, z0, z1⟩ := cells2 K1.out
    obtain ⟨d0, d1, y0, y1⟩ := cells2 K0.out
    refine wp_loop_rounds 1 ?_
    rw [rounds_succ]
    go_wp2_with fail
    refine bodyPost_ret (results_cell_row rfl _ _ w.heap.size 39 _ (0, 0) _ rfl (put_two K0.out _ _) Tryd.underlying39 rfl (by kernel_rfl)) rfl ?_
    rw [HE.out]
    exact ⟨by first | rfl | simp, (HB.out.setCell (Nat.le_refl _) _).setCell (Nat.le_refl _) _⟩
end Go.Proofs.YtamfknhgjkmdfaaDoor.X
