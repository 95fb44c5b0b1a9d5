/- What the laws ask of the program's variables; report.Line, joined, place by their contracts. -/
import Derived.Test.YtamfknhgjkmdfaaDoorPureLines
import Derived.Test.YtamfknhgjkmdfaaDoorShelf
namespace Go.Proofs.YtamfknhgjkmdfaaDoor.X
open Go.RowKit Go.Proofs.YtamfknhgjkmdfaaDoorW.PrintWords Go.Proofs.YtamfknhgjkmdfaaDoorW.PrintLast Go.Proofs.YtamfknhgjkmdfaaDoorW.PrintMore
set_option linter.unusedVariables false
set_option linter.unusedSimpArgs false

/-- The program's error type lies in its variable. -/
def HasErr (w : World) : Prop := w.cell? ⟨0, 0, none⟩ = some (.iface 91 (.agg #[.pointer (some ⟨5, 47, none⟩)]))
/-- The library's variables, as the laws' contracts ask for them. -/
structure Env (w : World) : Prop where
  err : HasErr w
  max : ∃ m, w.cell? ⟨1, 0, none⟩ = some (.int .i64 m)
  tab : Lib.TabIs Tryd.prog w "internal/strconv.uint64pow10" .u64 Lib.pow10Tab
theorem cell_lt {w : World} {b : Nat} {i : Nat} {v : Value} (h : w.cell? ⟨b, i, none⟩ = some v) : b < w.heap.size := by
  rcases Nat.lt_or_ge b w.heap.size with h1 | h1
  · exact h1
  · simp [World.cell?, Array.getElem?_eq_none h1] at h
theorem var_below {w w' : World} (hb : Below w.heap.size w w') {n : String} {cs : Array Value} (h : w.var? Tryd.prog n = some cs) : w'.var? Tryd.prog n = some cs := by
  unfold World.var? at h ⊢
  cases hg : Tryd.prog.globalNamed n with
  | none => simp [hg] at h
  | some g =>
    simp only [hg, Option.bind_some] at h ⊢
    have hlt : g < w.heap.size := by
      rcases Nat.lt_or_ge g w.heap.size with h' | h'
      · exact h'
      · simp [Array.getElem?_eq_none h'] at h
    rw [hb.block g hlt]
    exact h
theorem Env.below {w w' : World} (h : Env w) (hb : Below w.heap.size w w') : Env w' := by
  obtain ⟨m, hm⟩ := h.max
  exact ⟨(hb.cell (p := ⟨0, 0, none⟩) (cell_lt h.err)).trans h.err, ⟨m, (hb.cell (p := ⟨1, 0, none⟩) (cell_lt hm)).trans hm⟩, var_below hb h.tab⟩
theorem below_drewN (w : World) (n : Nat) : Below w.heap.size w (w.drewN n) := ⟨rfl, rfl, rfl, Nat.le_refl _, fun _ _ => rfl⟩
theorem below_grow' (w : World) (k : Nat) (os : Array Obj) : Below w.heap.size w (Sort.grow (w.drewN k) os) :=
  ⟨rfl, rfl, rfl, by simp [Sort.grow, World.drewN], fun j hj => by
    show (w.heap ++ os)[j]? = w.heap[j]?
    rw [Array.getElem?_append_left hj]⟩
theorem itoa_calls (n : Int) (w : World) (h0 : -9223372036854775808 ≤ n) (h1 : n ≤ 9223372036854775807) (hE : Env w) :
    Calls Tryd.prog 22 #[.int .i64 n] w fun e w' => e = .returned (.string ⟨(Lib.itoa n).toArray⟩) ∧ Below w.heap.size w w' := by
  refine (Tryd.strconv_Itoa n h0 h1 w hE.tab).mono ?_
  rintro e w' ⟨rfl, k, os, rfl⟩
  exact ⟨rfl, below_grow' w k os⟩
set_option maxRecDepth 100000 in
set_option maxHeartbeats 3200000 in
theorem line_calls (s : ByteArray) (a : Int) (w : World) (hs : s.size ≤ 4000000000) (hE : Env w) :
    Calls Tryd.prog 12 #[.string s, .int .i64 a] w fun e w' => e = .returned (.string ⟨(lineB s.data.toList (atN a s.size)).toArray⟩) ∧ Below w.heap.size w w' := by
  obtain ⟨m, hm⟩ := hE.max
  go_enter Tryd.func12, Tryd.ntmps12
  go_wp2_with fail
  rw [← atN_eq a s.size]
  simp only [Int.toNat_natCast]
  have hkn := atN_le a s.size
  obtain ⟨k, hk⟩ : ∃ k, k = atN a s.size := ⟨_, rfl⟩
  rw [← hk] at hkn ⊢
  have HK := Aside0.mk hk
  clear hk
  have hsz : (s.extract 0 k).size = k := by rw [ByteArray.size_extract]; omega
  refine (Tryd.strings_LastIndexByte _ 10 (by omega) w).mono ?_
  rintro e w1 ⟨rfl, rfl⟩
  obtain ⟨f, hf, hfk, hfd⟩ := lastIdx_at (s.extract 0 k)
  rw [hsz] at hfk
  rw [extract_take] at hfd
  have hf1 : Lib.lastIndexByte (s.extract 0 k) 10 = (f : Int) - 1 := by omega
  rw [hf1]
  have HL : Aside0 ((s.data.toList.drop f).takeWhile nl = lineB s.data.toList k) := .mk (line_is _ _ _ hfk (by simp; omega) hfd)
  clear hf hfd hf1
  go_wp2_with fail
  refine (Tryd.strings_Cut (s.extract f s.size) ⟨#[10]⟩ m w1 (by rw [ByteArray.size_extract]; omega) hm).mono ?_
  rintro e w2 ⟨rfl, n, rfl⟩
  have HC : (Lib.cut (s.extract f s.size).data.toList (⟨#[10]⟩ : ByteArray).data.toList).1 = lineB s.data.toList k := by
    show (Lib.cut (s.extract f s.size).data.toList [10]).1 = _
    rw [cut_line, extract_list, List.take_of_length_le (by simp)]; exact HL.out
  generalize Lib.cut (s.extract f s.size).data.toList (⟨#[10]⟩ : ByteArray).data.toList = cu at *
  obtain ⟨c1, c2, c3⟩ := cu
  simp only at HC
  rw [HC]
  go_wp2_with fail
  go_ret
  exact ⟨by rw [← HK.out]; rfl, below_drewN _ _⟩
/-- A slice of strings in memory. -/
def StrsAt (b : Nat) (xs : List ByteArray) (w : World) : Prop := b < w.heap.size ∧ ∀ (j : Nat) x, xs[j]? = some x → w.cell? ⟨b, j, none⟩ = some (.string x)
/-- The texts, with blanks between them. -/
def joinB (xs : List (List UInt8)) : List UInt8 := Lib.join xs [32]
theorem joined_calls (b c : Nat) (xs : List ByteArray) (n : Nat) (w : World) (h : StrsAt b xs w) (hn : xs.length = n) (hc : xs.length ≤ c) (hN : xs.length ≤ 140737488355328) (hl : (joinB (xs.map fun x => x.data.toList)).length ≤ 140737488355328) :
    Calls Tryd.prog 17 #[.slice (some ⟨b, 0, none⟩) n c] w fun e w' => e = .returned (.string ⟨(joinB (xs.map fun x => x.data.toList)).toArray⟩) ∧ Below w.heap.size w w' := by
  subst hn
  have hj := Tryd.strings_Join b 0 c xs ⟨#[32]⟩ w (fun j x hx => by rw [Nat.zero_add]; exact h.2 j x hx) h.1 hN hc hl
  go_enter Tryd.func17, Tryd.ntmps17
  go_wp2_with fail
  refine hj.mono ?_
  rintro e w' ⟨rfl, hb⟩
  clear hj
  go_wp2_with fail
  go_ret
  exact ⟨rfl, hb⟩
theorem strs_new {w : World} {b : Nat} {xs : List ByteArray} {C : Array Value} (h : w.heap[b]? = some (.cells C 9 (0, 0))) (hC : C = (xs.map Value.string).toArray) : StrsAt b xs w := by
  subst hC
  refine ⟨blk_lt h, fun j x hx => (blk_cell h j).trans ?_⟩
  simp [hx]
theorem dec_len : ∀ (k u : Nat), u < 10 ^ (k + 1) → (Lib.decDigits u).length ≤ k + 1 := by
  intro k
  induction k with
  | zero => intro u h; rw [Lib.decDigits, dif_pos (by simpa using h)]; simp
  | succ k ih =>
    intro u h
    rw [Lib.decDigits]
    split
    · simp
    · have := ih (u / 10) (by rw [Nat.div_lt_iff_lt_mul (by decide)]; rw [Nat.pow_succ] at h; exact h)
      simp; omega
theorem itoa_len (n : Int) (h0 : -9223372036854775808 ≤ n) (h1 : n ≤ 9223372036854775807) : (Lib.itoa n).length ≤ 20 := by
  have h : ∀ u : Nat, u < 10 ^ 19 → (Lib.decDigits u).length ≤ 19 := fun u hu => dec_len 18 u hu
  unfold Lib.itoa
  split
  · have := h n.natAbs (by omega); simp; omega
  · have := h n.toNat (by omega); omega
/-- A place as a text. -/
def placeB (l : List UInt8) (k : Nat) : List UInt8 := Lib.itoa ((whereP (l.take k)).1 : Int) ++ 58 :: Lib.itoa ((whereP (l.take k)).2 : Int)
theorem bytes_app (a b : List UInt8) : (⟨a.toArray⟩ : ByteArray) ++ (⟨b.toArray⟩ : ByteArray) = ⟨(a ++ b).toArray⟩ := by
  apply ByteArray.ext
  simp [ByteArray.data_append]
set_option maxRecDepth 100000 in
set_option maxHeartbeats 3200000 in
theorem place_calls (s : ByteArray) (a : Int) (w : World) (hs : s.size ≤ 4000000000) (hE : Env w) :
    Calls Tryd.prog 18 #[.string s, .int .i64 a] w fun e w' => e = .returned (.string ⟨(placeB s.data.toList (atN a s.size)).toArray⟩) ∧ Below w.heap.size w w' := by
  go_enter Tryd.func18, Tryd.ntmps18
  go_wp2_with fail
  refine (where_calls s a w (by omega)).mono ?_
  rintro e w1 ⟨rfl, hB⟩
  have hp := whereP_le (s.data.toList.take (atN a s.size))
  have hl : (s.data.toList.take (atN a s.size)).length ≤ s.size := by simp; omega
  have HP : Aside0 (placeB s.data.toList (atN a s.size) = Lib.itoa ((whereP (s.data.toList.take (atN a s.size))).1 : Int) ++ 58 :: Lib.itoa ((whereP (s.data.toList.take (atN a s.size))).2 : Int)) := .mk rfl
  generalize whereP (s.data.toList.take (atN a s.size)) = p at *
  obtain ⟨l, c⟩ := p
  simp only at hp HP
  have HL0 := Aside0.mk (itoa_len (l : Int) (by omega) (by omega))
  have HL1 := Aside0.mk (itoa_len (c : Int) (by omega) (by omega))
  go_wp2_with fail
  have K1 := Aside0.mk (heap_alloc_new w1 (.cells #[.int .i64 (l : Int), .int .i64 (c : Int)] 39))
  have hB1 : Below w1.heap.size w1 (w1.alloc (.cells #[.int .i64 (l : Int), .int .i64 (c : Int)] 39)) := (Below.refl _ _).alloc (Nat.le_refl _) _
  have HB1 := Aside0.mk (below_then hB hB.size hB1)
  have HE := Aside0.mk ((hE.below hB).below hB1)
  clear hB hB1 hE
  generalize w1.alloc (.cells #[.int .i64 (l : Int), .int .i64 (c : Int)] 39) = w2 at *
  generalize w1.heap.size = g at *
  refine wp_region_held_drew (S := fun w' => w'.cell? ⟨g, 0, none⟩ = some (.int .i64 (l : Int)) ∧ w'.cell? ⟨g, 1, none⟩ = some (.int .i64 (c : Int))) (by kernel_rfl) ⟨bcl K1.out, bcl K1.out⟩ (fun hHeld => ?_)
  have hD := (Below.refl w2.heap.size w2).drew
  replace HE := Aside0.mk (HE.out.below hD)
  replace HB1 := Aside0.mk (below_then HB1.out HB1.out.size hD)
  clear hD
  generalize w2.drew = w3 at *
  refine tK 9 0 hHeld ?_
  refine tK 10 1 hHeld ?_
  refine tK 13 4 hHeld ?_
  refine tK 14 5 hHeld ?_
  refine cK 11 2 (itoa_calls (l : Int) w3 (by omega) (by omega) HE.out) ?_
  rintro e w4 ⟨rfl, hB⟩
  refine ⟨_, rfl, ⟨pwc hB hHeld.1, pwc hB hHeld.2⟩, fun hHeld => nA ?_⟩
  replace HE := Aside0.mk (HE.out.below hB)
  replace HB1 := Aside0.mk (below_then HB1.out HB1.out.size hB)
  clear hB
  have q0 : ¬ (9223372036854775807 < (Lib.itoa (l : Int)).length + 1) := by have := HL0.out; omega
  refine tK 12 3 hHeld ?_
  clear q0
  refine cK 15 6 (itoa_calls (c : Int) w4 (by omega) (by omega) HE.out) ?_
  rintro e w5 ⟨rfl, hB⟩
  refine ⟨_, rfl, ⟨pwc hB hHeld.1, pwc hB hHeld.2⟩, fun hHeld => nA ?_⟩
  replace HB1 := Aside0.mk (below_then HB1.out HB1.out.size hB)
  clear hB
  have q0 : ¬ (9223372036854775807 < (Lib.itoa (l : Int)).length + 1 + (Lib.itoa (c : Int)).length) := by have := HL0.out; have := HL1.out; omega
  refine tK 16 7 hHeld ?_
  clear q0
  refine tK 4 8 hHeld ?_
  refine wpAnyH_done (by kernel_rfl) ?_ _
  go_wp2_with fail
  go_ret
  refine ⟨?_, HB1.out⟩
  rw [HP.out]
  show Ending.returned (.string _) = _
  rw [show ((⟨#[58]⟩ : ByteArray)) = ⟨[58].toArray⟩ from rfl, bytes_app, bytes_app]
  simp
end Go.Proofs.YtamfknhgjkmdfaaDoor.X
