/- report.Fault by its contract, at an error in which errors.As finds a fault. -/
import Derived.Test.YtamfknhgjkmdfaaDoorHQuoted
import Derived.Test.YtamfknhgjkmdfaaDoorHErr
namespace Go.Proofs.YtamfknhgjkmdfaaDoor.X
open Go.RowKit Go.Proofs.YtamfknhgjkmdfaaDoorW.PrintWords Go.Proofs.YtamfknhgjkmdfaaDoorW.PrintLast Go.Proofs.YtamfknhgjkmdfaaDoorW.PrintMore
set_option linter.unusedVariables false
set_option linter.unusedSimpArgs false
/-- errors.As finds this in an error, and lays it down. -/
def AsTo (e v : Value) (w : World) : Prop := ∀ t old, w.cell? t = some old → w.frozen? t = false →
  Calls Tryd.prog 16 #[e, .iface 52 (.pointer (some t))] w fun ev w' => ev = .returned (.bool true) ∧ ∃ w1, Below w.heap.size w w1 ∧ w' = w1.setCell t v
/-- A fault as it is told. -/
def faultB (l : List UInt8) (code : Int) (k : Nat) (word : List UInt8) : List UInt8 :=
  if word = [] then joinB [placeB l k ++ [58], wordsB code] else joinB [placeB l k ++ [58], wordsB code, quotedB word]
theorem joinB2 (a b : List UInt8) : joinB [a, b] = a ++ 32 :: b := by simp [joinB, Lib.join, List.intercalate]
theorem joinB3 (a b c : List UInt8) : joinB [a, b, c] = a ++ 32 :: (b ++ 32 :: c) := by simp [joinB, Lib.join, List.intercalate]
theorem place_len (l : List UInt8) (k : Nat) (h : l.length ≤ 4000000000) : (placeB l k).length ≤ 41 := by
  have hp := whereP_le (l.take k)
  have hl : (l.take k).length ≤ l.length := by simp; omega
  have h1 := itoa_len ((whereP (l.take k)).1 : Int) (by omega) (by omega)
  have h2 := itoa_len ((whereP (l.take k)).2 : Int) (by omega) (by omega)
  unfold placeB
  rw [List.length_append, List.length_cons]
  omega
theorem ite_len {c : Prop} [Decidable c] {a b : List UInt8} {n : Nat} (ha : a.length ≤ n) (hb : b.length ≤ n) : (if c then a else b).length ≤ n := by split <;> assumption
theorem words_len (e : Int) (h0 : -9223372036854775808 ≤ e) (h1 : e ≤ 9223372036854775807) : (wordsB e).length ≤ 60 := by
  have := itoa_len e h0 h1
  unfold wordsB
  refine ite_len (by decide) ?_
  refine ite_len (by decide) ?_
  refine ite_len (by decide) ?_
  refine ite_len (by decide) ?_
  refine ite_len (by decide) ?_
  refine ite_len (by decide) ?_
  refine ite_len (by decide) ?_
  refine ite_len (by decide) ?_
  refine ite_len (by decide) ?_
  refine ite_len (by decide) ?_
  refine ite_len (by decide) ?_
  refine ite_len (by decide) ?_
  refine ite_len (by decide) ?_
  refine ite_len (by decide) ?_
  refine ite_len (by decide) ?_
  refine ite_len (by decide) ?_
  refine ite_len (by decide) ?_
  unfold errB
  rw [List.length_append]
  simp only [List.length_cons, List.length_nil]
  omega
theorem quoted_len (l : List UInt8) : (quotedB l).length ≤ 2 + 4 * l.length := by
  have := quote_len l l.length (Nat.le_refl _)
  unfold quotedB
  rw [List.length_append] at *
  simp only [List.length_append, List.length_cons, List.length_nil] at *
  omega
set_option maxRecDepth 100000 in
theorem fault_nil (s : ByteArray) (w : World) : Calls Tryd.prog 6 #[.string s, .nilIface] w fun e w' => e = .returned (.string ⟨#[]⟩) ∧ Below w.heap.size w w' := by
  have he : ∀ W : World, (binOp .eql 47 .nilIface .nilIface).run Tryd.prog W = .ok (.bool true) W := fun W => run_eql_nil_nil W 47 (by kernel_rfl)
  go_enter Tryd.func6, Tryd.ntmps6
  go_wp2_with fail
  go_ret
  exact ⟨rfl, Below.refl _ _⟩
set_option maxRecDepth 100000 in
set_option maxHeartbeats 3200000 in
theorem fault_at (s word : ByteArray) (T : TypeId) (x : Value) (q : Nat) (code at_ : Int) (w : World) (hs : s.size ≤ 4000000000) (hwd : word.size ≤ 4000000000) (h0 : -9223372036854775808 ≤ code) (h1 : code ≤ 9223372036854775807) (hE : Env w)
    (hA : ∀ w', Below w.heap.size w w' → AsTo (.iface T x) (.pointer (some ⟨q, 0, none⟩)) w')
    (hq : w.heap[q]? = some (.cells #[.int .i64 code, .int .i64 at_, .string word] 36 (0, 0))) :
    Calls Tryd.prog 6 #[.string s, .iface T x] w fun en w' => en = .returned (.string ⟨(faultB s.data.toList code (atN at_ s.size) word.data.toList).toArray⟩) ∧ Below w.heap.size w w' := by
  have he : ∀ W : World, (binOp .eql 47 (.iface T x) .nilIface).run Tryd.prog W = .ok (.bool false) W := fun W => run_eql_held_nil W 47 T _ (by kernel_rfl)
  have hB0 := rbelow2 w #[.pointer none] #[.int .i64 0] 34 22
  have HB := Aside0.mk hB0
  have K0 := Aside0.mk (blk_alloc (heap_alloc_new w (.cells #[.pointer none] 34)) (.cells #[.int .i64 0] 22))
  have KQ := Aside0.mk (blk_below hq hB0)
  have HA := Aside0.mk (hA _ hB0)
  have hql := blk_lt hq
  clear hB0 hq hA
  go_enter Tryd.func6, Tryd.ntmps6
  go_wp2_with fail
  generalize ((w.alloc (.cells #[.pointer none] 34)).alloc (.cells #[.int .i64 0] 22)) = wa at *
  refine (HA.out ⟨w.heap.size, 0, none⟩ (.pointer none) (bcl K0.out) (blk_frozen K0.out 0)).mono ?_
  rintro en w1 ⟨rfl, wx, hbx, rfl⟩
  have k0 : (wx.setCell ⟨w.heap.size, 0, none⟩ (.pointer (some ⟨q, 0, none⟩))).heap[w.heap.size]? = some (.cells #[.pointer (some ⟨q, 0, none⟩)] 34 (0, 0)) := blk_put (cs := #[.pointer none]) (blk_below K0.out hbx) 0 _ rfl
  have kq := blk_putf (p := ⟨w.heap.size, 0, none⟩) (u := .pointer (some ⟨q, 0, none⟩)) (blk_below KQ.out hbx) (show q ≠ w.heap.size by omega)
  have hb1 := (below_then HB.out HB.out.size hbx).setCell (p := ⟨w.heap.size, 0, none⟩) (Nat.le_refl _) (.pointer (some ⟨q, 0, none⟩))
  have he1 : Env (wx.setCell ⟨w.heap.size, 0, none⟩ (.pointer (some ⟨q, 0, none⟩))) := hE.below hb1
  replace K0 := Aside0.mk k0
  replace KQ := Aside0.mk kq
  replace HB := Aside0.mk hb1
  have HE := Aside0.mk he1
  clear k0 kq hb1 he1 hbx HA hE
  generalize wx.setCell ⟨w.heap.size, 0, none⟩ (.pointer (some ⟨q, 0, none⟩)) = w1 at *
  have c0 : w1.cell? ⟨w.heap.size, 0, none⟩ = some (.pointer (some ⟨q, 0, none⟩)) := bcl K0.out
  have d0 : w1.cell? ⟨q, 0, none⟩ = some (.int .i64 code) := bcl KQ.out
  have d1 : w1.cell? ⟨q, 1, none⟩ = some (.int .i64 at_) := bcl KQ.out
  have d2 : w1.cell? ⟨q, 2, none⟩ = some (.string word) := bcl KQ.out
  go_wp2_with fail
  · have hwn : word.data.toList ≠ [] := by
      have hh0 : (!word.toList.isEmpty) = true := by assumption
      rw [ByteArray.toList_eq] at hh0
      intro hz
      rw [hz] at hh0
      exact absurd hh0 (by decide)
    have HF : Aside0 (faultB s.data.toList code (atN at_ s.size) word.data.toList = joinB [placeB s.data.toList (atN at_ s.size) ++ [58], wordsB code, quotedB word.data.toList]) := .mk (if_neg hwn)
    have hL1 := place_len s.data.toList (atN at_ s.size) (by simp; omega)
    have hL2 := words_len code h0 h1
    have hL3 := quoted_len word.data.toList
    have hL4 : word.data.toList.length = word.size := by simp
    have q0 : ¬ (9223372036854775807 < (placeB s.data.toList (atN at_ s.size)).length + 1) := by omega
    refine wp_region_held_drew (S := fun w' => w'.cell? ⟨w.heap.size, 0, none⟩ = some (.pointer (some ⟨q, 0, none⟩)) ∧ w'.cell? ⟨q, 0, none⟩ = some (.int .i64 code) ∧ w'.cell? ⟨q, 1, none⟩ = some (.int .i64 at_) ∧ w'.cell? ⟨q, 2, none⟩ = some (.string word)) (by kernel_rfl) ⟨c0, d0, d1, d2⟩ (fun hHeld => ?_)
    have hD := (Below.refl w1.heap.size w1).drew
    replace HE := Aside0.mk (HE.out.below hD)
    replace HB := Aside0.mk (below_then HB.out HB.out.size hD)
    clear hD c0 d0 d1 d2 he K0 KQ
    generalize w1.drew = w2 at *
    refine tK 27 0 hHeld ?_
    refine tK 28 1 hHeld ?_
    refine tK 29 2 hHeld ?_
    refine tK 30 3 hHeld ?_
    refine tK 31 4 hHeld ?_
    refine tK 34 7 hHeld ?_
    refine tK 35 8 hHeld ?_
    refine tK 36 9 hHeld ?_
    refine tK 37 10 hHeld ?_
    refine tK 39 12 hHeld ?_
    refine tK 40 13 hHeld ?_
    refine tK 41 14 hHeld ?_
    refine tK 42 15 hHeld ?_
    refine cK 32 5 (place_calls s at_ w2 hs HE.out) ?_
    rintro en w3 ⟨rfl, hB⟩
    refine ⟨_, rfl, ⟨pwc hB hHeld.1, pwc hB hHeld.2.1, pwc hB hHeld.2.2.1, pwc hB hHeld.2.2.2⟩, fun hHeld => nA ?_⟩
    replace HE := Aside0.mk (HE.out.below hB)
    replace HB := Aside0.mk (below_then HB.out HB.out.size hB)
    clear hB
    refine tK (v := .string ⟨(placeB s.data.toList (atN at_ s.size) ++ [58]).toArray⟩) 33 6 hHeld ?_ (hy := fun w hS => by go_simp; rw [show ((⟨#[58]⟩ : ByteArray)) = ⟨[58].toArray⟩ from rfl, bytes_app])
    refine cK 38 11 (words_calls code w3 h0 h1 HE.out) ?_
    rintro en w4 ⟨rfl, hB⟩
    refine ⟨_, rfl, ⟨pwc hB hHeld.1, pwc hB hHeld.2.1, pwc hB hHeld.2.2.1, pwc hB hHeld.2.2.2⟩, fun hHeld => nA ?_⟩
    replace HE := Aside0.mk (HE.out.below hB)
    replace HB := Aside0.mk (below_then HB.out HB.out.size hB)
    clear hB
    refine cK 43 16 (quoted_calls word w4 hwd) ?_
    rintro en w5 ⟨rfl, hB⟩
    refine ⟨_, rfl, ⟨pwc hB hHeld.1, pwc hB hHeld.2.1, pwc hB hHeld.2.2.1, pwc hB hHeld.2.2.2⟩, fun hHeld => nA ?_⟩
    replace HE := Aside0.mk (HE.out.below hB)
    replace HB := Aside0.mk (below_then HB.out HB.out.size hB)
    clear hB
    refine wpAnyH_ready (rs := [17]) (by kernel_rfl) (by simp) ?_
    refine AllReadyH.cons rfl (fun K hK => ?_) AllReadyH.nil
    go_simp
    have hB : Below w5.heap.size w5 (w5.alloc (.cells (([⟨(placeB s.data.toList (atN at_ s.size) ++ [58]).toArray⟩, ⟨(wordsB code).toArray⟩, ⟨(quotedB word.data.toList).toArray⟩] : List ByteArray).map Value.string).toArray 9)) := (Below.refl _ _).alloc (Nat.le_refl _) _
    have hS := strs_new (xs := [⟨(placeB s.data.toList (atN at_ s.size) ++ [58]).toArray⟩, ⟨(wordsB code).toArray⟩, ⟨(quotedB word.data.toList).toArray⟩]) (heap_alloc_new w5 (.cells (([⟨(placeB s.data.toList (atN at_ s.size) ++ [58]).toArray⟩, ⟨(wordsB code).toArray⟩, ⟨(quotedB word.data.toList).toArray⟩] : List ByteArray).map Value.string).toArray 9)) rfl
    refine hK.out _ _ ⟨pwc hB hHeld.1, pwc hB hHeld.2.1, pwc hB hHeld.2.2.1, pwc hB hHeld.2.2.2⟩ (fun hHeld => nA ?_)
    clear hK K
    replace HB := Aside0.mk (below_then HB.out HB.out.size hB)
    clear hB
    refine cK 45 18 (joined_calls w5.heap.size 3 [⟨(placeB s.data.toList (atN at_ s.size) ++ [58]).toArray⟩, ⟨(wordsB code).toArray⟩, ⟨(quotedB word.data.toList).toArray⟩] 3 _ hS rfl (Nat.le_refl _) (by simp only [List.length_cons, List.length_nil]; omega) (by
      simp only [List.map_cons, List.map_nil]; rw [joinB3]; simp only [List.length_append, List.length_cons, List.length_nil]; omega)) ?_
    rintro en w6 ⟨rfl, hB⟩
    refine ⟨_, rfl, ⟨pwc hB hHeld.1, pwc hB hHeld.2.1, pwc hB hHeld.2.2.1, pwc hB hHeld.2.2.2⟩, fun hHeld => nA ?_⟩
    replace HB := Aside0.mk (below_then HB.out HB.out.size hB)
    clear hB
    refine tK 4 19 hHeld ?_
    refine wpAnyH_done (by kernel_rfl) ?_ _
    go_wp2_with fail
    go_ret
    exact ⟨by rw [HF.out]; rfl, HB.out⟩
  · have hwn : word.data.toList = [] := by
      have hh0 : (!word.toList.isEmpty) = false := by assumption
      rw [ByteArray.toList_eq] at hh0
      simpa using hh0
    have HF : Aside0 (faultB s.data.toList code (atN at_ s.size) word.data.toList = joinB [placeB s.data.toList (atN at_ s.size) ++ [58], wordsB code]) := .mk (if_pos hwn)
    have hL1 := place_len s.data.toList (atN at_ s.size) (by simp; omega)
    have hL2 := words_len code h0 h1
    have q0 : ¬ (9223372036854775807 < (placeB s.data.toList (atN at_ s.size)).length + 1) := by omega
    refine wp_region_held_drew (S := fun w' => w'.cell? ⟨w.heap.size, 0, none⟩ = some (.pointer (some ⟨q, 0, none⟩)) ∧ w'.cell? ⟨q, 0, none⟩ = some (.int .i64 code) ∧ w'.cell? ⟨q, 1, none⟩ = some (.int .i64 at_) ∧ w'.cell? ⟨q, 2, none⟩ = some (.string word)) (by kernel_rfl) ⟨c0, d0, d1, d2⟩ (fun hHeld => ?_)
    have hD := (Below.refl w1.heap.size w1).drew
    replace HE := Aside0.mk (HE.out.below hD)
    replace HB := Aside0.mk (below_then HB.out HB.out.size hD)
    clear hD c0 d0 d1 d2 he K0 KQ
    generalize w1.drew = w2 at *
    refine tK 49 0 hHeld ?_
    refine tK 50 1 hHeld ?_
    refine tK 51 2 hHeld ?_
    refine tK 52 3 hHeld ?_
    refine tK 53 4 hHeld ?_
    refine tK 56 7 hHeld ?_
    refine tK 57 8 hHeld ?_
    refine tK 58 9 hHeld ?_
    refine tK 59 10 hHeld ?_
    refine cK 54 5 (place_calls s at_ w2 hs HE.out) ?_
    rintro en w3 ⟨rfl, hB⟩
    refine ⟨_, rfl, ⟨pwc hB hHeld.1, pwc hB hHeld.2.1, pwc hB hHeld.2.2.1, pwc hB hHeld.2.2.2⟩, fun hHeld => nA ?_⟩
    replace HE := Aside0.mk (HE.out.below hB)
    replace HB := Aside0.mk (below_then HB.out HB.out.size hB)
    clear hB
    refine tK (v := .string ⟨(placeB s.data.toList (atN at_ s.size) ++ [58]).toArray⟩) 55 6 hHeld ?_ (hy := fun w hS => by go_simp; rw [show ((⟨#[58]⟩ : ByteArray)) = ⟨[58].toArray⟩ from rfl, bytes_app])
    refine cK 60 11 (words_calls code w3 h0 h1 HE.out) ?_
    rintro en w5 ⟨rfl, hB⟩
    refine ⟨_, rfl, ⟨pwc hB hHeld.1, pwc hB hHeld.2.1, pwc hB hHeld.2.2.1, pwc hB hHeld.2.2.2⟩, fun hHeld => nA ?_⟩
    replace HE := Aside0.mk (HE.out.below hB)
    replace HB := Aside0.mk (below_then HB.out HB.out.size hB)
    clear hB
    refine wpAnyH_ready (rs := [12]) (by kernel_rfl) (by simp) ?_
    refine AllReadyH.cons rfl (fun K hK => ?_) AllReadyH.nil
    go_simp
    have hB : Below w5.heap.size w5 (w5.alloc (.cells (([⟨(placeB s.data.toList (atN at_ s.size) ++ [58]).toArray⟩, ⟨(wordsB code).toArray⟩] : List ByteArray).map Value.string).toArray 9)) := (Below.refl _ _).alloc (Nat.le_refl _) _
    have hS := strs_new (xs := [⟨(placeB s.data.toList (atN at_ s.size) ++ [58]).toArray⟩, ⟨(wordsB code).toArray⟩]) (heap_alloc_new w5 (.cells (([⟨(placeB s.data.toList (atN at_ s.size) ++ [58]).toArray⟩, ⟨(wordsB code).toArray⟩] : List ByteArray).map Value.string).toArray 9)) rfl
    refine hK.out _ _ ⟨pwc hB hHeld.1, pwc hB hHeld.2.1, pwc hB hHeld.2.2.1, pwc hB hHeld.2.2.2⟩ (fun hHeld => nA ?_)
    clear hK K
    replace HB := Aside0.mk (below_then HB.out HB.out.size hB)
    clear hB
    refine cK 62 13 (joined_calls w5.heap.size 2 [⟨(placeB s.data.toList (atN at_ s.size) ++ [58]).toArray⟩, ⟨(wordsB code).toArray⟩] 2 _ hS rfl (Nat.le_refl _) (by simp only [List.length_cons, List.length_nil]; omega) (by
      simp only [List.map_cons, List.map_nil]; rw [joinB2]; simp only [List.length_append, List.length_cons, List.length_nil]; omega)) ?_
    rintro en w6 ⟨rfl, hB⟩
    refine ⟨_, rfl, ⟨pwc hB hHeld.1, pwc hB hHeld.2.1, pwc hB hHeld.2.2.1, pwc hB hHeld.2.2.2⟩, fun hHeld => nA ?_⟩
    replace HB := Aside0.mk (below_then HB.out HB.out.size hB)
    clear hB
    refine tK 4 14 hHeld ?_
    refine wpAnyH_done (by kernel_rfl) ?_ _
    go_wp2_with fail
    go_ret
    exact ⟨by rw [HF.out]; rfl, HB.out⟩
end Go.Proofs.YtamfknhgjkmdfaaDoor.X
