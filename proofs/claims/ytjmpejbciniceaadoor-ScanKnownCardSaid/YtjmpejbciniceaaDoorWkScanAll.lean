/- The walk of the law ScanAll. -/
import Derived.Test.YtjmpejbciniceaaDoorHTold
import Derived.Test.YtjmpejbciniceaaDoorPureRef1b
import Derived.Test.YtjmpejbciniceaaDoorFWords
namespace Go.Proofs.YtjmpejbciniceaaDoor.X
open Go.RowKit Go.Proofs.YtjmpejbciniceaaDoorW.PrintWords Go.Proofs.YtjmpejbciniceaaDoorW.PrintLast Go.Proofs.YtjmpejbciniceaaDoorW.PrintMore
set_option linter.unusedVariables false
set_option linter.unusedSimpArgs false

theorem words_loop (l : List S37) : ∀ (m j : Nat), l.length = j + m → l.length ≤ 100000 → lychgatelaw01_Words.l0 (m + 1) l l (l.length : Int) (j : Int) = some true := by
  intro m
  induction m with
  | zero =>
    intro j h hl
    unfold lychgatelaw01_Words.l0
    rw [if_neg (by omega)]
  | succ m ih =>
    intro j h hl
    unfold lychgatelaw01_Words.l0
    rw [if_pos (by omega), if_pos (by omega), if_pos (by omega), if_pos (by omega), if_neg (by simp)]
    rw [show wrap64 ((j : Int) + 1) = ((j + 1 : Nat) : Int) from by rw [IntWalk.wrap64_in _ (by omega)]; omega]
    exact ih (j + 1) (by omega) hl
theorem words_same (l : List S37) (h : l.length ≤ 100000) : lychgatelaw01_Words.f (l.length + 1) l l = some true := by
  unfold lychgatelaw01_Words.f
  rw [if_pos rfl]
  exact words_loop l l.length 0 (by omega) h
theorem scan_len : ∀ (f N : Nat) (l : List UInt8) (ws : List SWord), scanR f N l = .ok ws → ws.length ≤ l.length := by
  intro f
  induction f with
  | zero => intro N l ws h; injection h with h; subst h; simp
  | succ f ih =>
    intro N l ws h
    have hk := skip_len l false
    rw [scanR] at h
    cases hs : skipR l false with
    | nil => rw [hs] at h; injection h with h; subst h; simp
    | cons c m =>
      rw [hs] at h hk
      simp only at h
      cases hw : wordR (c :: m) with
      | fault e s => rw [hw] at h; simp at h
      | word k s n =>
        rw [hw] at h
        simp only at h
        obtain ⟨r, hr, hne⟩ := word_prefix hw
        have h0 : 0 < s.length := List.length_pos_iff.2 hne
        cases hr2 : scanR f N ((c :: m).drop s.length) with
        | error e => rw [hr2] at h; simp at h
        | ok vs =>
          rw [hr2] at h
          injection h with h
          subst h
          have := ih _ _ _ hr2
          simp at this hk ⊢
          omega
theorem scan_code : ∀ (f N : Nat) (l : List UInt8) (x : Int × Nat × List UInt8), scanR f N l = .error x → x.1 ≠ 0 := by
  intro f
  induction f with
  | zero => intro N l x h; simp [scanR] at h
  | succ f ih =>
    intro N l x h
    rw [scanR] at h
    cases hs : skipR l false with
    | nil => rw [hs] at h; simp at h
    | cons c m =>
      rw [hs] at h
      simp only at h
      cases hw : wordR (c :: m) with
      | fault e s =>
        rw [hw] at h
        injection h with h
        subst h
        exact fault_code _ _ _ hw
      | word k s n =>
        rw [hw] at h
        simp only at h
        cases hr2 : scanR f N ((c :: m).drop s.length) with
        | error e =>
          rw [hr2] at h
          injection h with h
          subst h
          exact ih _ _ _ hr2
        | ok vs => rw [hr2] at h; simp at h
theorem all_len {t : ByteArray} {ws : List SWord} (h : scanAll t = .ok ws) : ws.length ≤ 65536 := by
  unfold scanAll at h
  split at h
  · simp at h
  · have := scan_len _ _ _ _ h
    simp at this
    omega
theorem all_code {t : ByteArray} {x : Int × Nat × List UInt8} (h : scanAll t = .error x) : x.1 ≠ 0 := by
  unfold scanAll at h
  split at h
  · injection h with h
    subst h
    decide
  · exact scan_code _ _ _ _ h
theorem row_reads {w : World} {base : Nat} {ok : Nat → Prop} {v : Value} {l : List S37} (h : k37.R 37 w base ok v l) : ∃ A c, v = .slice A l.length c ∧ l.length ≤ c ∧ Kd.C k37 w A l.length l := Kd.R_reads h
theorem refall_calls (a : ByteArray) (w : World) {r1 : List S37} {r2 r3 : Int} {r4 : ByteArray} (h : ansR [] a.size (scanAll a) = (r1, r2, r3, r4)) : Calls Tryd.prog 8 #[.string a] w fun e w' => ∃ A c, e = .returned (.tuple #[.slice A r1.length c, .agg #[.int .i64 r2, .int .i64 r3, .string r4]]) ∧ r1.length ≤ c ∧ Kd.C k37 w' A r1.length r1 ∧ Below w.heap.size w w' := by
  refine (lychgateref01_All.calls (4 * a.size + 20) a r1 r2 r3 r4 w (by rw [rAll_is a _ (Nat.le_refl _), h])).mono ?_
  rintro e w' ⟨v, rfl, hR, hB⟩
  obtain ⟨A, c, rfl, hl, hc⟩ := row_reads hR
  exact ⟨A, c, rfl, hl, hc, hB⟩
set_option maxRecDepth 100000 in
set_option maxHeartbeats 3200000 in
theorem scanall_walk (a : ByteArray) (w : World) (_ : a.size ≤ 140737488351232) (hg : HasErr w) : Calls Tryd.prog 3 #[.string a] w fun e w' => e = .returned (.bool true) ∧ Below w.heap.size w w' := by
  have HG := Aside0.mk hg
  clear hg
  cases hr : scanAll a with
  | error x =>
    obtain ⟨e0, p, t⟩ := x
    have HC : Aside0 (e0 ≠ 0) := .mk (all_code hr)
    have HR := Aside0.mk hr
    have HA : Aside0 (ansR [] a.size (scanAll a) = (([] : List S37), e0, (p : Int), bytesS t)) := .mk (by rw [hr]; rfl)
    clear hr
    go_enter Tryd.func3, Tryd.ntmps3
    go_wp2_with fail
    refine (all_calls a _).mono ?_
    rw [HR.out]
    rintro e w1 ⟨q, rfl, hq, hql, hB⟩
    have KQ := Aside0.mk hq
    have HB := Aside0.mk hB
    clear hq hql hB
    go_wp2_with fail
    refine (refall_calls a _ HA.out).mono ?_
    rintro e w2 ⟨A, c, rfl, hc, hC, hB⟩
    have HC2 := Aside0.mk hC
    replace KQ : Aside0 (FaultAt w2 q e0 p (bytesS t)) := .mk (blk_below KQ.out hB)
    replace HB := Aside0.mk (below_then HB.out HB.out.size hB)
    clear hC hB
    have hB : Below w2.heap.size w2 (w2.alloc (.cells #[.int .i64 e0, .int .i64 (p : Int), .string (bytesS t)] 29)) := (Below.refl _ _).alloc (Nat.le_refl _) _
    replace HC2 := Aside0.mk (Kd.C_below HC2.out hB)
    replace KQ : Aside0 (FaultAt _ q e0 p (bytesS t)) := .mk (blk_below KQ.out hB)
    replace HB := Aside0.mk (below_then HB.out HB.out.size hB)
    clear hB
    go_wp2_with fail
    generalize w2.alloc (.cells #[.int .i64 e0, .int .i64 (p : Int), .string (bytesS t)] 29) = w3 at *
    refine (told_at q e0 p (bytesS t) _ KQ.out (HG.out.below HB.out) HC.out).mono ?_
    rintro e w4 ⟨rfl, hB⟩
    replace HC2 := Aside0.mk (Kd.C_below HC2.out hB)
    replace HB := Aside0.mk (below_then HB.out HB.out.size hB)
    clear hB
    go_wp2_with fail
    refine (lychgatelaw01_Words.calls 1 none 0 [] A c [] true _ ⟨rfl, Nat.zero_le _, fun h => absurd h (by simp)⟩ (Nat.le_refl _) HC2.out hc (words_same [] (by simp))).mono ?_
    rintro e w5 ⟨rfl, hD⟩
    replace HB := Aside0.mk (below_then HB.out HB.out.size hD.below)
    clear hD
    go_wp2_with fail
    go_ret
    exact ⟨rfl, HB.out⟩
  | ok ws =>
    have hwl := all_len hr
    have HR := Aside0.mk hr
    obtain ⟨l, hl⟩ : ∃ l, l = ws.map wv ++ [endV a.size] := ⟨_, rfl⟩
    have HA : Aside0 (ansR [] a.size (scanAll a) = (l, 0, 0, ⟨#[]⟩)) := .mk (by rw [hr, hl]; rfl)
    have hln : l.length ≤ 100000 := by rw [hl]; simp; omega
    have HL := Aside0.mk hl
    clear hr hl
    go_enter Tryd.func3, Tryd.ntmps3
    go_wp2_with fail
    refine (all_calls a _).mono ?_
    rw [HR.out]
    rintro e w1 ⟨v, rfl, hR, hB⟩
    rw [← HL.out] at hR
    obtain ⟨A0, c0, rfl, hc0, hC0⟩ := row_reads hR
    have HC0 := Aside0.mk hC0
    have HB := Aside0.mk hB
    clear hR hB hC0
    go_wp2_with fail
    refine (refall_calls a _ HA.out).mono ?_
    rintro e w2 ⟨A, c, rfl, hc, hC, hB⟩
    have HC2 := Aside0.mk hC
    replace HC0 := Aside0.mk (Kd.C_below HC0.out hB)
    replace HB := Aside0.mk (below_then HB.out HB.out.size hB)
    clear hC hB
    have hB : Below w2.heap.size w2 (w2.alloc (.cells #[.int .i64 0, .int .i64 0, .string ⟨#[]⟩] 29)) := (Below.refl _ _).alloc (Nat.le_refl _) _
    replace HC2 := Aside0.mk (Kd.C_below HC2.out hB)
    replace HC0 := Aside0.mk (Kd.C_below HC0.out hB)
    replace HB := Aside0.mk (below_then HB.out HB.out.size hB)
    clear hB
    go_wp2_with fail
    generalize w2.alloc (.cells #[.int .i64 0, .int .i64 0, .string ⟨#[]⟩] 29) = w3 at *
    refine (told_nil _).mono ?_
    rintro e w4 ⟨rfl, hB⟩
    replace HC2 := Aside0.mk (Kd.C_below HC2.out hB)
    replace HC0 := Aside0.mk (Kd.C_below HC0.out hB)
    replace HB := Aside0.mk (below_then HB.out HB.out.size hB)
    clear hB
    go_wp2_with fail
    refine (lychgatelaw01_Words.calls (l.length + 1) A0 c0 l A c l true _ HC0.out hc0 HC2.out hc (words_same l hln)).mono ?_
    rintro e w5 ⟨rfl, hD⟩
    replace HB := Aside0.mk (below_then HB.out HB.out.size hD.below)
    clear hD
    go_wp2_with fail
    go_ret
    exact ⟨rfl, HB.out⟩
end Go.Proofs.YtjmpejbciniceaaDoor.X
