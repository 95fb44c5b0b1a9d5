/- Plain laws: lines and columns of a text. -/
import Derived.Test.YtamfknhgjkmdfaaDoorHWhere
import Derived.Lib.LastIndexByte
import Derived.Lib.Index
import Derived.Lib.IndexMore
import Derived.Lib.IndexBytes
namespace Go.Proofs.YtamfknhgjkmdfaaDoor.X
set_option linter.unusedVariables false
set_option linter.unusedSimpArgs false
/-- No end of a line. -/
def nl (c : UInt8) : Bool := c != 10
/-- What stands behind the last end of a line. -/
def lastPart (xs : List UInt8) : List UInt8 := (xs.reverse.takeWhile nl).reverse
/-- The line of a place. -/
def lineB (l : List UInt8) (k : Nat) : List UInt8 := lastPart (l.take k) ++ (l.drop k).takeWhile nl
theorem lastPart_snoc (xs : List UInt8) (c : UInt8) : lastPart (xs ++ [c]) = if c = 10 then [] else lastPart xs ++ [c] := by
  unfold lastPart
  rw [List.reverse_append]
  simp only [List.reverse_cons, List.reverse_nil, List.nil_append, List.singleton_append, List.takeWhile_cons, nl]
  by_cases h : c = 10
  · subst h; simp
  · simp [h]
theorem takeWhile_all {zs : List UInt8} (h : ∀ c ∈ zs, nl c = true) : zs.takeWhile nl = zs := by
  induction zs with
  | nil => rfl
  | cons c zs ih => rw [List.takeWhile_cons, if_pos (h c (by simp)), ih fun d hd => h d (by simp [hd])]
theorem takeWhile_app {zs ys : List UInt8} (h : ∀ c ∈ zs, nl c = true) : (zs ++ ys).takeWhile nl = zs ++ ys.takeWhile nl := by
  induction zs with
  | nil => rfl
  | cons c zs ih => rw [List.cons_append, List.takeWhile_cons, if_pos (h c (by simp)), ih fun d hd => h d (by simp [hd])]; rfl
theorem lastPart_no (xs : List UInt8) : ∀ c ∈ lastPart xs, nl c = true := by
  intro c hc
  unfold lastPart at hc
  rw [List.mem_reverse] at hc
  have := List.all_takeWhile (p := nl) (l := xs.reverse)
  exact List.all_eq_true.1 this c hc
theorem lastPart_of (ys zs : List UInt8) (h : ∀ c ∈ zs, nl c = true) : lastPart (ys ++ 10 :: zs) = zs := by
  unfold lastPart
  have e : (ys ++ 10 :: zs).reverse = zs.reverse ++ (10 :: ys.reverse) := by simp
  rw [e, takeWhile_app (fun c hc => h c (by simpa using hc))]
  simp [nl]
theorem lastPart_all (zs : List UInt8) (h : ∀ c ∈ zs, nl c = true) : lastPart zs = zs := by
  unfold lastPart
  rw [takeWhile_all (fun c hc => h c (by simpa using hc))]; simp
/-- The last end of a line, as the library finds it. -/
theorem lastIdx_at (t : ByteArray) : ∃ f : Nat, Lib.lastIndexByte t 10 + 1 = f ∧ f ≤ t.size ∧ t.data.toList.drop f = lastPart t.data.toList := by
  have key : ∀ j (hj : j < t.size), ((t.data[j]!).toNat : Int) ≠ 10 → nl (t.data.toList[j]'(by simpa using hj)) = true := by
    intro j hj h
    have e : t.data[j]! = t.data.toList[j]'(by simpa using hj) := by
      rw [Array.getElem!_eq_getD]; simp [Array.getD, hj]
    unfold nl
    rw [← e]
    simp only [bne_iff_ne, ne_eq]
    intro h10
    exact h (by rw [h10]; rfl)
  rcases Lib.lastIdx_spec t 10 t.size with ⟨e, hn⟩ | ⟨i, hi, e, hc, hn⟩
  · refine ⟨0, by unfold Lib.lastIndexByte; rw [e]; rfl, Nat.zero_le _, ?_⟩
    rw [List.drop_zero, lastPart_all]
    intro c hc
    obtain ⟨j, hj, rfl⟩ := List.getElem_of_mem hc
    exact key j (by simpa using hj) (hn j (by simpa using hj))
  · refine ⟨i + 1, by unfold Lib.lastIndexByte; rw [e]; rfl, hi, ?_⟩
    have hil : i < t.data.toList.length := by simpa using hi
    have e10 : t.data.toList[i] = 10 := by
      have e : t.data[i]! = t.data.toList[i] := by rw [Array.getElem!_eq_getD]; simp [Array.getD, hi]
      rw [e] at hc
      refine UInt8.toNat_inj.1 ?_
      show (t.data.toList[i]).toNat = 10
      omega
    have es : t.data.toList = t.data.toList.take i ++ 10 :: t.data.toList.drop (i + 1) := by
      rw [← e10, ← List.drop_eq_getElem_cons hil, List.take_append_drop]
    have hz : ∀ c ∈ t.data.toList.drop (i + 1), nl c = true := by
      intro c hc
      obtain ⟨j, hj, rfl⟩ := List.getElem_of_mem hc
      rw [List.getElem_drop]
      rw [List.length_drop] at hj
      have : i + 1 + j < t.size := by simp at hj; omega
      exact key (i + 1 + j) this (hn (i + 1 + j) (by omega) this)
    generalize t.data.toList.drop (i + 1) = zs at *
    rw [es, lastPart_of _ _ hz]
theorem cut_line (l : List UInt8) : (Lib.cut l [10]).1 = l.takeWhile nl := by
  have h : ∀ m : List UInt8, (Lib.index m [10] = -1 ∧ m.takeWhile nl = m) ∨ ∃ i : Nat, Lib.index m [10] = i ∧ m.takeWhile nl = m.take i := by
    intro m
    induction m with
    | nil => left; exact ⟨rfl, rfl⟩
    | cons c m ih =>
      by_cases hc : c = 10
      · subst hc; right; exact ⟨0, by simp [Lib.index, List.isPrefixOf], by simp [nl]⟩
      · have e : Lib.index (c :: m) [10] = if Lib.index m [10] == -1 then -1 else Lib.index m [10] + 1 := by simp [Lib.index, List.isPrefixOf, Ne.symm hc]
        have e2 : (c :: m).takeWhile nl = c :: m.takeWhile nl := by rw [List.takeWhile_cons, if_pos (by simp [nl, hc])]
        rcases ih with ⟨h1, h2⟩ | ⟨i, h1, h2⟩
        · left; rw [e, e2, h1, h2]; exact ⟨rfl, rfl⟩
        · right
          refine ⟨i + 1, ?_, by rw [e2, h2]; rfl⟩
          rw [e, h1, if_neg (by first | (simp; done) | (simp; omega))]; rfl
  unfold Lib.cut
  rcases h l with ⟨h1, h2⟩ | ⟨i, h1, h2⟩
  · rw [h1, h2, if_neg (by decide)]
  · rw [h1, if_pos (by omega), h2]; simp
theorem line_is (l : List UInt8) (k f : Nat) (hf : f ≤ k) (hk : k ≤ l.length) (h : (l.take k).drop f = lastPart (l.take k)) : (l.drop f).takeWhile nl = lineB l k := by
  have e : l.drop f = lastPart (l.take k) ++ l.drop k := by
    rw [← h, List.drop_take, List.take_eq_take_iff.2 (rfl : min (k - f) _ = min (k - f) _)]
    have : l.drop k = (l.drop f).drop (k - f) := by rw [List.drop_drop]; congr 1; omega
    rw [this, List.take_append_drop]
  rw [e, takeWhile_app (lastPart_no _)]; rfl
/-- Lines that are done, and the line under way. -/
def stepH (p : List (List UInt8) × List UInt8) (c : UInt8) : List (List UInt8) × List UInt8 := if c = 10 then (p.1 ++ [p.2], []) else (p.1, p.2 ++ [c])
def linesP (l : List UInt8) : List (List UInt8) × List UInt8 := l.foldl stepH ([], [])
theorem linesP_snoc (l : List UInt8) (c : UInt8) : linesP (l ++ [c]) = stepH (linesP l) c := by simp [linesP]
theorem lines_where (l : List UInt8) : whereP l = ((linesP l).1.length + 1, (linesP l).2.length + 1) := by
  have h : ∀ (l : List UInt8) (p : List (List UInt8) × List UInt8) (q : Nat × Nat), q = (p.1.length + 1, p.2.length + 1) → l.foldl stepW q = ((l.foldl stepH p).1.length + 1, (l.foldl stepH p).2.length + 1) := by
    intro l
    induction l with
    | nil => intro p q h; exact h
    | cons c l ih =>
      intro p q h
      rw [List.foldl_cons, List.foldl_cons]
      refine ih _ _ ?_
      subst h
      unfold stepW stepH
      split <;> simp
  exact h l _ _ rfl
/-- The lines done, put together with their ends. -/
def glue (hs : List (List UInt8)) : List UInt8 := hs.flatMap (· ++ [10])
theorem glue_snoc (hs : List (List UInt8)) (x : List UInt8) : glue (hs ++ [x]) = glue hs ++ x ++ [10] := by simp [glue]
theorem lines_glue (l : List UInt8) : glue (linesP l).1 ++ (linesP l).2 = l := by
  have h : ∀ (l : List UInt8) (p : List (List UInt8) × List UInt8), glue (l.foldl stepH p).1 ++ (l.foldl stepH p).2 = glue p.1 ++ p.2 ++ l := by
    intro l
    induction l with
    | nil => intro p; simp
    | cons c l ih =>
      intro p
      rw [List.foldl_cons, ih]
      unfold stepH
      split
      · rename_i h; subst h; rw [glue_snoc]; simp
      · simp
  simpa [glue, linesP] using h l ([], [])
theorem lines_last (l : List UInt8) : ∀ m, lastPart l = m → (linesP l).2 = m := by
  intro m hm
  subst hm
  have h : ∀ r : List UInt8, (linesP r.reverse).2 = lastPart r.reverse := by
    intro r
    induction r with
    | nil => rfl
    | cons c r ih =>
      rw [List.reverse_cons, linesP_snoc, lastPart_snoc]
      unfold stepH
      split
      · rfl
      · simp [ih]
  simpa using h l.reverse
theorem lines_more (ys : List UInt8) : ∀ (H : List (List UInt8)) (c : List UInt8), ∃ M, (ys.foldl stepH (H, c)).1 ++ [(ys.foldl stepH (H, c)).2] = H ++ (c ++ ys.takeWhile nl) :: M := by
  induction ys with
  | nil => intro H c; exact ⟨[], by simp⟩
  | cons y ys ih =>
    intro H c
    rw [List.foldl_cons]
    by_cases hy : y = 10
    · subst hy
      obtain ⟨M, hM⟩ := ih (H ++ [c]) []
      refine ⟨(([] : List UInt8) ++ ys.takeWhile nl) :: M, (show stepH (H, c) 10 = (H ++ [c], []) from rfl) ▸ hM.trans ?_⟩
      simp [nl]
    · obtain ⟨M, hM⟩ := ih H (c ++ [y])
      refine ⟨M, ?_⟩
      rw [show stepH (H, c) y = (H, c ++ [y]) from if_neg hy, hM, List.takeWhile_cons, if_pos (by simp [nl, hy])]
      simp
/-- All lines. -/
def linesOf (l : List UInt8) : List (List UInt8) := (linesP l).1 ++ [(linesP l).2]
/-- THE LAW OF A PLACE: the lines ahead of it, its line, and what stands ahead. -/
theorem lines_at (l : List UInt8) (k : Nat) : ∃ M, linesOf l = (linesP (l.take k)).1 ++ lineB l k :: M := by
  obtain ⟨M, hM⟩ := lines_more (l.drop k) (linesP (l.take k)).1 (linesP (l.take k)).2
  refine ⟨M, ?_⟩
  unfold linesOf lineB
  rw [← lines_last (l.take k) _ rfl, ← hM]
  have e : linesP l = (l.drop k).foldl stepH ((linesP (l.take k)).1, (linesP (l.take k)).2) := by
    conv => lhs; rw [← List.take_append_drop k l]
    unfold linesP
    rw [List.foldl_append]
  rw [e]
theorem line_cut (l : List UInt8) (k : Nat) : (lineB l k).take (linesP (l.take k)).2.length = (linesP (l.take k)).2 ∧ (linesP (l.take k)).2.length ≤ (lineB l k).length := by
  unfold lineB
  rw [← lines_last (l.take k) _ rfl]
  simp
/-- One place is ahead of another. -/
def lexLt (p q : Nat × Nat) : Prop := p.1 < q.1 ∨ p.1 = q.1 ∧ p.2 < q.2
theorem foldW_lt (zs : List UInt8) : ∀ (p : Nat × Nat), zs ≠ [] → lexLt p (zs.foldl stepW p) := by
  induction zs with
  | nil => intro p h; exact absurd rfl h
  | cons z zs ih =>
    intro p _
    have h1 : lexLt p (stepW p z) := by unfold lexLt stepW; split <;> simp
    rw [List.foldl_cons]
    by_cases hz : zs = []
    · subst hz; exact h1
    · have h2 := ih (stepW p z) hz
      unfold lexLt at *
      omega
theorem where_lt (l : List UInt8) (a b : Nat) (hab : a < b) (hb : b ≤ l.length) : lexLt (whereP (l.take a)) (whereP (l.take b)) := by
  have e : l.take b = l.take a ++ (l.take b).drop a := by
    have : l.take a = (l.take b).take a := by rw [List.take_take]; congr 1; omega
    rw [this, List.take_append_drop]
  rw [e]
  unfold whereP
  rw [List.foldl_append]
  refine foldW_lt _ _ fun h => ?_
  have := congrArg List.length h
  simp at this
  omega
end Go.Proofs.YtamfknhgjkmdfaaDoor.X
