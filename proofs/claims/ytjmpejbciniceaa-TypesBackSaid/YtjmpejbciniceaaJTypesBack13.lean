/- Texts of this claim, joined: HSame, PureBack, HOf, FGround. -/
import Derived.Test.YtjmpejbciniceaaJTypesBack0
import Derived.Test.YtjmpejbciniceaaJTypesBack1
import Derived.Test.YtjmpejbciniceaaJTypesBack2
import Derived.Test.YtjmpejbciniceaaJTypesBack3
import Derived.Test.YtjmpejbciniceaaJTypesBack4
import Derived.Test.YtjmpejbciniceaaJTypesBack5
import Derived.Test.YtjmpejbciniceaaJTypesBack6
import Derived.Test.YtjmpejbciniceaaJTypesBack7
import Derived.Test.YtjmpejbciniceaaJTypesBack8
import Derived.Test.YtjmpejbciniceaaJTypesBack9
import Derived.Test.YtjmpejbciniceaaJTypesBack10
import Derived.Test.YtjmpejbciniceaaJTypesBack11
import Derived.Test.YtjmpejbciniceaaJTypesBack12
/- Hand texts of round 1, parted: HSame. -/
namespace Go.Proofs.Ytjmpejbciniceaa.X
open Go.RowKit Go.Proofs.YtjmpejbciniceaaW.PrintWords Go.Proofs.YtjmpejbciniceaaW.PrintLast Go.Proofs.YtjmpejbciniceaaW.PrintMore
set_option linter.unusedVariables false
set_option linter.unusedSimpArgs false

/-! ### types.equal: of right types -/
theorem equal_ev (n : Nat) : ∀ (a b : S35), nodes a < n → rightB a = true → rightB b = true → Ev (fun f => types_equal.f f a.f0 a.f1 b.f0 b.f1) (likeB a b) := by
  induction n with
  | zero => intro a b h; omega
  | succ n ih =>
  intro a b hn ha hb
  rcases right_cases ha with ⟨k, hk, rfl⟩ | ⟨k, a1, a2, hk, ha1, ha2, rfl⟩
  · rcases right_cases hb with ⟨k', hk', rfl⟩ | ⟨k', b1, b2, hk', hb1, hb2, rfl⟩
    · by_cases e : k = k'
      · refine Ev.step (f := fun f => types_equal.l0 f 0 0 k [] k' []) (fun f => by simp only [types_equal.f]; rw [if_pos e]; rfl) (Ev.step (f := fun _ => some true) (fun f => by simp [types_equal.l0]) (Ev_eq (Ev.now _) (by simp [likeB, likeL, e])))
      · exact Ev.step (f := fun _ => some false) (fun f => by simp only [types_equal.f]; rw [if_neg e]) (Ev_eq (Ev.now _) (by simp [likeB, e]))
    · have e : ¬ k = k' := fun e => leaf_ne_node hk (e ▸ hk')
      exact Ev.step (f := fun _ => some false) (fun f => by simp only [types_equal.f]; rw [if_neg e]) (Ev_eq (Ev.now _) (by simp [likeB, e]))
  · rcases right_cases hb with ⟨k', hk', rfl⟩ | ⟨k', b1, b2, hk', hb1, hb2, rfl⟩
    · have e : ¬ k = k' := fun e => leaf_ne_node hk' (e ▸ hk)
      exact Ev.step (f := fun _ => some false) (fun f => by simp only [types_equal.f]; rw [if_neg e]) (Ev_eq (Ev.now _) (by simp [likeB, e]))
    · rw [nodes_two] at hn
      have p1 := nodes_pos a1
      have p2 := nodes_pos a2
      by_cases e : k = k'
      · have e1 := ih a1 b1 (by omega) ha1 hb1
        have e2 := ih a2 b2 (by omega) ha2 hb2
        have w1 : wrap64 1 = 1 := w64 1 (by omega) (by omega)
        have w2 : wrap64 2 = 2 := w64 2 (by omega) (by omega)
        refine Ev.step (f := fun f => types_equal.l0 f 2 0 k [a1, a2] k' [b1, b2]) (fun f => by simp only [types_equal.f]; rw [if_pos e]; rfl) ?_
        refine Ev.step (f := fun f => (types_equal.f f a1.f0 a1.f1 b1.f0 b1.f1).bind fun t => if t = true then types_equal.l0 f 2 1 k [a1, a2] k' [b1, b2] else some false) (fun f => by simp [types_equal.l0, rd_T35, w1]) (Ev.bind e1 ?_)
        cases h1 : likeB a1 b1 with
        | false => simpa [like_two, h1] using Ev.now _
        | true =>
          simp only [if_true]
          refine Ev.step (f := fun f => (types_equal.f f a2.f0 a2.f1 b2.f0 b2.f1).bind fun t => if t = true then types_equal.l0 f 2 2 k [a1, a2] k' [b1, b2] else some false) (fun f => by simp [types_equal.l0, rd_T35, w2]) (Ev.bind e2 ?_)
          cases h2 : likeB a2 b2 with
          | false => simpa [like_two, h2] using Ev.now _
          | true => simpa using Ev.step (f := fun _ => some true) (fun f => by simp [types_equal.l0]) (Ev_eq (Ev.now _) (by simp [like_two, h1, h2, e]))
      · exact Ev.step (f := fun _ => some false) (fun f => by simp only [types_equal.f]; rw [if_neg e]) (Ev_eq (Ev.now _) (by simp [likeB, e]))
def sameB (a b : S35) : Bool := decide (checkI a = 0) && decide (checkI b = 0) && likeB a b
theorem Same_ev (a b : S35) : Ev (fun f => types_Same.f f a.f0 a.f1 b.f0 b.f1) (sameB a b) := by
  unfold types_Same.f sameB
  refine Ev.bind (Ev_eq (Check_ev a.f0 a.f1) (by rw [S35.eta])) ?_
  by_cases h1 : checkI a = 0
  · simp only [h1, if_true, decide_true, Bool.true_and]
    refine Ev.bind (Ev_eq (Check_ev b.f0 b.f1) (by rw [S35.eta])) ?_
    by_cases h2 : checkI b = 0
    · simp only [h2, if_true, decide_true, Bool.true_and]
      exact Ev.bind (equal_ev (nodes a + 1) a b (by omega) (check_nodes h1).2.2 (check_nodes h2).2.2) (Ev.now _)
    · simpa [h2] using Ev.now _
  · simpa [h1] using Ev.now _

theorem Same_calls {a b : S35} {va vb : Value} {w : World} (ha : IsT w va a) (hb : IsT w vb b) : Calls Try.prog 13 #[va, vb] w fun e w' => e = .returned (.bool (sameB a b)) ∧ Below w.heap.size w w' := by
  obtain ⟨A, c, rfl, h1, h2⟩ := ha
  obtain ⟨B, d, rfl, h3, h4⟩ := hb
  obtain ⟨k, hk⟩ := (Same_ev a b).rounds
  exact types_Same.calls k a.f0 A c a.f1 b.f0 B d b.f1 _ w h2 h1 h4 h3 hk
end Go.Proofs.Ytjmpejbciniceaa.X
/- What the law of there and back rests on: the words of a type's text, the brackets among them, less a pair. -/
namespace Go.Proofs.Ytjmpejbciniceaa.X
open Go.RowKit Go.Proofs.YtjmpejbciniceaaW.PrintWords Go.Proofs.YtjmpejbciniceaaW.PrintLast Go.Proofs.YtjmpejbciniceaaW.PrintMore
set_option linter.unusedVariables false
set_option linter.unusedSimpArgs false

def tkE : Tk := (0, [])
theorem tkS_wv (x : SWord) : tkS (wv x) = tkOf x := by unfold tkS wv tkOf; simp [bytesS, bytes_toList]
theorem tkS_end (n : Nat) : tkS (endV n) = tkE := by unfold tkS endV tkE; simp [bytes_toList]
theorem toks_words (ws : List SWord) (N : Nat) : toks (ws.map wv ++ [endV N]) 0 = ws.map tkOf ++ [tkE] := by
  unfold toks
  rw [List.drop_zero, List.map_append, List.map_map]
  congr 1
  · exact List.map_congr_left fun x _ => tkS_wv x
  · simp [tkS_end]
theorem text_scan (t : S35) (h : checkI t = 0) : ∃ ws, scanAll (textS t) = .ok ws ∧ ws.map tkOf = tokC t := by
  obtain ⟨h1, h2, h3⟩ := check_nodes h
  obtain ⟨ws, h4, h5⟩ := text_words t h3 (textS t).size
  have hl := core_len t h3
  have e : (textS t).data.toList = core t := by unfold textS; rw [if_pos h]
  have es : (textS t).size = (core t).length := by rw [← e]; simp
  refine ⟨ws, ?_, h5⟩
  unfold scanAll
  rw [if_neg (by omega), e]
  exact h4
/-- The words are read as the type, to the last one. -/
theorem back_read (t : S35) (h : checkI t = 0) (m : Nat) : ∃ f, m ≤ f ∧ parE f 0 (tokC t ++ [tkE]) = .ok (t, [tkE]) := by
  obtain ⟨f, hf⟩ := (back_right t (check_nodes h).2.2).a0 [tkE] ⟨rfl, rfl, rfl⟩
  rw [tokT_own (by have := tight_bounds t.f0; omega)] at hf
  refine ⟨max f m, Nat.le_max_right _ _, ?_⟩
  have h2 := fuel_le (Nat.le_max_left f m) hf
  rw [← ok_par] at h2
  cases hp : parE (max f m) 0 (tokC t ++ [tkE]) with
  | error u => rw [hp] at h2; simp [okO] at h2
  | ok x => rw [hp] at h2; simp only [okO, Option.some.injEq] at h2; rw [h2]
theorem same_iff {a b : S35} (h : sameB a b = true) : a = b := by
  unfold sameB at h
  simp only [Bool.and_eq_true] at h
  exact (like_iff a b).1 h.2
theorem same_refl {a : S35} (h : checkI a = 0) : sameB a a = true := by unfold sameB; rw [h, like_refl]; rfl
/-! ### the tokens -/
def TkGood (x : Tk) : Prop := (x.2 = [40] → x = tkO) ∧ (x.2 = [41] → x = tkC)
theorem tok_good (t : S35) (h : rightB t = true) : ∀ x ∈ tokC t, TkGood x := by
  have brk : ∀ (x : S35) (l : Int), (∀ z ∈ tokC x, TkGood z) → ∀ z ∈ tokT x l, TkGood z := fun x l hx z hz => by
    by_cases hl : tightI x.f0 < l
    · rw [tokT_brk hl] at hz
      rcases List.mem_cons.1 hz with rfl | hz
      · exact ⟨fun _ => rfl, fun e => by simp [tkO] at e⟩
      · rcases List.mem_append.1 hz with hz | hz
        · exact hx z hz
        · rw [List.mem_singleton.1 hz]; exact ⟨fun e => by simp [tkC] at e, fun _ => rfl⟩
    · rw [tokT_own (by omega)] at hz; exact hx z hz
  have sg : ∀ k, TkGood (signTk k) := fun k => by
    unfold signTk
    (repeat' split) <;> exact ⟨fun e => by simp [tkQ, tkI, tkB, tkA, tkM, tkP] at e, fun e => by simp [tkQ, tkI, tkB, tkA, tkM, tkP] at e⟩
  refine right_ind (P := fun t => ∀ x ∈ tokC t, TkGood x) (fun k hk => ?_) (fun k x y hk hx hy bx by_ => ?_) t h
  · rw [tokC_leaf]; intro x hx; rw [List.mem_singleton.1 hx]; exact sg k
  · rw [tokC_two]
    intro z hz
    rcases List.mem_append.1 hz with hz | hz
    · exact brk _ _ bx z hz
    · rcases List.mem_cons.1 hz with rfl | hz
      · exact sg k
      · exact brk _ _ by_ z hz
theorem tok_text {t : S35} (h : rightB t = true) {xs : List S29} (hx : toks xs 0 = tokC t ++ [tkE]) (j : Nat) (hj : j < xs.length) : TkGood (tkS (xs[j]'hj)) := by
  have h1 : tkS (xs[j]'hj) ∈ toks xs 0 := by
    unfold toks
    rw [List.drop_zero]
    exact List.mem_map_of_mem (List.getElem_mem hj)
  rw [hx] at h1
  rcases List.mem_append.1 h1 with h1 | h1
  · exact tok_good t h _ h1
  · rw [List.mem_singleton.1 h1]; exact ⟨fun e => by simp [tkE] at e, fun e => by simp [tkE] at e⟩
theorem toks_at (xs : List S29) (j : Nat) (hj : j < xs.length) : toks xs j = tkS (xs[j]'hj) :: toks xs (j + 1) := by
  unfold toks
  rw [List.drop_eq_getElem_cons hj, List.map_cons]
theorem toks_drop (xs : List S29) (j : Nat) : toks xs j = (toks xs 0).drop j := by unfold toks; rw [List.drop_zero, List.map_drop]
theorem toks_len (xs : List S29) (j : Nat) : (toks xs j).length = xs.length - j := by unfold toks; simp
/-- At a bracket: its match. -/
theorem match_at {t : S35} (h : rightB t = true) {xs : List S29} (hx : toks xs 0 = tokC t ++ [tkE]) (i : Nat) (hi : i < xs.length) (ho : tkS (xs[i]'hi) = tkO) : ∃ d, mtF 1 (toks xs (i + 1)) = some d ∧ i + d + 1 < xs.length := by
  have hl : xs.length = (tokC t).length + 1 := by have := toks_len xs 0; rw [hx] at this; simp at this; omega
  have e := toks_drop xs i
  rw [toks_at xs i hi, ho, hx] at e
  have hit : i < (tokC t).length := by
    refine Nat.lt_of_not_le fun hle => ?_
    have hie : i = (tokC t).length := by omega
    rw [hie, List.drop_append] at e
    simp at e
    exact absurd e.1 (by decide)
  have e2 : tokC t = (tokC t).take i ++ tkO :: (tokC t).drop (i + 1) := by
    rw [List.drop_append_of_le_length (by omega), List.drop_eq_getElem_cons hit] at e
    injection e with e3 _
    rw [e3, ← List.drop_eq_getElem_cons hit, List.take_append_drop]
  obtain ⟨d, hd, hle⟩ := (tok_both t h).2 _ _ e2 [tkE]
  refine ⟨d, ?_, ?_⟩
  · rw [toks_drop, hx, List.drop_append_of_le_length (by omega)]; exact hd
  · rw [List.length_drop] at hle; omega
/-- One word further towards the match. -/
theorem match_step {t : S35} (h : rightB t = true) {xs : List S29} (hx : toks xs 0 = tokC t ++ [tkE]) {o j d : Nat} (hm : mtF (o + 1) (toks xs j) = some d) :
    ∃ d', d = d' + 1 ∧ ∃ hj : j < xs.length, ((xs[j]'hj).f1.toList = [40] ∧ mtF (o + 2) (toks xs (j + 1)) = some d') ∨ ((xs[j]'hj).f1.toList = [41] ∧ mtF o (toks xs (j + 1)) = some d') ∨ ((xs[j]'hj).f1.toList ≠ [40] ∧ (xs[j]'hj).f1.toList ≠ [41] ∧ mtF (o + 1) (toks xs (j + 1)) = some d') := by
  have hj : j < xs.length := by
    refine Nat.lt_of_not_le fun hle => ?_
    have e : toks xs j = [] := List.eq_nil_of_length_eq_zero (by rw [toks_len]; omega)
    rw [e] at hm
    simp [mtF] at hm
  have hg := tok_text h hx j hj
  rw [toks_at xs j hj, mtF] at hm
  have ht : (xs[j]'hj).f1.toList = (tkS (xs[j]'hj)).2 := rfl
  by_cases h1 : tkS (xs[j]'hj) = tkO
  · rw [if_pos h1] at hm
    obtain ⟨d', h2, h3⟩ := Option.map_eq_some_iff.1 hm
    exact ⟨d', h3.symm, hj, .inl ⟨by rw [ht, h1]; rfl, h2⟩⟩
  rw [if_neg h1] at hm
  by_cases h2 : tkS (xs[j]'hj) = tkC
  · rw [if_pos h2] at hm
    obtain ⟨d', h3, h4⟩ := Option.map_eq_some_iff.1 hm
    exact ⟨d', h4.symm, hj, .inr (.inl ⟨by rw [ht, h2]; rfl, h3⟩)⟩
  rw [if_neg h2] at hm
  obtain ⟨d', h3, h4⟩ := Option.map_eq_some_iff.1 hm
  exact ⟨d', h4.symm, hj, .inr (.inr ⟨fun e => h1 (hg.1 (ht ▸ e)), fun e => h2 (hg.2 (ht ▸ e)), h3⟩)⟩
theorem mtF_nil (n : Nat) : mtF (n + 1) [] = none := by simp [mtF]
/-- Less the pair at i and k, it is never read as the type. -/
theorem less_toks {t : S35} (h : rightB t = true) {xs : List S29} (hx : toks xs 0 = tokC t ++ [tkE]) (i d : Nat) (hi : i < xs.length) (ho : tkS (xs[i]'hi) = tkO) (hd : mtF 1 (toks xs (i + 1)) = some d) (hk : i + d + 1 < xs.length) (f : Nat) :
    parE f 0 (toks (xs.take i ++ (xs.take (i + d)).drop (i + 1) ++ xs.drop (i + d + 1)) 0) ≠ .ok (t, [tkE]) := by
  obtain ⟨x, y, h1, h2⟩ := mt_at 0 _ _ hd
  have hl : xs.length = (tokC t).length + 1 := by have := toks_len xs 0; rw [hx] at this; simp at this; omega
  have hy : ∃ z, y = z ++ [tkE] := by
    have h3 : toks xs (i + 1) = (tokC t).drop (i + 1) ++ [tkE] := by rw [toks_drop, hx, List.drop_append_of_le_length (by omega)]
    rw [h1] at h3
    have hne : y ≠ [] := by
      intro e
      have h4 := congrArg List.length h1
      rw [toks_len, e] at h4
      simp at h4
      omega
    have h5 : y.getLast hne = tkE := by
      have h6 : (x ++ tkC :: y).getLast? = some tkE := by rw [h3]; simp
      rw [List.getLast?_append, List.getLast?_cons_of_ne_nil hne, List.getLast?_eq_some_getLast hne] at h6
      simpa using h6
    exact ⟨y.dropLast, by rw [← h5]; exact (List.dropLast_concat_getLast hne).symm⟩
  obtain ⟨z, rfl⟩ := hy
  have e0 : toks xs 0 = (toks xs 0).take i ++ tkO :: (x ++ tkC :: (z ++ [tkE])) := by
    conv => lhs; rw [← List.take_append_drop i (toks xs 0)]
    rw [← toks_drop, toks_at xs i hi, ho, h1]
  have e1 : tokC t = (toks xs 0).take i ++ tkO :: (x ++ tkC :: z) := by
    have h7 : tokC t ++ [tkE] = ((toks xs 0).take i ++ tkO :: (x ++ tkC :: z)) ++ [tkE] := by
      rw [← hx, List.append_assoc, List.cons_append, List.append_assoc, List.cons_append]
      exact e0
    exact List.append_cancel_right h7
  have ex : (toks xs (i + 1)).take (d - 1) = x := by rw [h1, h2]; simp
  have ey : toks xs (i + d + 1) = z ++ [tkE] := by
    have h8 : toks xs (i + d + 1) = (toks xs (i + 1)).drop d := by rw [toks_drop, toks_drop xs (i + 1), List.drop_drop]; congr 1; omega
    rw [h8, h1, h2, List.drop_append, List.drop_eq_nil_of_le (by omega)]
    simp
  have el : toks (xs.take i ++ (xs.take (i + d)).drop (i + 1) ++ xs.drop (i + d + 1)) 0 = (toks xs 0).take i ++ (x ++ (z ++ [tkE])) := by
    rw [← ey, ← ex]
    unfold toks
    simp only [List.drop_zero, List.map_append, List.map_take, List.map_drop, List.append_assoc]
    congr 2
    rw [List.drop_take]
    congr 1
    omega
  rw [el]
  intro hp
  have h9 := congrArg okO hp
  rw [ok_par] at h9
  exact less_not t _ _ _ e1 tkE f (by decide) h9
theorem less_len (xs : List S29) (i d : Nat) (hd : 0 < d) (hk : i + d + 1 < xs.length) : (xs.take i ++ (xs.take (i + d)).drop (i + 1) ++ xs.drop (i + d + 1)).length = xs.length - 2 := by
  simp only [List.length_append, List.length_take, List.length_drop]; omega
theorem mt_pos {n d : Nat} {l : List Tk} (h : mtF (n + 1) l = some d) : 0 < d := by
  cases l with
  | nil => simp [mtF] at h
  | cons a l => rw [mtF] at h; obtain ⟨e, _, h2⟩ := Option.map_eq_some_iff.1 h; omega
theorem b_scan_len : ∀ (f N : Nat) (l : List UInt8) (ws : List SWord), scanR f N l = .ok ws → ws.length ≤ l.length := by
  intro f
  induction f with
  | zero => intro N l ws h; injection h with h; subst h; simp
  | succ f ih =>
    intro N l ws h
    have hk := skip_len l false
    rw [scanR] at h
    cases hs : skipR l false with
    | nil => rw [hs] at h; injection h with h; subst h; simp
    | cons c m =>
      rw [hs] at h hk
      simp only at h
      cases hw : wordR (c :: m) with
      | fault e s => rw [hw] at h; simp at h
      | word k s n =>
        rw [hw] at h
        simp only at h
        obtain ⟨r, hr, hne⟩ := word_prefix hw
        have h0 : 0 < s.length := List.length_pos_iff.2 hne
        cases hr2 : scanR f N ((c :: m).drop s.length) with
        | error e => rw [hr2] at h; simp at h
        | ok vs =>
          rw [hr2] at h
          injection h with h
          subst h
          have := ih _ _ _ hr2
          simp at this hk ⊢
          omega
theorem b_all_len {t : ByteArray} {ws : List SWord} (h : scanAll t = .ok ws) : ws.length ≤ 65536 := by
  unfold scanAll at h
  split at h
  · simp at h
  · have := b_scan_len _ _ _ _ h
    simp at this
    omega
theorem b_all_error {t : ByteArray} {w : World} {e : Int × Nat × List UInt8} {en : Ending} {w' : World} (h : AllPost t.size w (.error e) en w') : ∃ q, en = .returned (.tuple #[.slice none 0 0, .iface 49 (.pointer (some ⟨q, 0, none⟩))]) ∧ Below w.heap.size w w' := by
  obtain ⟨q, h1, _, _, h2⟩ := h
  exact ⟨q, h1, h2⟩
theorem b_all_ok {N : Nat} {w : World} {ws : List SWord} {en : Ending} {w' : World} (h : AllPost N w (.ok ws) en w') : ∃ A c, en = .returned (.tuple #[.slice A (ws.length + 1) c, .nilIface]) ∧ k29.R 29 w' w.heap.size (fun _ => True) (.slice A (ws.length + 1) c) (ws.map wv ++ [endV N]) ∧ Below w.heap.size w w' := by
  obtain ⟨v, h1, h2, h3⟩ := h
  obtain ⟨A, c, rfl⟩ := Kd.R_slice h2
  have e : (ws.map wv ++ [endV N]).length = ws.length + 1 := by simp
  rw [e] at h1 h2
  exact ⟨A, c, h1, h2, h3⟩
theorem mt_ge : ∀ (l : List Tk) (n d : Nat), mtF n l = some d → n ≤ d := by
  intro l
  induction l with
  | nil => intro n d h; cases n with
    | zero => simp [mtF] at h; omega
    | succ n => simp [mtF] at h
  | cons a l ih =>
    intro n d h
    cases n with
    | zero => omega
    | succ n =>
      rw [mtF] at h
      obtain ⟨e, h1, h2⟩ := Option.map_eq_some_iff.1 h
      have := ih _ _ h1
      (repeat' split at this) <;> omega
def lessOf (xs : List S29) (i k : Nat) : List S29 := [] ++ xs.take i ++ (xs.take k).drop (i + 1) ++ xs.drop (k + 1)
theorem less_last {t : S35} {xs : List S29} (hx : toks xs 0 = tokC t ++ [tkE]) (i k : Nat) (hk : k + 1 < xs.length) (j : Nat) (hj : j + 1 = (lessOf xs i k).length) : toks (lessOf xs i k) j = [tkE] := by
  have hl : xs.length = (tokC t).length + 1 := by have := toks_len xs 0; rw [hx] at this; simp at this; omega
  have h1 : toks (lessOf xs i k) 0 = ((toks (xs.take i ++ (xs.take k).drop (i + 1)) 0) ++ (tokC t).drop (k + 1)) ++ [tkE] := by
    have h2 : toks xs (k + 1) = (tokC t).drop (k + 1) ++ [tkE] := by rw [toks_drop, hx, List.drop_append_of_le_length (by omega)]
    rw [List.append_assoc, ← h2]
    unfold toks lessOf
    simp [List.map_append]
  have h3 := congrArg List.length h1
  rw [toks_len, List.length_append, List.length_singleton] at h3
  rw [toks_drop, h1, List.drop_append, List.drop_eq_nil_of_le (by omega)]
  rw [show j - _ = 0 from by omega]
  rfl
theorem less_len2 (xs : List S29) (i k : Nat) (hi : i + 1 ≤ k) (hk : k + 1 < xs.length) : (lessOf xs i k).length = xs.length - 2 := by
  unfold lessOf
  simp only [List.nil_append, List.length_append, List.length_take, List.length_drop]; omega
theorem less_not2 {t : S35} (h : rightB t = true) {xs : List S29} (hx : toks xs 0 = tokC t ++ [tkE]) (i d k : Nat) (hi : i < xs.length) (ho : tkS (xs[i]'hi) = tkO) (hd : mtF 1 (toks xs (i + 1)) = some d) (hk : k + 1 < xs.length) (hkd : k = i + d) (f : Nat) :
    parE f 0 (toks (lessOf xs i k) 0) ≠ .ok (t, [tkE]) := by
  subst hkd
  have h1 := less_toks h hx i d hi ho hd hk f
  rw [show lessOf xs i (i + d) = xs.take i ++ (xs.take (i + d)).drop (i + 1) ++ xs.drop (i + d + 1) from by unfold lessOf; rw [List.nil_append]]
  exact h1
theorem row_empty {w : World} {base g : Nat} (h : w.heap[g]? = some (.cells #[] 29 (0, 0))) (hb : base ≤ g) : k29.R 29 w base (fun _ => True) (.slice (some ⟨g, 0, none⟩) 0 0) [] :=
  ⟨fun _ _ => trivial, [], ⟨rfl, .inr ⟨g, 0, #[], rfl, hb, h, Nat.le_refl _, by decide, rfl, rfl⟩⟩, rfl, fun j p hj => by simp at hj⟩
theorem word_made (W w : World) (base : Nat) (x : S29) (cs : List Value) (h : k29.K W x cs) : k29.M w base (fun _ => False) x cs := by rw [k29_open h]; exact k29_mkM w base _ x
theorem words_take {w : World} {ad : Addr} {xs : List S29} (h : Kd.C k29 w (some ad) xs.length xs) (k : Nat) (hk : k ≤ xs.length) : ReadsRow (k29.K w) 4 w (some ad) k (xs.take k) := by
  have h2 := Kd.C_take h hk
  rw [List.length_take, Nat.min_eq_left hk] at h2
  exact h2
theorem words_mid {w : World} {ad : Addr} {xs : List S29} {c : Nat} (h : Kd.C k29 w (some ad) xs.length xs) (hc : xs.length ≤ c) (i k : Nat) (hi : i ≤ k) (hk : k < xs.length) : ReadsRow (k29.K w) 4 w (some (ad.add (i * 4))) (k - i) ((xs.take k).drop i) := by
  have h2 := Kd.C_mid h hi (Nat.le_of_lt hk) hc
  rw [if_neg (by omega), List.length_drop, List.length_take, Nat.min_eq_left (Nat.le_of_lt hk)] at h2
  exact h2
theorem words_drop {w : World} {ad : Addr} {xs : List S29} {c : Nat} (h : Kd.C k29 w (some ad) xs.length xs) (hc : xs.length ≤ c) (i : Nat) (hi : i < xs.length) : ReadsRow (k29.K w) 4 w (some (ad.add (i * 4))) (xs.length - i) (xs.drop i) := by
  have h2 := Kd.C_drop h (Nat.le_of_lt hi) hc
  rw [if_neg (by omega), List.length_drop] at h2
  exact h2
end Go.Proofs.Ytjmpejbciniceaa.X
/- Hand texts of round 1, parted: HOf. -/
namespace Go.Proofs.Ytjmpejbciniceaa.X
open Go.RowKit Go.Proofs.YtjmpejbciniceaaW.PrintWords Go.Proofs.YtjmpejbciniceaaW.PrintLast Go.Proofs.YtjmpejbciniceaaW.PrintMore
set_option linter.unusedVariables false
set_option linter.unusedSimpArgs false


/-! ### a type of two parts -/
theorem C_two {w : World} {g : Nat} {a b : S35} {Aa Ab : Option Addr} {ca cb : Nat} {cap : Nat} {t : TypeId}
    (hb : w.heap[g]? = some (.cells #[.int .i8 a.f0, .slice Aa a.f1.length ca, .int .i8 b.f0, .slice Ab b.f1.length cb] t (0, 0))) (ha1 : a.f1.length ≤ ca) (hb1 : b.f1.length ≤ cb)
    (hca : Kd.C k35 w Aa a.f1.length a.f1) (hcb : Kd.C k35 w Ab b.f1.length b.f1) : Kd.C k35 w (some ⟨g, 0, none⟩) 2 [a, b] := by
  have hc := blk_cell hb
  refine ⟨rfl, by omega, fun _ => ⟨_, rfl, fun j p hj => ?_⟩⟩
  match j, hj with
  | 0, hj =>
    obtain rfl : a = p := by simpa using hj
    refine ⟨_, rfl, k35_mk w a ha1 hca, fun i u hu => ?_⟩
    match i, hu with
    | 0, hu => simpa [Addr.add] using (hc 0).trans hu
    | 1, hu => simpa [Addr.add] using (hc 1).trans hu
  | 1, hj =>
    obtain rfl : b = p := by simpa using hj
    refine ⟨_, rfl, k35_mk w b hb1 hcb, fun i u hu => ?_⟩
    match i, hu with
    | 0, hu => simpa [Addr.add, k35, Kd.fix] using (hc 2).trans hu
    | 1, hu => simpa [Addr.add, k35, Kd.fix] using (hc 3).trans hu
set_option maxHeartbeats 800000 in
theorem Of_calls {k : Int} {a b : S35} {va vb : Value} {w : World} (ha : IsT w va a) (hb : IsT w vb b) :
    Calls Try.prog 22 #[.int .i8 k, va, vb] w fun e w' => ∃ v, e = .returned v ∧ IsT w' v ⟨k, [a, b]⟩ ∧ Below w.heap.size w w' := by
  obtain ⟨Aa, ca, rfl, ha1, ha2⟩ := ha
  obtain ⟨Ab, cb, rfl, hb1, hb2⟩ := hb
  have HA := Aside0.mk ha2
  have HB := Aside0.mk hb2
  clear ha2 hb2
  have hB4 : Below w.heap.size w ((((w.alloc (.cells #[.int .i8 a.f0, .slice Aa a.f1.length ca] 35)).alloc (.cells #[.int .i8 b.f0, .slice Ab b.f1.length cb] 35)).alloc (.cells #[.int .i8 k, .slice (some ⟨w.heap.size + 1 + 1 + 1, 0, none⟩) 2 2] 35)).alloc (.cells #[.int .i8 a.f0, .slice Aa a.f1.length ca, .int .i8 b.f0, .slice Ab b.f1.length cb] 35)) :=
    ((((Below.refl _ _).alloc (Nat.le_refl _) _).alloc (by simp) _).alloc (by simp; omega) _).alloc (by simp; omega) _
  have hb4 := heap_alloc_new (((w.alloc (.cells #[.int .i8 a.f0, .slice Aa a.f1.length ca] 35)).alloc (.cells #[.int .i8 b.f0, .slice Ab b.f1.length cb] 35)).alloc (.cells #[.int .i8 k, .slice (some ⟨w.heap.size + 1 + 1 + 1, 0, none⟩) 2 2] 35)) (.cells #[.int .i8 a.f0, .slice Aa a.f1.length ca, .int .i8 b.f0, .slice Ab b.f1.length cb] 35)
  have hT := C_two (cap := 0) hb4 ha1 hb1 (Kd.C_below HA.out hB4) (Kd.C_below HB.out hB4)
  have HT := Aside0.mk hT
  have HB4 := Aside0.mk hB4
  clear hT hB4 hb4 HA HB
  go_enter Try.func22, Try.ntmps22
  go_wp2
  refine bodyPost_ret (v := .agg #[.int .i8 k, .slice (some ⟨w.heap.size + 1 + 1 + 1, 0, none⟩) 2 2]) (by simp [results, Try.results22, go_sem]) rfl ⟨_, rfl, ⟨_, _, rfl, by simp, ?_⟩, HB4.out⟩
  simpa using HT.out
end Go.Proofs.Ytjmpejbciniceaa.X
/- Printed through xprint.py, parted: types.Ground. -/
namespace Go.Proofs.Ytjmpejbciniceaa.X
open Go.RowKit Go.Proofs.YtjmpejbciniceaaW.PrintWords Go.Proofs.YtjmpejbciniceaaW.PrintLast Go.Proofs.YtjmpejbciniceaaW.PrintMore
attribute [local go_sem] max2_int min2_int max_two min_two max_three min_three max_four min_four   -- for this text's walks alone
set_option linter.unusedVariables false
set_option linter.unusedSimpArgs false

/-! ### types_Ground: function 23 -/
def types_Ground.f (k : Nat) (a0_0 : Int) (l0_1 : List (S35)) : Option (Int × (List (S35)) × Bool) := (types_Check.f k a0_0 l0_1).bind fun t186 => (if t186 = 0 then (if a0_0 = 0 then (some (0, ([] : List (S35)), false)) else ((types_parts.f k a0_0).bind fun t187 => (if 0 ≤ t187 then (if (t187 : Int).toNat ≤ 8796093022208 then (some (a0_0, (List.replicate (t187 : Int).toNat z35), true)) else (none)) else (none)))) else (some (0, ([] : List (S35)), false)))
theorem types_Ground.mono : ∀ a0 a1 k, LeO (types_Ground.f k a0 a1) (types_Ground.f (k + 1) a0 a1) := by
  intro a0 a1 k
  unfold types_Ground.f
  repeat' first
      | (with_reducible exact types_Check.mono _ _ _)
      | (with_reducible exact types_parts.mono _ _)
      | (with_reducible exact LeO.refl _)
      | (with_reducible exact LeO.none _)
      | (with_reducible refine LeO.ite ?_ ?_)
      | (with_reducible refine LeO.bind ?_ (fun _ => ?_))
      | exact types_Check.mono _ _ _
      | exact types_parts.mono _ _
      | exact LeO.none _
      | refine LeO.ite ?_ ?_
      | refine LeO.bind ?_ (fun _ => ?_)
def types_Ground.T3 : Bool × List (List Nat × List Nat) := (true, [([], []), ([0], [0]), ([], []), ([2], [2]), ([3], [3]), ([4, 4], [4]), ([1, 5], [1, 5]), ([6, 4, 0, 1, 2, 3, 4, 5, 6], [6]), ([7, 0, 1, 2, 3, 4, 5, 6, 7], [])])
def types_Ground.B3 : List Nat := [0, 1, 0, 4, 12, 28, 63, 127, 255]
theorem types_Ground.tab3 : rtab .any (opsOf Try.f23 3) = types_Ground.T3 := by kernel_rfl
theorem types_Ground.bits3 : waitsOk types_Ground.T3.2 types_Ground.B3 = true := by kernel_rfl
set_option maxHeartbeats 8000000 in
set_option maxRecDepth 100000 in
theorem types_Ground.calls (k : Nat) (a0_0 : Int) (A0_1 : Option Addr) (c0_1 : Nat) (l0_1 : List (S35)) (r1 : Int) (r2 : List (S35)) (r3 : Bool) (w : World) (hr0_1 : Kd.C k35 w A0_1 l0_1.length l0_1) (hc0_1 : l0_1.length ≤ c0_1) (h : types_Ground.f k a0_0 l0_1 = some (r1, r2, r3)) :
    Calls Try.prog 23 #[.agg #[.int .i8 a0_0, .slice A0_1 l0_1.length c0_1]] w fun e w' => ∃ v1_ : Value, e = .returned (.tuple #[.agg #[.int .i8 r1, v1_], .bool r3]) ∧ Kd.R k35 35 w' w.heap.size (fun _ => True) v1_ r2 ∧ Below w.heap.size w w' := by
  have hu35 := Try.underlying35
  have HR0_1 := Aside0.mk hr0_1
  have HC0_1 := Aside0.mk hc0_1
  clear hr0_1 hc0_1
  have HB := Aside0.mk (Below.refl w.heap.size w)
  have H : ((types_Check.f k a0_0 l0_1).bind fun t186 => (if t186 = 0 then (if a0_0 = 0 then (some (0, ([] : List (S35)), false)) else ((types_parts.f k a0_0).bind fun t187 => (if 0 ≤ t187 then (if (t187 : Int).toNat ≤ 8796093022208 then (some (a0_0, (List.replicate (t187 : Int).toNat z35), true)) else (none)) else (none)))) else (some (0, ([] : List (S35)), false)))) = some (r1, r2, r3) := h
  clear h
  replace H := Option.bind_eq_some_iff.mp H
  obtain ⟨t186, A20, H⟩ := H
  replace H : (if t186 = 0 then (if a0_0 = 0 then (some (0, ([] : List (S35)), false)) else ((types_parts.f k a0_0).bind fun t187 => (if 0 ≤ t187 then (if (t187 : Int).toNat ≤ 8796093022208 then (some (a0_0, (List.replicate (t187 : Int).toNat z35), true)) else (none)) else (none)))) else (some (0, ([] : List (S35)), false))) = some (r1, r2, r3) := H
  have A2 := Aside0.mk A20
  clear A20
  by_cases c3 : t186 = 0
  · rw [if_pos c3] at H
    have c3b0 : (t186 == 0) = true := beq_iff_eq.mpr c3
    have c3b1 : (t186 != 0) = false := bne_eq_false_iff_eq.mpr c3
    clear c3
    by_cases c4 : a0_0 = 0
    · rw [if_pos c4] at H
      have c4b0 : (a0_0 == 0) = true := beq_iff_eq.mpr c4
      have c4b1 : (a0_0 != 0) = false := bne_eq_false_iff_eq.mpr c4
      clear c4
      simp only [Option.some.injEq, Prod.mk.injEq] at H
      obtain ⟨rfl, rfl, rfl⟩ := H
      go_enter Try.func23, Try.ntmps23
      go_wp2_with (first | ((with_reducible refine gate_dst (N := 1) rfl ?_); refine box_event ?hg (N := 1) ?hd (cs := #[.int .i8 a0_0, .slice A0_1 l0_1.length c0_1]) (t := 35) ?hr ?_; (case hd => rfl); (case hg => rfl); (case hr => first | (go_simp; done) | (go_simp; rfl)); intro gb184 hg w5 hbox hb; have n0_ := Aside0.mk (below_step (by repeat (first | (with_reducible first | exact HB.out | apply below_alloc | apply pw_below_drewN | apply below_drew1) | exact HB.out)) hb); have n1_ := Aside0.mk (hbox); have n2_ := Aside0.mk ((by rw [hg]; exact (below_size (by repeat (first | (with_reducible first | exact HB.out | apply below_alloc | apply pw_below_drewN | apply below_drew1) | exact HB.out))) : w.heap.size ≤ gb184)); have n3_ := Aside0.mk ((by rw [hg]; exact (below_size (by repeat (first | (with_reducible first | exact HB.out | apply below_alloc | apply pw_below_drewN | apply below_drew1) | exact HB.out))) : w.heap.size ≤ gb184)); clear HB; have HB := n0_; have BK184 := n1_; have GW184 := n2_; have GE184 := n3_; clear n0_ n1_ n2_ n3_; clear hb hbox hg) | ((with_reducible refine gate_dst (N := 2) rfl ?_); refine box_event ?hg (N := 2) ?hd (cs := #[.int .i8 0, .slice none 0 0]) (t := 35) ?hr ?_; (case hd => rfl); (case hg => rfl); (case hr => first | (go_simp; done) | (go_simp; rfl)); intro gb185 hg w6 hbox hb; have n0_ := Aside0.mk (blk_below (g := gb184) (o := .cells #[.int .i8 a0_0, .slice A0_1 l0_1.length c0_1] 35 (0, 0)) (by (with_reducible repeat (first | refine blk_drewN ?_ _ | refine blk_drew ?_ | refine blk_alloc ?_ _)); exact BK184.out) hb); have n1_ := Aside0.mk (below_step (by repeat (first | (with_reducible first | exact HB.out | apply below_alloc | apply pw_below_drewN | apply below_drew1 | refine below_set ?_ GE184.out) | exact HB.out)) hb); have n2_ := Aside0.mk (hbox); have n3_ := Aside0.mk ((by rw [hg]; exact (below_size (by repeat (first | (with_reducible first | exact HB.out | apply below_alloc | apply pw_below_drewN | apply below_drew1 | refine below_set ?_ GE184.out) | exact HB.out))) : w.heap.size ≤ gb185)); have n4_ := Aside0.mk ((by rw [hg]; exact (below_size (by repeat (first | (with_reducible first | exact HB.out | apply below_alloc | apply pw_below_drewN | apply below_drew1 | refine below_set ?_ GE184.out) | exact HB.out))) : w.heap.size ≤ gb185)); have n5_ := Aside0.mk ((by rw [hg]; exact Nat.ne_of_lt (blk_lt (g := gb184) (o := .cells #[.int .i8 a0_0, .slice A0_1 l0_1.length c0_1] 35 (0, 0)) (by (with_reducible repeat (first | refine blk_drewN ?_ _ | refine blk_drew ?_ | refine blk_alloc ?_ _)); exact BK184.out)) : gb184 ≠ gb185)); have n6_ := Aside0.mk ((by rw [hg]; exact Nat.ne_of_gt (blk_lt (g := gb184) (o := .cells #[.int .i8 a0_0, .slice A0_1 l0_1.length c0_1] 35 (0, 0)) (by (with_reducible repeat (first | refine blk_drewN ?_ _ | refine blk_drew ?_ | refine blk_alloc ?_ _)); exact BK184.out)) : gb185 ≠ gb184)); clear BK184; clear HB; have BK184 := n0_; have HB := n1_; have BK185 := n2_; have GW185 := n3_; have GE185 := n4_; have NB184_185 := n5_; have NB185_184 := n6_; clear n0_ n1_ n2_ n3_ n4_ n5_ n6_; clear hb hbox hg; have hnb7 := NB184_185.out; have hnc7 := NB185_184.out; have hcz8_0 : w6.cell? ⟨gb184, 0, none⟩ = some (.int .i8 a0_0) := (blk_cell BK184.out 0).trans rfl; have hcz8_1 : w6.cell? ⟨gb184, 1, none⟩ = some (.slice A0_1 l0_1.length c0_1) := (blk_cell BK184.out 1).trans rfl; have hfz8_0 := blk_frozen BK184.out 0; have hfz8_1 := blk_frozen BK184.out 1) | ((with_reducible refine gate_callee (f := 10) rfl ?_); refine goesL_ (some 5) rfl rfl Try.func10 (by kernel_rfl) rfl #[.agg #[.int .i8 a0_0, .slice A0_1 l0_1.length c0_1]] rfl (by (try simp only [List.map_toArray, List.map_cons, List.map_nil]); first | done | rfl | (simp only [List.length_drop, List.length_take]; rfl)) ?_; (with_reducible refine (types_Check.calls k a0_0 _ _ l0_1 t186 _ ?side1 ?side2 A2.out).mono ?_); (case side1 => repeat (first | exact (Kd.C_below HR0_1.out HB.out) | (with_reducible refine Kd.C_alloc ?_ _) | (with_reducible refine Kd.C_drewN ?_ _) | (with_reducible refine Kd.C_drew ?_))); (case side2 => exact HC0_1.out); rintro e w9 ⟨rfl, hb⟩; refine ⟨_, rfl, ?_⟩; have n0_ := Aside0.mk (blk_below (g := gb184) (o := .cells #[.int .i8 a0_0, .slice A0_1 l0_1.length c0_1] 35 (0, 0)) (by (with_reducible repeat (first | refine blk_drewN ?_ _ | refine blk_drew ?_ | refine blk_alloc ?_ _)); exact BK184.out) hb); have n1_ := Aside0.mk (blk_below (g := gb185) (o := .cells #[.int .i8 0, .slice none 0 0] 35 (0, 0)) (by (with_reducible repeat (first | refine blk_drewN ?_ _ | refine blk_drew ?_ | refine blk_alloc ?_ _)); exact BK185.out) hb); have n2_ := Aside0.mk (below_step (by repeat (first | (with_reducible first | exact HB.out | apply below_alloc | apply pw_below_drewN | apply below_drew1 | refine below_set ?_ GE184.out | refine below_set ?_ GE185.out) | exact HB.out)) hb); clear BK184; clear BK185; clear HB; have BK184 := n0_; have BK185 := n1_; have HB := n2_; clear n0_ n1_ n2_; (try clear hb); (try clear hb2); (try clear hk); (try clear hi); have hcz10_0 : w9.cell? ⟨gb184, 0, none⟩ = some (.int .i8 a0_0) := (blk_cell BK184.out 0).trans rfl; have hcz10_1 : w9.cell? ⟨gb184, 1, none⟩ = some (.slice A0_1 l0_1.length c0_1) := (blk_cell BK184.out 1).trans rfl; have hfz10_0 := blk_frozen BK184.out 0; have hfz10_1 := blk_frozen BK184.out 1; have hcz11_0 : w9.cell? ⟨gb185, 0, none⟩ = some (.int .i8 0) := (blk_cell BK185.out 0).trans rfl; have hcz11_1 : w9.cell? ⟨gb185, 1, none⟩ = some (.slice none 0 0) := (blk_cell BK185.out 1).trans rfl; have hfz11_0 := blk_frozen BK185.out 0; have hfz11_1 := blk_frozen BK185.out 1))
      refine bodyPost_ret (results_ct rfl _ _ gb185 35 #[.int .i8 0, .slice none 0 0] (0, 0) _ rfl (by (with_reducible repeat (first | refine blk_drewN ?_ _ | refine blk_drew ?_ | refine blk_alloc ?_ _)); refine blk_put (cs := #[.int .i8 0, .slice none 0 0]) ?_ 1 _ rfl; (with_reducible repeat (first | refine blk_drewN ?_ _ | refine blk_drew ?_ | refine blk_alloc ?_ _)); refine blk_put (cs := #[.int .i8 0, .slice none 0 0]) ?_ 0 _ rfl; (with_reducible repeat (first | refine blk_drewN ?_ _ | refine blk_drew ?_ | refine blk_alloc ?_ _)); exact BK185.out) Try.underlying35 rfl (by kernel_rfl)) rfl ?_
      exact ⟨_, by first | rfl | (simp [errW_none, errW_some] <;> rfl) | (simp [*, errW_none, errW_some] <;> rfl), by first | exact Kd.R_nil _ _ _ _ _ | exact Kd.N_nil _ _ _ _ _ | exact Kd.V_nil _ _ _ _ _ | exact Kd.Q_nil _ _ _ _ _ | exact Kd.S_nil _ _ _ _ _, by repeat (first | (with_reducible first | exact HB.out | apply below_alloc | apply pw_below_drewN | apply below_drew1 | refine below_set ?_ GE184.out | refine below_set ?_ GE185.out) | exact HB.out)⟩
    · rw [if_neg c4] at H
      have c4b0 : (a0_0 == 0) = false := beq_eq_false_iff_ne.mpr c4
      have c4b1 : (a0_0 != 0) = true := bne_iff_ne.mpr c4
      replace H := Option.bind_eq_some_iff.mp H
      obtain ⟨t187, A120, H⟩ := H
      replace H : (if 0 ≤ t187 then (if (t187 : Int).toNat ≤ 8796093022208 then (some (a0_0, (List.replicate (t187 : Int).toNat z35), true)) else (none)) else (none)) = some (r1, r2, r3) := H
      have A12 := Aside0.mk A120
      clear A120
      by_cases c13 : 0 ≤ t187
      · rw [if_pos c13] at H
        have c13b0 := eq_true c13
        have c13b1 : decide (0 ≤ t187) = true := decide_eq_true c13
        clear c13
        by_cases c14 : (t187 : Int).toNat ≤ 8796093022208
        · rw [if_pos c14] at H
          have c14b0 := eq_true c14
          have c14b1 : decide ((t187 : Int).toNat ≤ 8796093022208) = true := decide_eq_true c14
          clear c14
          obtain ⟨y188, hy188⟩ : ∃ y_ : List (S35), y_ = (List.replicate (t187 : Int).toNat z35) := ⟨_, rfl⟩
          replace H : (some (a0_0, y188, true)) = some (r1, r2, r3) := by first | (rw [hy188]; with_reducible exact H) | (have H2_ := (Option.bind_some _ _).symm.trans H; rw [hy188]; with_reducible exact H2_) | (have H2_ := (Option.bind_some _ _).symm.trans H; with_reducible exact H2_) | with_reducible exact H | (rw [hy188]; exact H) | exact H
          have Ny188 := Aside0.mk hy188
          clear hy188
          simp only [Option.some.injEq, Prod.mk.injEq] at H
          obtain ⟨rfl, rfl, rfl⟩ := H
          go_enter Try.func23, Try.ntmps23
          try go_wp2_with (first | ((with_reducible refine gate_dst (N := 1) rfl ?_); refine box_event ?hg (N := 1) ?hd (cs := #[.int .i8 a0_0, .slice A0_1 l0_1.length c0_1]) (t := 35) ?hr ?_; (case hd => rfl); (case hg => rfl); (case hr => first | (go_simp; done) | (go_simp; rfl)); intro gb184 hg w15 hbox hb; have n0_ := Aside0.mk (below_step (by repeat (first | (with_reducible first | exact HB.out | apply below_alloc | apply pw_below_drewN | apply below_drew1) | exact HB.out)) hb); have n1_ := Aside0.mk (hbox); have n2_ := Aside0.mk ((by rw [hg]; exact (below_size (by repeat (first | (with_reducible first | exact HB.out | apply below_alloc | apply pw_below_drewN | apply below_drew1) | exact HB.out))) : w.heap.size ≤ gb184)); have n3_ := Aside0.mk ((by rw [hg]; exact (below_size (by repeat (first | (with_reducible first | exact HB.out | apply below_alloc | apply pw_below_drewN | apply below_drew1) | exact HB.out))) : w.heap.size ≤ gb184)); clear HB; have HB := n0_; have BK184 := n1_; have GW184 := n2_; have GE184 := n3_; clear n0_ n1_ n2_ n3_; clear hb hbox hg) | ((with_reducible refine gate_dst (N := 2) rfl ?_); refine box_event ?hg (N := 2) ?hd (cs := #[.int .i8 0, .slice none 0 0]) (t := 35) ?hr ?_; (case hd => rfl); (case hg => rfl); (case hr => first | (go_simp; done) | (go_simp; rfl)); intro gb185 hg w16 hbox hb; have n0_ := Aside0.mk (blk_below (g := gb184) (o := .cells #[.int .i8 a0_0, .slice A0_1 l0_1.length c0_1] 35 (0, 0)) (by (with_reducible repeat (first | refine blk_drewN ?_ _ | refine blk_drew ?_ | refine blk_alloc ?_ _)); exact BK184.out) hb); have n1_ := Aside0.mk (below_step (by repeat (first | (with_reducible first | exact HB.out | apply below_alloc | apply pw_below_drewN | apply below_drew1 | refine below_set ?_ GE184.out) | exact HB.out)) hb); have n2_ := Aside0.mk (hbox); have n3_ := Aside0.mk ((by rw [hg]; exact (below_size (by repeat (first | (with_reducible first | exact HB.out | apply below_alloc | apply pw_below_drewN | apply below_drew1 | refine below_set ?_ GE184.out) | exact HB.out))) : w.heap.size ≤ gb185)); have n4_ := Aside0.mk ((by rw [hg]; exact (below_size (by repeat (first | (with_reducible first | exact HB.out | apply below_alloc | apply pw_below_drewN | apply below_drew1 | refine below_set ?_ GE184.out) | exact HB.out))) : w.heap.size ≤ gb185)); have n5_ := Aside0.mk ((by rw [hg]; exact Nat.ne_of_lt (blk_lt (g := gb184) (o := .cells #[.int .i8 a0_0, .slice A0_1 l0_1.length c0_1] 35 (0, 0)) (by (with_reducible repeat (first | refine blk_drewN ?_ _ | refine blk_drew ?_ | refine blk_alloc ?_ _)); exact BK184.out)) : gb184 ≠ gb185)); have n6_ := Aside0.mk ((by rw [hg]; exact Nat.ne_of_gt (blk_lt (g := gb184) (o := .cells #[.int .i8 a0_0, .slice A0_1 l0_1.length c0_1] 35 (0, 0)) (by (with_reducible repeat (first | refine blk_drewN ?_ _ | refine blk_drew ?_ | refine blk_alloc ?_ _)); exact BK184.out)) : gb185 ≠ gb184)); clear BK184; clear HB; have BK184 := n0_; have HB := n1_; have BK185 := n2_; have GW185 := n3_; have GE185 := n4_; have NB184_185 := n5_; have NB185_184 := n6_; clear n0_ n1_ n2_ n3_ n4_ n5_ n6_; clear hb hbox hg; have hnb17 := NB184_185.out; have hnc17 := NB185_184.out; have hcz18_0 : w16.cell? ⟨gb184, 0, none⟩ = some (.int .i8 a0_0) := (blk_cell BK184.out 0).trans rfl; have hcz18_1 : w16.cell? ⟨gb184, 1, none⟩ = some (.slice A0_1 l0_1.length c0_1) := (blk_cell BK184.out 1).trans rfl; have hfz18_0 := blk_frozen BK184.out 0; have hfz18_1 := blk_frozen BK184.out 1) | ((with_reducible refine gate_callee (f := 10) rfl ?_); refine goesL_ (some 5) rfl rfl Try.func10 (by kernel_rfl) rfl #[.agg #[.int .i8 a0_0, .slice A0_1 l0_1.length c0_1]] rfl (by (try simp only [List.map_toArray, List.map_cons, List.map_nil]); first | done | rfl | (simp only [List.length_drop, List.length_take]; rfl)) ?_; (with_reducible refine (types_Check.calls k a0_0 _ _ l0_1 t186 _ ?side1 ?side2 A2.out).mono ?_); (case side1 => repeat (first | exact (Kd.C_below HR0_1.out HB.out) | (with_reducible refine Kd.C_alloc ?_ _) | (with_reducible refine Kd.C_drewN ?_ _) | (with_reducible refine Kd.C_drew ?_))); (case side2 => exact HC0_1.out); rintro e w19 ⟨rfl, hb⟩; refine ⟨_, rfl, ?_⟩; have n0_ := Aside0.mk (blk_below (g := gb184) (o := .cells #[.int .i8 a0_0, .slice A0_1 l0_1.length c0_1] 35 (0, 0)) (by (with_reducible repeat (first | refine blk_drewN ?_ _ | refine blk_drew ?_ | refine blk_alloc ?_ _)); exact BK184.out) hb); have n1_ := Aside0.mk (blk_below (g := gb185) (o := .cells #[.int .i8 0, .slice none 0 0] 35 (0, 0)) (by (with_reducible repeat (first | refine blk_drewN ?_ _ | refine blk_drew ?_ | refine blk_alloc ?_ _)); exact BK185.out) hb); have n2_ := Aside0.mk (below_step (by repeat (first | (with_reducible first | exact HB.out | apply below_alloc | apply pw_below_drewN | apply below_drew1 | refine below_set ?_ GE184.out | refine below_set ?_ GE185.out) | exact HB.out)) hb); clear BK184; clear BK185; clear HB; have BK184 := n0_; have BK185 := n1_; have HB := n2_; clear n0_ n1_ n2_; (try clear hb); (try clear hb2); (try clear hk); (try clear hi); have hcz20_0 : w19.cell? ⟨gb184, 0, none⟩ = some (.int .i8 a0_0) := (blk_cell BK184.out 0).trans rfl; have hcz20_1 : w19.cell? ⟨gb184, 1, none⟩ = some (.slice A0_1 l0_1.length c0_1) := (blk_cell BK184.out 1).trans rfl; have hfz20_0 := blk_frozen BK184.out 0; have hfz20_1 := blk_frozen BK184.out 1))
          have n0_ := Aside0.mk (blk_drew BK184.out)
          have n1_ := Aside0.mk (blk_drew BK185.out)
          have n2_ := Aside0.mk (below_drew1 HB.out)
          clear BK184
          clear BK185
          clear HB
          have BK184 := n0_
          have BK185 := n1_
          have HB := n2_
          clear n0_ n1_ n2_
          refine start_ (n := 9) (S := fun w' => w'.cell? ⟨gb184, 0, none⟩ = some (.int .i8 a0_0) ∧ w'.cell? ⟨gb184, 1, none⟩ = some (.slice A0_1 l0_1.length c0_1)) (ds := []) #[false, false, false, false, false, false, false, false, false] (by kernel_rfl) rfl rfl ⟨(blk_cell BK184.out 0).trans rfl, (blk_cell BK184.out 1).trans rfl⟩ (fun hHeld => ?_); refine with_tabW types_Ground.tab3 types_Ground.bits3 (fun HT_ HW_ => ?_)
          generalize w19.drew = w21 at BK184 BK185 HB hHeld ⊢
          refine pure_ (i := 0) (N := some 13) (v := ?_) (a' := ?_) #[true, false, false, false, false, false, false, false, false] rfl rfl (any_of HT_.out (by kernel_rfl)) (fun _ _ _ h => h) (Or.inl ⟨by rfl, ?_⟩) ?_ ?_
          rotate_left
          · intro w'
            go_simp
            with_reducible rfl
          rotate_left
          · simp only [Act.put, List.setIfInBounds_toArray, List.set_cons_zero, List.set_cons_succ, i64_w, i32_w]
            rfl
          refine pure_ (i := 2) (N := some 15) (v := ?_) (a' := ?_) #[true, false, true, false, false, false, false, false, false] rfl rfl (any_of HT_.out (by kernel_rfl)) (fun _ _ _ h => h) (Or.inl ⟨by rfl, ?_⟩) ?_ ?_
          rotate_left
          · intro w'
            go_simp
            with_reducible rfl
          rotate_left
          · simp only [Act.put, List.setIfInBounds_toArray, List.set_cons_zero, List.set_cons_succ, i64_w, i32_w]
            rfl
          refine take_ (i := 1) (N := some 14) (v := ?_) (a' := ?_) #[true, true, true, false, false, false, false, false, false] rfl rfl (take_ofW HT_.out HW_.out (by kernel_rfl)) (fun _ _ _ h => h) (Or.inl ⟨by rfl, ?_⟩) hHeld ?_ ?_
          rotate_left
          · rintro w' ⟨s0, s1⟩
            go_simp
            with_reducible rfl
          rotate_left
          · simp only [Act.put, List.setIfInBounds_toArray, List.set_cons_zero, List.set_cons_succ, i64_w, i32_w]
            rfl
          refine take_ (i := 3) (N := some 16) (v := ?_) (a' := ?_) #[true, true, true, true, false, false, false, false, false] rfl rfl (take_ofW HT_.out HW_.out (by kernel_rfl)) (fun _ _ _ h => h) (Or.inl ⟨by rfl, ?_⟩) hHeld ?_ ?_
          rotate_left
          · rintro w' ⟨s0, s1⟩
            go_simp
            with_reducible rfl
          rotate_left
          · simp only [Act.put, List.setIfInBounds_toArray, List.set_cons_zero, List.set_cons_succ, i64_w, i32_w]
            rfl
          refine one_ (i := 4) (N := some 17) #[true, true, true, true, true, false, false, false, false] rfl rfl (one_of HT_.out (by kernel_rfl)) (by decide) (fun K hK => ?_)
          refine goes_ Try.func44 (by kernel_rfl) rfl #[.int .i8 a0_0] (by rfl) rfl rfl (by (try simp only [List.map_toArray, List.map_cons, List.map_nil]); first | done | rfl | (simp only [List.length_drop, List.length_take]; rfl)) ?_
          with_reducible refine (types_parts.calls k a0_0 t187 _ A12.out).mono ?_
          rintro e w' ⟨rfl, ⟨nd, rfl⟩⟩
          refine ⟨_, rfl, ?_⟩
          refine hK.out _ _ ⟨(blk_cell BK184.out 0).trans rfl, (blk_cell BK184.out 1).trans rfl⟩ (fun hHeld => ?_)
          clear hK K
          refine norm_ (a' := ?_) ?_ ?_
          rotate_left
          · show Act.put _ (some 17) _ = _
            simp only [Act.put, List.setIfInBounds_toArray, List.set_cons_zero, List.set_cons_succ, i64_w, i32_w]
            rfl
          refine one_ (i := 5) (N := some 18) #[true, true, true, true, true, true, false, false, false] rfl rfl (one_of HT_.out (by kernel_rfl)) (by decide) (fun K hK => ?_)
          refine Kd.R_make_step k35 _ 35 (by rfl) (N := 18) rfl 33 _ _ rfl t187 rfl rfl Try.underlying33 (.agg #[(.int .i8 0), (.slice none 0 0)]) 32 info35 rfl (by decide) (by omega) z35 (ok := fun _ => True) (okp := fun _ => True) (k35_mkM _ _ _ z35 (Kd.R_nil _ _ _ _ _)) (fun _ hk => hk) trivial (of_decide_eq_true (by first | (with_reducible assumption) | assumption)) (Nat.le_trans (Nat.mul_le_mul_right _ (of_decide_eq_true (by first | (with_reducible assumption) | assumption) : t187.toNat ≤ 8796093022208)) (by omega)) (Below.refl _ _) (Nat.le_refl _) ?_
          intro v189 w22 ho23 hb hg_ hnew_
          clear hg_ hnew_
          (first | rw [← Ny188.out] at ho23 | (simp only [Int.reduceToNat] at ho23; rw [← Ny188.out] at ho23))
          have n0_ := Aside0.mk (Kd.R_lower (Kd.R_newB (Kd.R_newB ho23 (g := gb184) (o := .cells #[.int .i8 a0_0, .slice A0_1 l0_1.length c0_1] 35 (0, 0)) (by (with_reducible repeat (first | refine blk_drewN ?_ _ | refine blk_drew ?_ | refine blk_alloc ?_ _)); exact BK184.out)) (g := gb185) (o := .cells #[.int .i8 0, .slice none 0 0] 35 (0, 0)) (by (with_reducible repeat (first | refine blk_drewN ?_ _ | refine blk_drew ?_ | refine blk_alloc ?_ _)); exact BK185.out)) (below_size (by repeat (first | (with_reducible first | exact HB.out | apply below_alloc | apply pw_below_drewN | apply below_drew1 | refine below_set ?_ GE184.out | refine below_set ?_ GE185.out) | exact HB.out))))
          have n1_ := Aside0.mk (blk_below (g := gb184) (o := .cells #[.int .i8 a0_0, .slice A0_1 l0_1.length c0_1] 35 (0, 0)) (by (with_reducible repeat (first | refine blk_drewN ?_ _ | refine blk_drew ?_ | refine blk_alloc ?_ _)); exact BK184.out) hb)
          have n2_ := Aside0.mk (blk_below (g := gb185) (o := .cells #[.int .i8 0, .slice none 0 0] 35 (0, 0)) (by (with_reducible repeat (first | refine blk_drewN ?_ _ | refine blk_drew ?_ | refine blk_alloc ?_ _)); exact BK185.out) hb)
          have n3_ := Aside0.mk (below_step (by repeat (first | (with_reducible first | exact HB.out | apply below_alloc | apply pw_below_drewN | apply below_drew1 | refine below_set ?_ GE184.out | refine below_set ?_ GE185.out) | exact HB.out)) hb)
          clear BK184
          clear BK185
          clear HB
          have HO190 := n0_
          have BK184 := n1_
          have BK185 := n2_
          have HB := n3_
          clear n0_ n1_ n2_ n3_
          clear hb ho23
          obtain ⟨Ao24, co24, eo24⟩ := Kd.R_slice HO190.out
          (first | subst eo24 | (injection eo24 with f1_ f2_ f3_; have f4_ := f1_.symm; have f5_ := f3_.symm; clear f1_ f2_ f3_; subst f4_; subst f5_))
          refine hK.out _ _ ⟨(blk_cell BK184.out 0).trans rfl, (blk_cell BK184.out 1).trans rfl⟩ (fun hHeld => ?_)
          clear hK K
          refine norm_ (a' := ?_) ?_ ?_
          rotate_left
          · show Act.put _ (some 18) _ = _
            simp only [Act.put, List.setIfInBounds_toArray, List.set_cons_zero, List.set_cons_succ, i64_w, i32_w]
            rfl
          refine pure_ (i := 6) (N := some 19) (v := ?_) (a' := ?_) #[true, true, true, true, true, true, true, false, false] rfl rfl (any_of HT_.out (by kernel_rfl)) (fun _ _ _ h => h) (Or.inl ⟨by rfl, ?_⟩) ?_ ?_
          rotate_left
          · intro w'
            go_simp
            with_reducible rfl
          rotate_left
          · simp only [Act.put, List.setIfInBounds_toArray, List.set_cons_zero, List.set_cons_succ, i64_w, i32_w]
            rfl
          refine one_ (i := 7) (N := none) #[true, true, true, true, true, true, true, true, false] rfl rfl (one_of HT_.out (by kernel_rfl)) (by decide) (fun K hK => ?_)
          have hs25 : w22.cell? ⟨gb185, 0, none⟩ = some (.int .i8 0) := (blk_cell BK185.out 0).trans rfl
          have hfs25 := blk_frozen BK185.out 0
          have hns25_0 := NB184_185.out
          have hms25_0 := NB185_184.out
          have hs26 : w22.cell? ⟨gb185, 1, none⟩ = some (.slice none 0 0) := (blk_cell BK185.out 1).trans rfl
          have hfs26 := blk_frozen BK185.out 1
          have hns26_0 := NB184_185.out
          have hms26_0 := NB185_184.out
          refine skip_ (w1 := ?_) (by rfl) rfl ?_ ?_
          rotate_left
          · go_simp
            rfl
          refine hK.out _ _ ⟨((cell_far (p := ⟨gb185, _, none⟩) NB184_185.out _).trans (((cell_far (p := ⟨gb185, _, none⟩) NB184_185.out _).trans (hHeld.1)))), ((cell_far (p := ⟨gb185, _, none⟩) NB184_185.out _).trans (((cell_far (p := ⟨gb185, _, none⟩) NB184_185.out _).trans (hHeld.2))))⟩ (fun hHeld => ?_)
          clear hK K
          refine pure_ (i := 8) (N := some 3) (v := ?_) (a' := ?_) #[true, true, true, true, true, true, true, true, true] rfl rfl (any_of HT_.out (by kernel_rfl)) (fun _ _ _ h => h) (Or.inl ⟨by rfl, ?_⟩) ?_ ?_
          rotate_left
          · intro w'
            go_simp
            with_reducible rfl
          rotate_left
          · simp only [Act.put, List.setIfInBounds_toArray, List.set_cons_zero, List.set_cons_succ, i64_w, i32_w]
            rfl
          refine done_ (done_of HT_.out (by kernel_rfl)) ?_
          try go_wp2
          refine bodyPost_ret (results_ct rfl _ _ gb185 35 #[.int .i8 a0_0, .slice Ao24 y188.length co24] (0, 0) _ rfl (by (with_reducible repeat (first | refine blk_drewN ?_ _ | refine blk_drew ?_ | refine blk_alloc ?_ _)); refine blk_put (cs := #[.int .i8 a0_0, .slice none 0 0]) ?_ 1 _ rfl; (with_reducible repeat (first | refine blk_drewN ?_ _ | refine blk_drew ?_ | refine blk_alloc ?_ _)); refine blk_put (cs := #[.int .i8 0, .slice none 0 0]) ?_ 0 _ rfl; (with_reducible repeat (first | refine blk_drewN ?_ _ | refine blk_drew ?_ | refine blk_alloc ?_ _)); exact BK185.out) Try.underlying35 rfl (by kernel_rfl)) rfl ?_
          exact ⟨_, by first | rfl | (simp [errW_none, errW_some] <;> rfl) | (simp [*, errW_none, errW_some] <;> rfl), by (with_reducible repeat (first | apply Kd.R_alloc | apply Kd.R_drewN | apply Kd.R_drew)); exact Kd.R_mono (Kd.R_far (p := ⟨gb185, 1, none⟩) (Kd.R_far (p := ⟨gb185, 0, none⟩) (Kd.R_mono HO190.out (fun k_ hk => (⟨hk, hk.2⟩ : _ ∧ k_ ≠ gb185))) (fun _ hk => hk.2) (.int .i8 a0_0)) (fun _ hk => hk.2) (.slice Ao24 y188.length co24)) (fun _ hk => trivial), by repeat (first | (with_reducible first | exact HB.out | apply below_alloc | apply pw_below_drewN | apply below_drew1 | refine below_set ?_ GE184.out | refine below_set ?_ GE185.out) | exact HB.out)⟩
        · rw [if_neg c14] at H
          exact absurd H (by simp)
      · rw [if_neg c13] at H
        exact absurd H (by simp)
  · rw [if_neg c3] at H
    have c3b0 : (t186 == 0) = false := beq_eq_false_iff_ne.mpr c3
    have c3b1 : (t186 != 0) = true := bne_iff_ne.mpr c3
    simp only [Option.some.injEq, Prod.mk.injEq] at H
    obtain ⟨rfl, rfl, rfl⟩ := H
    go_enter Try.func23, Try.ntmps23
    go_wp2_with (first | ((with_reducible refine gate_dst (N := 1) rfl ?_); refine box_event ?hg (N := 1) ?hd (cs := #[.int .i8 a0_0, .slice A0_1 l0_1.length c0_1]) (t := 35) ?hr ?_; (case hd => rfl); (case hg => rfl); (case hr => first | (go_simp; done) | (go_simp; rfl)); intro gb184 hg w27 hbox hb; have n0_ := Aside0.mk (below_step (by repeat (first | (with_reducible first | exact HB.out | apply below_alloc | apply pw_below_drewN | apply below_drew1) | exact HB.out)) hb); have n1_ := Aside0.mk (hbox); have n2_ := Aside0.mk ((by rw [hg]; exact (below_size (by repeat (first | (with_reducible first | exact HB.out | apply below_alloc | apply pw_below_drewN | apply below_drew1) | exact HB.out))) : w.heap.size ≤ gb184)); have n3_ := Aside0.mk ((by rw [hg]; exact (below_size (by repeat (first | (with_reducible first | exact HB.out | apply below_alloc | apply pw_below_drewN | apply below_drew1) | exact HB.out))) : w.heap.size ≤ gb184)); clear HB; have HB := n0_; have BK184 := n1_; have GW184 := n2_; have GE184 := n3_; clear n0_ n1_ n2_ n3_; clear hb hbox hg) | ((with_reducible refine gate_dst (N := 2) rfl ?_); refine box_event ?hg (N := 2) ?hd (cs := #[.int .i8 0, .slice none 0 0]) (t := 35) ?hr ?_; (case hd => rfl); (case hg => rfl); (case hr => first | (go_simp; done) | (go_simp; rfl)); intro gb185 hg w28 hbox hb; have n0_ := Aside0.mk (blk_below (g := gb184) (o := .cells #[.int .i8 a0_0, .slice A0_1 l0_1.length c0_1] 35 (0, 0)) (by (with_reducible repeat (first | refine blk_drewN ?_ _ | refine blk_drew ?_ | refine blk_alloc ?_ _)); exact BK184.out) hb); have n1_ := Aside0.mk (below_step (by repeat (first | (with_reducible first | exact HB.out | apply below_alloc | apply pw_below_drewN | apply below_drew1 | refine below_set ?_ GE184.out) | exact HB.out)) hb); have n2_ := Aside0.mk (hbox); have n3_ := Aside0.mk ((by rw [hg]; exact (below_size (by repeat (first | (with_reducible first | exact HB.out | apply below_alloc | apply pw_below_drewN | apply below_drew1 | refine below_set ?_ GE184.out) | exact HB.out))) : w.heap.size ≤ gb185)); have n4_ := Aside0.mk ((by rw [hg]; exact (below_size (by repeat (first | (with_reducible first | exact HB.out | apply below_alloc | apply pw_below_drewN | apply below_drew1 | refine below_set ?_ GE184.out) | exact HB.out))) : w.heap.size ≤ gb185)); have n5_ := Aside0.mk ((by rw [hg]; exact Nat.ne_of_lt (blk_lt (g := gb184) (o := .cells #[.int .i8 a0_0, .slice A0_1 l0_1.length c0_1] 35 (0, 0)) (by (with_reducible repeat (first | refine blk_drewN ?_ _ | refine blk_drew ?_ | refine blk_alloc ?_ _)); exact BK184.out)) : gb184 ≠ gb185)); have n6_ := Aside0.mk ((by rw [hg]; exact Nat.ne_of_gt (blk_lt (g := gb184) (o := .cells #[.int .i8 a0_0, .slice A0_1 l0_1.length c0_1] 35 (0, 0)) (by (with_reducible repeat (first | refine blk_drewN ?_ _ | refine blk_drew ?_ | refine blk_alloc ?_ _)); exact BK184.out)) : gb185 ≠ gb184)); clear BK184; clear HB; have BK184 := n0_; have HB := n1_; have BK185 := n2_; have GW185 := n3_; have GE185 := n4_; have NB184_185 := n5_; have NB185_184 := n6_; clear n0_ n1_ n2_ n3_ n4_ n5_ n6_; clear hb hbox hg; have hnb29 := NB184_185.out; have hnc29 := NB185_184.out; have hcz30_0 : w28.cell? ⟨gb184, 0, none⟩ = some (.int .i8 a0_0) := (blk_cell BK184.out 0).trans rfl; have hcz30_1 : w28.cell? ⟨gb184, 1, none⟩ = some (.slice A0_1 l0_1.length c0_1) := (blk_cell BK184.out 1).trans rfl; have hfz30_0 := blk_frozen BK184.out 0; have hfz30_1 := blk_frozen BK184.out 1) | ((with_reducible refine gate_callee (f := 10) rfl ?_); refine goesL_ (some 5) rfl rfl Try.func10 (by kernel_rfl) rfl #[.agg #[.int .i8 a0_0, .slice A0_1 l0_1.length c0_1]] rfl (by (try simp only [List.map_toArray, List.map_cons, List.map_nil]); first | done | rfl | (simp only [List.length_drop, List.length_take]; rfl)) ?_; (with_reducible refine (types_Check.calls k a0_0 _ _ l0_1 t186 _ ?side1 ?side2 A2.out).mono ?_); (case side1 => repeat (first | exact (Kd.C_below HR0_1.out HB.out) | (with_reducible refine Kd.C_alloc ?_ _) | (with_reducible refine Kd.C_drewN ?_ _) | (with_reducible refine Kd.C_drew ?_))); (case side2 => exact HC0_1.out); rintro e w31 ⟨rfl, hb⟩; refine ⟨_, rfl, ?_⟩; have n0_ := Aside0.mk (blk_below (g := gb184) (o := .cells #[.int .i8 a0_0, .slice A0_1 l0_1.length c0_1] 35 (0, 0)) (by (with_reducible repeat (first | refine blk_drewN ?_ _ | refine blk_drew ?_ | refine blk_alloc ?_ _)); exact BK184.out) hb); have n1_ := Aside0.mk (blk_below (g := gb185) (o := .cells #[.int .i8 0, .slice none 0 0] 35 (0, 0)) (by (with_reducible repeat (first | refine blk_drewN ?_ _ | refine blk_drew ?_ | refine blk_alloc ?_ _)); exact BK185.out) hb); have n2_ := Aside0.mk (below_step (by repeat (first | (with_reducible first | exact HB.out | apply below_alloc | apply pw_below_drewN | apply below_drew1 | refine below_set ?_ GE184.out | refine below_set ?_ GE185.out) | exact HB.out)) hb); clear BK184; clear BK185; clear HB; have BK184 := n0_; have BK185 := n1_; have HB := n2_; clear n0_ n1_ n2_; (try clear hb); (try clear hb2); (try clear hk); (try clear hi); have hcz32_0 : w31.cell? ⟨gb185, 0, none⟩ = some (.int .i8 0) := (blk_cell BK185.out 0).trans rfl; have hcz32_1 : w31.cell? ⟨gb185, 1, none⟩ = some (.slice none 0 0) := (blk_cell BK185.out 1).trans rfl; have hfz32_0 := blk_frozen BK185.out 0; have hfz32_1 := blk_frozen BK185.out 1))
    refine bodyPost_ret (results_ct rfl _ _ gb185 35 #[.int .i8 0, .slice none 0 0] (0, 0) _ rfl (by (with_reducible repeat (first | refine blk_drewN ?_ _ | refine blk_drew ?_ | refine blk_alloc ?_ _)); refine blk_put (cs := #[.int .i8 0, .slice none 0 0]) ?_ 1 _ rfl; (with_reducible repeat (first | refine blk_drewN ?_ _ | refine blk_drew ?_ | refine blk_alloc ?_ _)); refine blk_put (cs := #[.int .i8 0, .slice none 0 0]) ?_ 0 _ rfl; (with_reducible repeat (first | refine blk_drewN ?_ _ | refine blk_drew ?_ | refine blk_alloc ?_ _)); exact BK185.out) Try.underlying35 rfl (by kernel_rfl)) rfl ?_
    exact ⟨_, by first | rfl | (simp [errW_none, errW_some] <;> rfl) | (simp [*, errW_none, errW_some] <;> rfl), by first | exact Kd.R_nil _ _ _ _ _ | exact Kd.N_nil _ _ _ _ _ | exact Kd.V_nil _ _ _ _ _ | exact Kd.Q_nil _ _ _ _ _ | exact Kd.S_nil _ _ _ _ _, by repeat (first | (with_reducible first | exact HB.out | apply below_alloc | apply pw_below_drewN | apply below_drew1 | refine below_set ?_ GE184.out | refine below_set ?_ GE185.out) | exact HB.out)⟩

end Go.Proofs.Ytjmpejbciniceaa.X
