/- Texts of this claim, joined: HAtom, HLeft. -/
import Derived.Deep.LoopGhost
import Derived.Test.YtjmpejbciniceaaJTypesBack0
import Derived.Test.YtjmpejbciniceaaJTypesBack1
import Derived.Test.YtjmpejbciniceaaJTypesBack2
import Derived.Test.YtjmpejbciniceaaJTypesBack3
import Derived.Test.YtjmpejbciniceaaJTypesBack4
import Derived.Test.YtjmpejbciniceaaJTypesBack5
import Derived.Test.YtjmpejbciniceaaJTypesBack6
import Derived.Test.YtjmpejbciniceaaJTypesBack7
import Derived.Test.YtjmpejbciniceaaJTypesBack8
import Derived.Test.YtjmpejbciniceaaJTypesBack9
/- types' atom: the leaves, and at '(' over whole's contract. -/
namespace Go.Proofs.Ytjmpejbciniceaa.X
open Go.RowKit Go.Proofs.YtjmpejbciniceaaW.PrintWords Go.Proofs.YtjmpejbciniceaaW.PrintLast Go.Proofs.YtjmpejbciniceaaW.PrintMore
set_option linter.unusedVariables false
set_option linter.unusedSimpArgs false

theorem Tr.far {w0 : World} {g : Nat} {A : Option Addr} {c : Nat} {xs : List S29} {i : Nat} {w : World} (h : Tr w0 g A c xs i w) (p : Addr) (u : Value) (hp : g ≠ p.block) (hl : w0.heap.size ≤ p.block) : Tr w0 g A c xs i (w.setCell p u) :=
  ⟨(Below.heap_setCell w p u g hp).trans h.blk, h.words, h.low, h.below.setCell hl _⟩
theorem keep_far {w w1 : World} {g : Nat} (h : KeepBut w w1 g none) (p : Addr) (u : Value) (hp : w.heap.size ≤ p.block) : KeepBut w (w1.setCell p u) g none :=
  ⟨Nat.le_trans h.1 ((Below.refl 0 w1).setCell (p := p) (Nat.zero_le _) u).size, fun i hi hg hr => (Below.heap_setCell w1 p u i (by omega)).trans (h.2 i hi hg hr)⟩
theorem keep_first {w w1 w2 : World} {g : Nat} (hb : Below w.heap.size w w1) (h : KeepBut w1 w2 g none) : KeepBut w w2 g none := (KeepBut.of_below hb g none).trans h (.inl rfl)
set_option maxRecDepth 100000 in
set_option maxHeartbeats 3200000 in
theorem atom_leaves {w0 : World} {g : Nat} {A : Option Addr} {c : Nat} {xs : List S29} {i : Nat} {w : World} (h : Tr w0 g A c xs i w) (hn : xs.length ≤ 200000) (hi : i ≤ xs.length) (r : Except (List Tk) (S35 × List Tk)) (f : Nat) (HR : Aside0 (parE (f + 1) 4 (toks xs i) = r)) (hO : headIs tkO (toks xs i) = false) :
    Calls Try.prog 59 #[.pointer (some ⟨g, 0, none⟩)] w (ReadPost w0 g A c xs i w r) := by
  have hgl := blk_lt h.blk
  have hlow := h.below.size
  have HT := Aside0.mk (h.after (below1 w #[.int .i8 0, .slice none 0 0] 35))
  have HK := Aside0.mk (KeepBut.of_below (below1 w #[.int .i8 0, .slice none 0 0] 35) g none)
  have HB := Aside0.mk (heap_alloc_new w (.cells #[.int .i8 0, .slice none 0 0] 35))
  clear h
  go_enter Try.func59, Try.ntmps59
  go_wp2_with fail
  generalize w.alloc (.cells #[.int .i8 0, .slice none 0 0] 35) = wa at *
  refine (take_calls HT.out hn hi 4 ⟨#[63]⟩).mono ?_
  rintro e v0 h
  have e0 : (⟨#[63]⟩ : ByteArray).toList = [63] := bytes_toList _
  rw [TakePost, e0, nextIs_iff] at h
  rw [show ((4 : Int), ([63] : List UInt8)) = tkQ from rfl] at h
  clear e0
  rcases h with ⟨hyes, rfl, hT, hK⟩ | ⟨hno, rfl, hT, hK⟩
  · have hlt : i < xs.length := nextIs_lt ((nextIs_iff _ _ _ _).2 (show headIs tkQ (toks xs i) = true from hyes))
    replace HK := Aside0.mk (HK.out.trans hK (.inl rfl))
    replace HB := Aside0.mk (hK.blk HB.out (by omega) (by simp))
    replace HT := Aside0.mk hT
    clear hT hK
    have c0 := (blk_cell HB.out 0).trans rfl
    have c1 := (blk_cell HB.out 1).trans rfl
    have z0 := blk_frozen HB.out 0
    have z1 := blk_frozen HB.out 1
    simp at c0 c1
    go_wp2_with fail
    refine bodyPost_ret (results_cell_row rfl _ _ w.heap.size 35 #[.int .i8 0, .slice none 0 0] (0, 0) _ rfl (by refine blk_put (cs := #[.int .i8 0, .slice none 0 0]) ?_ 1 _ rfl; refine blk_put (cs := #[.int .i8 0, .slice none 0 0]) ?_ 0 _ rfl; exact HB.out) Try.underlying35 rfl (by kernel_rfl)) rfl ?_
    rw [← HR.out, parE_four, if_pos hyes]
    exact ⟨keep_far (keep_far HK.out _ _ (Nat.le_refl _)) _ _ (Nat.le_refl _), _, i + 1, rfl, Kd.R_nil _ _ _ _ _, (HT.out.far _ _ (by show g ≠ w.heap.size; omega) hlow).far _ _ (by show g ≠ w.heap.size; omega) hlow, Nat.le_succ _, hlt, toks_tail _ _⟩
  · have H0 := Aside0.mk hno
    clear hno
    replace HK := Aside0.mk (HK.out.trans hK (.inl rfl))
    replace HB := Aside0.mk (hK.blk HB.out (by omega) (by simp))
    replace HT := Aside0.mk hT
    clear hT hK
    go_wp2_with fail
    refine (take_calls HT.out hn hi 3 ⟨#[105, 110, 116]⟩).mono ?_
    rintro e v1 h
    have e1 : (⟨#[105, 110, 116]⟩ : ByteArray).toList = [105, 110, 116] := bytes_toList _
    rw [TakePost, e1, nextIs_iff] at h
    rw [show ((3 : Int), ([105, 110, 116] : List UInt8)) = tkI from rfl] at h
    clear e1
    rcases h with ⟨hyes, rfl, hT, hK⟩ | ⟨hno, rfl, hT, hK⟩
    · have hlt : i < xs.length := nextIs_lt ((nextIs_iff _ _ _ _).2 (show headIs tkI (toks xs i) = true from hyes))
      replace HK := Aside0.mk (HK.out.trans hK (.inl rfl))
      replace HB := Aside0.mk (hK.blk HB.out (by omega) (by simp))
      replace HT := Aside0.mk hT
      clear hT hK
      have c0 := (blk_cell HB.out 0).trans rfl
      have c1 := (blk_cell HB.out 1).trans rfl
      have z0 := blk_frozen HB.out 0
      have z1 := blk_frozen HB.out 1
      simp at c0 c1
      go_wp2_with fail
      refine bodyPost_ret (results_cell_row rfl _ _ w.heap.size 35 #[.int .i8 1, .slice none 0 0] (0, 0) _ rfl (by refine blk_put (cs := #[.int .i8 1, .slice none 0 0]) ?_ 1 _ rfl; refine blk_put (cs := #[.int .i8 0, .slice none 0 0]) ?_ 0 _ rfl; exact HB.out) Try.underlying35 rfl (by kernel_rfl)) rfl ?_
      rw [← HR.out, parE_four, if_neg H0.out, if_pos hyes]
      exact ⟨keep_far (keep_far HK.out _ _ (Nat.le_refl _)) _ _ (Nat.le_refl _), _, i + 1, rfl, Kd.R_nil _ _ _ _ _, (HT.out.far _ _ (by show g ≠ w.heap.size; omega) hlow).far _ _ (by show g ≠ w.heap.size; omega) hlow, Nat.le_succ _, hlt, toks_tail _ _⟩
    · have H1 := Aside0.mk hno
      clear hno
      replace HK := Aside0.mk (HK.out.trans hK (.inl rfl))
      replace HB := Aside0.mk (hK.blk HB.out (by omega) (by simp))
      replace HT := Aside0.mk hT
      clear hT hK
      go_wp2_with fail
      refine (take_calls HT.out hn hi 3 ⟨#[98, 111, 111, 108]⟩).mono ?_
      rintro e v2 h
      have e2 : (⟨#[98, 111, 111, 108]⟩ : ByteArray).toList = [98, 111, 111, 108] := bytes_toList _
      rw [TakePost, e2, nextIs_iff] at h
      rw [show ((3 : Int), ([98, 111, 111, 108] : List UInt8)) = tkB from rfl] at h
      clear e2
      rcases h with ⟨hyes, rfl, hT, hK⟩ | ⟨hno, rfl, hT, hK⟩
      · have hlt : i < xs.length := nextIs_lt ((nextIs_iff _ _ _ _).2 (show headIs tkB (toks xs i) = true from hyes))
        replace HK := Aside0.mk (HK.out.trans hK (.inl rfl))
        replace HB := Aside0.mk (hK.blk HB.out (by omega) (by simp))
        replace HT := Aside0.mk hT
        clear hT hK
        have c0 := (blk_cell HB.out 0).trans rfl
        have c1 := (blk_cell HB.out 1).trans rfl
        have z0 := blk_frozen HB.out 0
        have z1 := blk_frozen HB.out 1
        simp at c0 c1
        go_wp2_with fail
        refine bodyPost_ret (results_cell_row rfl _ _ w.heap.size 35 #[.int .i8 2, .slice none 0 0] (0, 0) _ rfl (by refine blk_put (cs := #[.int .i8 2, .slice none 0 0]) ?_ 1 _ rfl; refine blk_put (cs := #[.int .i8 0, .slice none 0 0]) ?_ 0 _ rfl; exact HB.out) Try.underlying35 rfl (by kernel_rfl)) rfl ?_
        rw [← HR.out, parE_four, if_neg H0.out, if_neg H1.out, if_pos hyes]
        exact ⟨keep_far (keep_far HK.out _ _ (Nat.le_refl _)) _ _ (Nat.le_refl _), _, i + 1, rfl, Kd.R_nil _ _ _ _ _, (HT.out.far _ _ (by show g ≠ w.heap.size; omega) hlow).far _ _ (by show g ≠ w.heap.size; omega) hlow, Nat.le_succ _, hlt, toks_tail _ _⟩
      · have H2 := Aside0.mk hno
        clear hno
        replace HK := Aside0.mk (HK.out.trans hK (.inl rfl))
        replace HB := Aside0.mk (hK.blk HB.out (by omega) (by simp))
        replace HT := Aside0.mk hT
        clear hT hK
        go_wp2_with fail
        refine (take_calls HT.out hn hi 4 ⟨#[40]⟩).mono ?_
        rintro e v4 h
        have e4 : (⟨#[40]⟩ : ByteArray).toList = [40] := bytes_toList _
        rw [TakePost, e4, nextIs_iff] at h
        rw [show ((4 : Int), ([40] : List UInt8)) = tkO from rfl] at h
        clear e4
        rcases h with ⟨hyes, rfl, hT, hK⟩ | ⟨hno, rfl, hT, hK⟩
        · exact absurd hyes (by rw [hO]; simp)
        · clear hno
          replace HK := Aside0.mk (HK.out.trans hK (.inl rfl))
          replace HT := Aside0.mk hT
          clear hT hK
          go_wp2_with fail
          refine (wrong_calls HT.out hn).mono ?_
          rintro e w5 ⟨q, rfl, hB, hq⟩
          have HK5 := Aside0.mk (HK.out.trans (KeepBut.of_below hB g none) (.inl rfl))
          have HQ := Aside0.mk (And.intro hq (below_then HT.out.below HT.out.below.size hB))
          clear hB hq
          go_wp2_with fail
          rw [← HR.out, parE_four, if_neg H0.out, if_neg H1.out, if_neg H2.out, if_neg (by rw [hO]; simp)]
          exact ⟨rfl, HK5.out, q, i, rfl, rfl, hi, HQ.out⟩
set_option maxRecDepth 100000 in
set_option maxHeartbeats 3200000 in
theorem atom_open {w0 : World} {g : Nat} {A : Option Addr} {c : Nat} {xs : List S29} {i : Nat} {w : World} (h : Tr w0 g A c xs i w) (hn : xs.length ≤ 200000) (hi : i ≤ xs.length) (r : Except (List Tk) (S35 × List Tk)) (f : Nat) (HR : Aside0 (parE (f + 1) 4 (toks xs i) = r)) (hO : headIs tkO (toks xs i) = true)
    (IH : Aside0 (∀ w, Tr w0 g A c xs (i + 1) w → Calls Try.prog 26 #[.pointer (some ⟨g, 0, none⟩)] w (ReadPost w0 g A c xs (i + 1) w (parE f 0 (toks xs (i + 1)))))) :
    Calls Try.prog 59 #[.pointer (some ⟨g, 0, none⟩)] w (ReadPost w0 g A c xs i w r) := by
  have hgl := blk_lt h.blk
  have hlow := h.below.size
  have HT := Aside0.mk (h.after (below1 w #[.int .i8 0, .slice none 0 0] 35))
  have HK := Aside0.mk (KeepBut.of_below (below1 w #[.int .i8 0, .slice none 0 0] 35) g none)
  have HB := Aside0.mk (heap_alloc_new w (.cells #[.int .i8 0, .slice none 0 0] 35))
  clear h
  have hot : ∀ k, k ≠ tkO → headIs k (toks xs i) = false := by
    intro k hk
    revert hO
    cases toks xs i with
    | nil => intro _; rfl
    | cons t l =>
      simp only [headIs, decide_eq_true_eq, decide_eq_false_iff_not]
      rintro rfl e
      exact hk e.symm
  have H0 := Aside0.mk (hot tkQ (by decide))
  have H1 := Aside0.mk (hot tkI (by decide))
  have H2 := Aside0.mk (hot tkB (by decide))
  clear hot
  go_enter Try.func59, Try.ntmps59
  go_wp2_with fail
  generalize w.alloc (.cells #[.int .i8 0, .slice none 0 0] 35) = wa at *
  refine (take_calls HT.out hn hi 4 ⟨#[63]⟩).mono ?_
  rintro e v0 h
  have e0 : (⟨#[63]⟩ : ByteArray).toList = [63] := bytes_toList _
  rw [TakePost, e0, nextIs_iff] at h
  rw [show ((4 : Int), ([63] : List UInt8)) = tkQ from rfl] at h
  clear e0
  rcases h with ⟨hyes, rfl, hT, hK⟩ | ⟨hno, rfl, hT, hK⟩
  · exact absurd hyes (by rw [H0.out]; simp)
  clear hno
  replace HK := Aside0.mk (HK.out.trans hK (.inl rfl))
  replace HB := Aside0.mk (hK.blk HB.out (by omega) (by simp))
  replace HT := Aside0.mk hT
  clear hT hK
  go_wp2_with fail
  refine (take_calls HT.out hn hi 3 ⟨#[105, 110, 116]⟩).mono ?_
  rintro e v1 h
  have e1 : (⟨#[105, 110, 116]⟩ : ByteArray).toList = [105, 110, 116] := bytes_toList _
  rw [TakePost, e1, nextIs_iff] at h
  rw [show ((3 : Int), ([105, 110, 116] : List UInt8)) = tkI from rfl] at h
  clear e1
  rcases h with ⟨hyes, rfl, hT, hK⟩ | ⟨hno, rfl, hT, hK⟩
  · exact absurd hyes (by rw [H1.out]; simp)
  clear hno
  replace HK := Aside0.mk (HK.out.trans hK (.inl rfl))
  replace HB := Aside0.mk (hK.blk HB.out (by omega) (by simp))
  replace HT := Aside0.mk hT
  clear hT hK
  go_wp2_with fail
  refine (take_calls HT.out hn hi 3 ⟨#[98, 111, 111, 108]⟩).mono ?_
  rintro e v2 h
  have e2 : (⟨#[98, 111, 111, 108]⟩ : ByteArray).toList = [98, 111, 111, 108] := bytes_toList _
  rw [TakePost, e2, nextIs_iff] at h
  rw [show ((3 : Int), ([98, 111, 111, 108] : List UInt8)) = tkB from rfl] at h
  clear e2
  rcases h with ⟨hyes, rfl, hT, hK⟩ | ⟨hno, rfl, hT, hK⟩
  · exact absurd hyes (by rw [H2.out]; simp)
  clear hno
  replace HK := Aside0.mk (HK.out.trans hK (.inl rfl))
  replace HB := Aside0.mk (hK.blk HB.out (by omega) (by simp))
  replace HT := Aside0.mk hT
  clear hT hK
  go_wp2_with fail
  refine (take_calls HT.out hn hi 4 ⟨#[40]⟩).mono ?_
  rintro e v4 h
  have e4 : (⟨#[40]⟩ : ByteArray).toList = [40] := bytes_toList _
  rw [TakePost, e4, nextIs_iff] at h
  rw [show ((4 : Int), ([40] : List UInt8)) = tkO from rfl] at h
  clear e4
  rcases h with ⟨hyes, rfl, hT, hK⟩ | ⟨hno, rfl, hT, hK⟩
  rotate_left
  · exact absurd hO hno
  have hlt : i < xs.length := nextIs_lt ((nextIs_iff _ _ _ _).2 (show headIs tkO (toks xs i) = true from hyes))
  replace HK := Aside0.mk (HK.out.trans hK (.inl rfl))
  replace HB := Aside0.mk (hK.blk HB.out (by omega) (by simp))
  replace HT := Aside0.mk hT
  clear hT hK
  go_wp2_with fail
  refine (IH.out _ HT.out).mono ?_
  obtain ⟨x, hx⟩ : ∃ x, x = parE f 0 (toks xs (i + 1)) := ⟨_, rfl⟩
  rw [← hx]
  have HP : Aside0 (r = closeE x) := .mk (by
    rw [← HR.out, parE_four, if_neg (by rw [H0.out]; simp), if_neg (by rw [H1.out]; simp), if_neg (by rw [H2.out]; simp), if_pos hO, toks_tail, hx])
  clear hx
  cases x with
  | error u =>
    rintro e w5 ⟨hk5, q, j, rfl, hu, hj, hq⟩
    have HU := Aside0.mk hu
    have HQ := Aside0.mk hq
    have HK5 := Aside0.mk (HK.out.trans hk5 (.inl rfl))
    clear hk5 hu hq
    go_wp2_with fail
    rw [HP.out]
    exact ⟨rfl, HK5.out, q, j, rfl, HU.out, hj, HQ.out⟩
  | ok x =>
    obtain ⟨a, u⟩ := x
    rintro e w5 ⟨hk5, v, j, rfl, hm, hT5, hij, hj, hu⟩
    replace hu : u = toks xs j := hu
    subst hu
    obtain ⟨Aa, ca, rfl⟩ := Kd.R_slice hm
    have HM := Aside0.mk (R_apart (p := w.heap.size) hm HK.out.1 (blk_lt HT.out.blk) (blk_lt HB.out))
    replace HK := Aside0.mk (HK.out.trans hk5 (.inl rfl))
    replace HB := Aside0.mk (hk5.blk HB.out (by omega) (by simp))
    replace HT := Aside0.mk hT5
    clear hk5 hT5 hm IH
    go_wp2_with fail
    have hlw : w.heap.size ≤ w5.heap.size := HK.out.1
    have hB5 := below1 w5 #[.int .i8 a.f0, .slice Aa a.f1.length ca] 35
    replace HK := Aside0.mk (HK.out.trans (KeepBut.of_below hB5 g none) (.inl rfl))
    replace HT := Aside0.mk (HT.out.after hB5)
    have hbl := blk_lt HB.out
    replace HB := Aside0.mk (blk_below HB.out hB5)
    replace HM := Aside0.mk (Kd.R_below HM.out hB5)
    have HB3 := Aside0.mk (heap_alloc_new w5 (.cells #[.int .i8 a.f0, .slice Aa a.f1.length ca] 35))
    clear hB5
    generalize w5.alloc (.cells #[.int .i8 a.f0, .slice Aa a.f1.length ca] 35) = wb at *
    refine (take_calls HT.out hn hj 4 ⟨#[41]⟩).mono ?_
    rintro e v6 h
    have e6 : (⟨#[41]⟩ : ByteArray).toList = [41] := bytes_toList _
    rw [TakePost, e6, nextIs_iff] at h
    rw [show ((4 : Int), ([41] : List UInt8)) = tkC from rfl] at h
    clear e6
    rcases h with ⟨hyes, rfl, hT, hK⟩ | ⟨hno, rfl, hT, hK⟩
    · have hjt : j < xs.length := nextIs_lt ((nextIs_iff _ _ _ _).2 (show headIs tkC (toks xs j) = true from hyes))
      replace HP := Aside0.mk (HP.out.trans (by rw [closeE, if_pos hyes, toks_tail]))
      replace HM := Aside0.mk (Kd.R_keep HM.out hK (fun k hk => hk.1))
      replace HB3 := Aside0.mk (hK.blk HB3.out (by omega) (by simp))
      replace HK := Aside0.mk (HK.out.trans hK (.inl rfl))
      replace HB := Aside0.mk (hK.blk HB.out (by omega) (by simp))
      replace HT := Aside0.mk hT
      clear hT hK
      have c0 := (blk_cell HB.out 0).trans rfl
      have c1 := (blk_cell HB.out 1).trans rfl
      have z0 := blk_frozen HB.out 0
      have z1 := blk_frozen HB.out 1
      simp at c0 c1
      have d0 := (blk_cell HB3.out 0).trans rfl
      have d1 := (blk_cell HB3.out 1).trans rfl
      simp at d0 d1
      replace HM := Aside0.mk (Kd.R_far (Kd.R_far HM.out (p := ⟨w.heap.size, 0, none⟩) (fun k hk => hk.2) (.int .i8 a.f0)) (p := ⟨w.heap.size, 1, none⟩) (fun k hk => hk.2) (.slice Aa a.f1.length ca))
      go_wp2_with fail
      refine bodyPost_ret (results_cell_row rfl _ _ w.heap.size 35 #[.int .i8 a.f0, .slice Aa a.f1.length ca] (0, 0) _ rfl (by refine blk_put (cs := #[.int .i8 a.f0, .slice none 0 0]) ?_ 1 _ rfl; refine blk_put (cs := #[.int .i8 0, .slice none 0 0]) ?_ 0 _ rfl; exact HB.out) Try.underlying35 rfl (by kernel_rfl)) rfl ?_
      rw [HP.out]
      exact ⟨keep_far (keep_far HK.out _ _ (Nat.le_refl _)) _ _ (Nat.le_refl _), _, j + 1, rfl, Kd.R_mono HM.out (fun k hk => trivial), (HT.out.far _ _ (by show g ≠ w.heap.size; omega) hlow).far _ _ (by show g ≠ w.heap.size; omega) hlow, by omega, by omega, rfl⟩
    · replace HP := Aside0.mk (HP.out.trans (by rw [closeE, if_neg hno]))
      replace HK := Aside0.mk (HK.out.trans hK (.inl rfl))
      replace HT := Aside0.mk hT
      clear hT hK
      go_wp2_with fail
      refine (wrong_calls HT.out hn).mono ?_
      rintro e w7 ⟨q, rfl, hB, hq⟩
      have HK7 := Aside0.mk (HK.out.trans (KeepBut.of_below hB g none) (.inl rfl))
      have HQ := Aside0.mk (And.intro hq (below_then HT.out.below HT.out.below.size hB))
      clear hB hq
      go_wp2_with fail
      rw [HP.out]
      exact ⟨rfl, HK7.out, q, j, rfl, rfl, hj, HQ.out⟩
end Go.Proofs.Ytjmpejbciniceaa.X
/- types' left over a part's contract. -/
namespace Go.Proofs.Ytjmpejbciniceaa.X
open Go.RowKit Go.Proofs.YtjmpejbciniceaaW.PrintWords Go.Proofs.YtjmpejbciniceaaW.PrintLast Go.Proofs.YtjmpejbciniceaaW.PrintMore
set_option linter.unusedVariables false
set_option linter.unusedSimpArgs false

theorem blk_put_far {w : World} {g : Nat} {o : Obj} (h : w.heap[g]? = some o) {p : Addr} {u : Value} (hp : g ≠ p.block) : (w.setCell p u).heap[g]? = some o := (Below.heap_setCell w p u g hp).trans h
theorem R_apart3 {v0 w : World} {base : Nat} {g p q : Nat} {v : Value} {l : List S35} (h : k35.R 35 w v0.heap.size (fun _ => True) v l) (hb : base ≤ v0.heap.size) (hg : g < v0.heap.size) (hp : p < v0.heap.size) (hq : q < v0.heap.size ∨ w.heap.size ≤ q) : k35.R 35 w base (fun k => k ≠ g ∧ k ≠ p ∧ k ≠ q) v l :=
  Kd.R_lower (Kd.R_mono (Kd.R_bound h) fun k hk => ⟨by omega, by omega, by omega⟩) hb
def loopE (f L : Nat) : Except (List Tk) (S35 × List Tk) → Except (List Tk) (S35 × List Tk)
  | .ok x => lopE f L x.1 x.2
  | .error u => .error u
def nextE (f L : Nat) (a : S35) : Except (List Tk) (S35 × List Tk) → Except (List Tk) (S35 × List Tk)
  | .ok x => lopE f L ⟨kindOf L, [a, x.1]⟩ x.2
  | .error u => .error u
theorem parE_left (f L : Nat) (hL : L = 3 ∨ L = 2) (ts : List Tk) : parE (f + 1) L ts = loopE f L (parE f (L + 1) ts) := by
  rcases hL with rfl | rfl
  · rw [parE_three]; rfl
  · rw [parE_two]; rfl
theorem lopE_yes (f L : Nat) (a : S35) (ts : List Tk) (h : headIs (opOf L) ts = true) : lopE (f + 1) L a ts = nextE f L a (parE f (L + 1) ts.tail) := by
  rw [lopE_succ, if_pos h]; rfl
theorem lopE_no (f L : Nat) (a : S35) (ts : List Tk) (h : ¬ headIs (opOf L) ts = true) : lopE (f + 1) L a ts = .ok (a, ts) := by
  rw [lopE_succ, if_neg h]
set_option maxRecDepth 100000 in
set_option maxHeartbeats 3200000 in
theorem left3_calls {w0 : World} {g : Nat} {A : Option Addr} {c : Nat} {xs : List S29} {i : Nat} {w : World} (h : Tr w0 g A c xs i w) (hn : xs.length ≤ 200000) (hi : i ≤ xs.length) (f : Nat) (k : Int) (s : ByteArray) (HKI : Aside0 (k = kindOf 3)) (HS : Aside0 (((4 : Int), s.toList) = opOf 3)) (r : Except (List Tk) (S35 × List Tk)) (HR : Aside0 (parE (f + 1) 3 (toks xs i) = r)) (hf : 6 * (xs.length - i) + 3 ≤ f + 1)
    (IH : Aside0 (∀ f', f' ≤ f → ∀ j w, j ≤ xs.length → Tr w0 g A c xs j w → 6 * (xs.length - j) + 2 ≤ f' → Calls Try.prog 59 #[.pointer (some ⟨g, 0, none⟩)] w (ReadPost w0 g A c xs j w (parE f' 4 (toks xs j))))) :
    Calls Try.prog 46 #[.pointer (some ⟨g, 0, none⟩), .int .i8 k, .string s, .func (.func 59) #[.pointer (some ⟨g, 0, none⟩)] #[]] w (ReadPost w0 g A c xs i w r) := by
  have hgl := blk_lt h.blk
  have hlow := h.below.size
  have HT := Aside0.mk (h.after (below1 w #[.int .i8 0, .slice none 0 0] 35))
  have HK := Aside0.mk (KeepBut.of_below (below1 w #[.int .i8 0, .slice none 0 0] 35) g none)
  have HB := Aside0.mk (heap_alloc_new w (.cells #[.int .i8 0, .slice none 0 0] 35))
  clear h
  go_enter Try.func46, Try.ntmps46
  go_wp2_with fail
  generalize w.alloc (.cells #[.int .i8 0, .slice none 0 0] 35) = wa at *
  refine (IH.out f (Nat.le_refl _) i _ hi HT.out (by omega)).mono ?_
  obtain ⟨x, hx⟩ : ∃ x, x = parE f 4 (toks xs i) := ⟨_, rfl⟩
  rw [← hx]
  have HP : Aside0 (loopE f 3 x = r) := .mk (by rw [hx, ← parE_left f 3 (by simp)]; exact HR.out)
  clear hx
  cases x with
  | error u =>
    rintro e w5 ⟨hk5, q, j2, rfl, hu, hj2, hq⟩
    have HU := Aside0.mk hu
    have HQ := Aside0.mk hq
    have HK5 := Aside0.mk (HK.out.trans hk5 (.inl rfl))
    clear hk5 hu hq
    go_wp2_with fail
    rw [← HP.out]
    exact ⟨rfl, HK5.out, q, j2, rfl, HU.out, hj2, HQ.out⟩
  | ok x =>
    obtain ⟨a, u⟩ := x
    rintro e w5 ⟨hk5, v, j, rfl, hm, hT5, hij, hj, hu⟩
    replace hu : u = toks xs j := hu
    subst hu
    obtain ⟨Aa, ca, rfl⟩ := Kd.R_slice hm
    have HM := Aside0.mk (R_apart3 (p := w.heap.size) (q := w5.heap.size) hm HK.out.1 (blk_lt HT.out.blk) (blk_lt HB.out) (.inr (Nat.le_refl _)))
    replace HK := Aside0.mk (HK.out.trans hk5 (.inl rfl))
    replace HB := Aside0.mk (hk5.blk HB.out (by omega) (by simp))
    replace HT := Aside0.mk hT5
    replace HP : Aside0 (lopE f 3 a (toks xs j) = r) := .mk HP.out
    clear hk5 hT5 hm
    go_wp2_with fail
    have hlw : w.heap.size ≤ w5.heap.size := HK.out.1
    have hB5 := below1 w5 #[.int .i8 a.f0, .slice Aa a.f1.length ca] 35
    replace HK := Aside0.mk (HK.out.trans (KeepBut.of_below hB5 g none) (.inl rfl))
    replace HT := Aside0.mk (HT.out.after hB5)
    have hbl := blk_lt HB.out
    replace HB := Aside0.mk (blk_below HB.out hB5)
    replace HM := Aside0.mk (Kd.R_below HM.out hB5)
    have HB3 := Aside0.mk (heap_alloc_new w5 (.cells #[.int .i8 a.f0, .slice Aa a.f1.length ca] 35))
    clear hB5
    generalize w5.alloc (.cells #[.int .i8 a.f0, .slice Aa a.f1.length ca] 35) = wb at *
    generalize w5.heap.size = pb at *
    go_loopg [] f (fun k wr => ∃ j a Aa ca, i ≤ j ∧ j ≤ xs.length ∧ Tr w0 g A c xs j wr ∧ KeepBut w wr g none ∧ wr.heap[w.heap.size]? = some (.cells #[.int .i8 0, .slice none 0 0] 35 (0, 0)) ∧ wr.heap[pb]? = some (.cells #[.int .i8 a.f0, .slice Aa a.f1.length ca] 35 (0, 0)) ∧ k35.R 35 wr w.heap.size (fun b => b ≠ g ∧ b ≠ w.heap.size ∧ b ≠ pb) (.slice Aa a.f1.length ca) a.f1 ∧ lopE k 3 a (toks xs j) = r ∧ 6 * (xs.length - j) + 1 ≤ k ∧ k ≤ f)
    case atStart => exact ⟨j, a, Aa, ca, hij, hj, HT.out, HK.out, HB.out, HB3.out, HM.out, HP.out, by omega, Nat.le_refl _⟩
    case round =>
      obtain ⟨j, a, Aa, ca, hij, hj, hT, hK, hB, hB3, hM, hP, hk1, hkf⟩ := hrel
      obtain ⟨m, rfl⟩ : ∃ m, gk = m + 1 := ⟨gk - 1, by omega⟩
      replace HT := Aside0.mk hT
      replace HK := Aside0.mk hK
      replace HB := Aside0.mk hB
      replace HB3 := Aside0.mk hB3
      replace HM := Aside0.mk hM
      replace HP := Aside0.mk hP
      have hpl := blk_lt hB3
      clear hT hK hB hB3 hM hP
      go_wp2_with fail
      refine (take_calls HT.out hn hj 4 s).mono ?_
      rintro e v1 h
      rw [TakePost, nextIs_iff, HS.out] at h
      rcases h with ⟨hyes, rfl, hT, hK⟩ | ⟨hno, rfl, hT, hK⟩
      · have hjt : j < xs.length := nextIs_lt ((nextIs_iff _ _ _ _).2 (by rw [HS.out]; exact hyes))
        replace HP := Aside0.mk ((lopE_yes m 3 a _ hyes).symm.trans HP.out)
        rw [toks_tail] at HP
        replace HM := Aside0.mk (Kd.R_keep HM.out hK (fun k hk => hk.1))
        replace HB3 := Aside0.mk (hK.blk HB3.out (by omega) (by simp))
        replace HK := Aside0.mk (HK.out.trans hK (.inl rfl))
        replace HB := Aside0.mk (hK.blk HB.out (by omega) (by simp))
        replace HT := Aside0.mk hT
        clear hT hK
        go_wp2_with fail
        refine wp_region_held_drew (S := fun _ => True) (by kernel_rfl) trivial (fun hHeld => ?_)
        have hD := (Below.refl v1.heap.size v1).drew
        replace HM := Aside0.mk (Kd.R_below HM.out hD)
        replace HB3 := Aside0.mk (blk_below HB3.out hD)
        replace HB := Aside0.mk (blk_below HB.out hD)
        replace HT := Aside0.mk (HT.out.after hD)
        replace HK := Aside0.mk (HK.out.trans (KeepBut.of_below hD g none) (.inl rfl))
        clear hD
        generalize v1.drew = v2 at *
        refine takeA 15 0 (v := ?_) ?_ hHeld ?_
        rotate_left
        · intro w hSw
          try dsimp only at hSw
          go_simp <;> with_reducible rfl
        try simp only [Act.put, List.setIfInBounds_toArray, List.set_cons_zero, List.set_cons_succ]
        refine takeA 17 2 (v := ?_) ?_ hHeld ?_
        rotate_left
        · intro w hSw
          try dsimp only at hSw
          go_simp <;> with_reducible rfl
        try simp only [Act.put, List.setIfInBounds_toArray, List.set_cons_zero, List.set_cons_succ]
        refine wpAnyH_ready (rs := [1, 3]) (by kernel_rfl) (by simp) ?_
        refine AllReadyH.cons rfl (fun K hK => ?_) (AllReadyH.cons rfl (fun K hK => ?_) AllReadyH.nil)
        · have d0 := (blk_cell HB3.out 0).trans rfl
          have d1 := (blk_cell HB3.out 1).trans rfl
          simp at d0 d1
          go_simp
          clear d0 d1
          refine hK.out _ _ trivial (fun hHeld => ?_)
          clear hK K
          try simp only [Act.put, List.setIfInBounds_toArray, List.set_cons_zero, List.set_cons_succ]
          refine wpAnyH_ready (rs := [3]) (by kernel_rfl) (by simp) ?_
          refine AllReadyH.cons rfl (fun K hK => ?_) AllReadyH.nil
          go_simp
          refine (IH.out m (by omega) (j + 1) _ hjt HT.out (by omega)).mono ?_
          replace HP : Aside0 (nextE m 3 a (parE m 4 (toks xs (j + 1))) = r) := .mk HP.out
          obtain ⟨x, hx⟩ : ∃ x, x = parE m 4 (toks xs (j + 1)) := ⟨_, rfl⟩
          rw [← hx]
          rw [← hx] at HP
          clear hx
          cases x with
          | error u =>
            rintro e w5 ⟨hk5, q, j2, rfl, hu, hj2, hq⟩
            have HU := Aside0.mk hu
            have HQ := Aside0.mk hq
            have HK5 := Aside0.mk (HK.out.trans hk5 (.inl rfl))
            clear hk5 hu hq
            rw [← HP.out]
            go_wp2_with fail
            exact ⟨rfl, HK5.out, q, j2, rfl, HU.out, hj2, HQ.out⟩
          | ok x =>
            obtain ⟨b, u⟩ := x
            rintro e v3 ⟨hk5, vb, j2, rfl, hm, hT5, hij2, hj2, hu⟩
            replace hu : u = toks xs j2 := hu
            subst hu
            obtain ⟨Ab, cb, rfl⟩ := Kd.R_slice hm
            have hpl2 := blk_lt HB3.out
            have hgl2 := blk_lt HT.out.blk
            have hvl : v2.heap.size ≤ v3.heap.size := hk5.1
            have HMB := Aside0.mk (R_apart3 (p := w.heap.size) (q := pb) hm HK.out.1 hgl2 (blk_lt HB.out) (.inl hpl2))
            replace HM := Aside0.mk (Kd.R_keep HM.out hk5 (fun k hk => hk.1))
            replace HB3 := Aside0.mk (hk5.blk HB3.out (by omega) (by simp))
            replace HK := Aside0.mk (HK.out.trans hk5 (.inl rfl))
            replace HB := Aside0.mk (hk5.blk HB.out (by omega) (by simp))
            replace HT := Aside0.mk hT5
            replace HP : Aside0 (lopE m 3 ⟨k, [a, b]⟩ (toks xs j2) = r) := .mk (by rw [HKI.out]; exact HP.out)
            clear hk5 hT5 hm
            refine hK.out _ _ trivial (fun hHeld => ?_)
            clear hK K
            try simp only [Act.put, List.setIfInBounds_toArray, List.set_cons_zero, List.set_cons_succ]
            refine wpAnyH_ready (rs := [4]) (by kernel_rfl) (by simp) ?_
            refine AllReadyH.cons rfl (fun K hK => ?_) AllReadyH.nil
            go_simp
            refine hK.out _ _ trivial (fun hHeld => ?_)
            clear hK K
            try simp only [Act.put, List.setIfInBounds_toArray, List.set_cons_zero, List.set_cons_succ]
            have HM2 := Aside0.mk (R_pair (base := w.heap.size) HK.out.1 (⟨by omega, by omega, by omega⟩ : v3.heap.size ≠ g ∧ v3.heap.size ≠ w.heap.size ∧ v3.heap.size ≠ pb) HM.out HMB.out)
            have hD := below1 v3 #[.int .i8 a.f0, .slice Aa a.f1.length ca, .int .i8 b.f0, .slice Ab b.f1.length cb] 35
            replace HB3 := Aside0.mk (blk_below HB3.out hD)
            replace HB := Aside0.mk (blk_below HB.out hD)
            replace HT := Aside0.mk (HT.out.after hD)
            replace HK := Aside0.mk (HK.out.trans (KeepBut.of_below hD g none) (.inl rfl))
            clear hD
            generalize v3.alloc (.cells #[.int .i8 a.f0, .slice Aa a.f1.length ca, .int .i8 b.f0, .slice Ab b.f1.length cb] 35) = v4 at *
            refine takeA 20 5 (v := ?_) ?_ hHeld ?_
            rotate_left
            · intro w hSw
              try dsimp only at hSw
              go_simp <;> with_reducible rfl
            try simp only [Act.put, List.setIfInBounds_toArray, List.set_cons_zero, List.set_cons_succ]
            refine wpAnyH_ready (rs := [6]) (by kernel_rfl) (by simp) ?_
            refine AllReadyH.cons rfl (fun K hK => ?_) AllReadyH.nil
            have d0 := (blk_cell HB3.out 0).trans rfl
            have d1 := (blk_cell HB3.out 1).trans rfl
            have z0 := blk_frozen HB3.out 0
            have z1 := blk_frozen HB3.out 1
            simp at d0 d1
            go_simp
            clear d0 d1 z0 z1
            refine hK.out _ _ trivial (fun hHeld => ?_)
            clear hK K
            try simp only [Act.put, List.setIfInBounds_toArray, List.set_cons_zero, List.set_cons_succ]
            refine wpAnyH_done (by kernel_rfl) ?_ _
            go_wp2_with fail
            go_roundg m
            case rel => exact ⟨j2, ⟨k, [a, b]⟩, _, _, by omega, hj2, (HT.out.far _ _ (by show g ≠ pb; omega) (by show _ ≤ pb; omega)).far _ _ (by show g ≠ pb; omega) (by show _ ≤ pb; omega), keep_far (keep_far HK.out _ _ hlw) _ _ hlw, blk_put_far (blk_put_far HB.out (by show w.heap.size ≠ pb; omega)) (by show w.heap.size ≠ pb; omega), blk_put (cs := #[.int .i8 k, .slice Aa a.f1.length ca]) (blk_put HB3.out 0 _ rfl) 1 _ rfl, Kd.R_far (Kd.R_far HM2.out (p := ⟨pb, 0, none⟩) (fun k hk => hk.2.2) _) (p := ⟨pb, 1, none⟩) (fun k hk => hk.2.2) _, HP.out, by omega, by omega⟩
            case measure => omega
        · go_simp
          refine (IH.out m (by omega) (j + 1) _ hjt HT.out (by omega)).mono ?_
          replace HP : Aside0 (nextE m 3 a (parE m 4 (toks xs (j + 1))) = r) := .mk HP.out
          obtain ⟨x, hx⟩ : ∃ x, x = parE m 4 (toks xs (j + 1)) := ⟨_, rfl⟩
          rw [← hx]
          rw [← hx] at HP
          clear hx
          cases x with
          | error u =>
            rintro e w5 ⟨hk5, q, j2, rfl, hu, hj2, hq⟩
            have HU := Aside0.mk hu
            have HQ := Aside0.mk hq
            have HK5 := Aside0.mk (HK.out.trans hk5 (.inl rfl))
            clear hk5 hu hq
            rw [← HP.out]
            go_wp2_with fail
            exact ⟨rfl, HK5.out, q, j2, rfl, HU.out, hj2, HQ.out⟩
          | ok x =>
            obtain ⟨b, u⟩ := x
            rintro e v3 ⟨hk5, vb, j2, rfl, hm, hT5, hij2, hj2, hu⟩
            replace hu : u = toks xs j2 := hu
            subst hu
            obtain ⟨Ab, cb, rfl⟩ := Kd.R_slice hm
            have hpl2 := blk_lt HB3.out
            have hgl2 := blk_lt HT.out.blk
            have hvl : v2.heap.size ≤ v3.heap.size := hk5.1
            have HMB := Aside0.mk (R_apart3 (p := w.heap.size) (q := pb) hm HK.out.1 hgl2 (blk_lt HB.out) (.inl hpl2))
            replace HM := Aside0.mk (Kd.R_keep HM.out hk5 (fun k hk => hk.1))
            replace HB3 := Aside0.mk (hk5.blk HB3.out (by omega) (by simp))
            replace HK := Aside0.mk (HK.out.trans hk5 (.inl rfl))
            replace HB := Aside0.mk (hk5.blk HB.out (by omega) (by simp))
            replace HT := Aside0.mk hT5
            replace HP : Aside0 (lopE m 3 ⟨k, [a, b]⟩ (toks xs j2) = r) := .mk (by rw [HKI.out]; exact HP.out)
            clear hk5 hT5 hm
            refine hK.out _ _ trivial (fun hHeld => ?_)
            clear hK K
            try simp only [Act.put, List.setIfInBounds_toArray, List.set_cons_zero, List.set_cons_succ]
            refine wpAnyH_ready (rs := [1]) (by kernel_rfl) (by simp) ?_
            refine AllReadyH.cons rfl (fun K hK => ?_) AllReadyH.nil
            have d0 := (blk_cell HB3.out 0).trans rfl
            have d1 := (blk_cell HB3.out 1).trans rfl
            simp at d0 d1
            go_simp
            clear d0 d1
            refine hK.out _ _ trivial (fun hHeld => ?_)
            clear hK K
            try simp only [Act.put, List.setIfInBounds_toArray, List.set_cons_zero, List.set_cons_succ]
            refine wpAnyH_ready (rs := [4]) (by kernel_rfl) (by simp) ?_
            refine AllReadyH.cons rfl (fun K hK => ?_) AllReadyH.nil
            go_simp
            refine hK.out _ _ trivial (fun hHeld => ?_)
            clear hK K
            try simp only [Act.put, List.setIfInBounds_toArray, List.set_cons_zero, List.set_cons_succ]
            have HM2 := Aside0.mk (R_pair (base := w.heap.size) HK.out.1 (⟨by omega, by omega, by omega⟩ : v3.heap.size ≠ g ∧ v3.heap.size ≠ w.heap.size ∧ v3.heap.size ≠ pb) HM.out HMB.out)
            have hD := below1 v3 #[.int .i8 a.f0, .slice Aa a.f1.length ca, .int .i8 b.f0, .slice Ab b.f1.length cb] 35
            replace HB3 := Aside0.mk (blk_below HB3.out hD)
            replace HB := Aside0.mk (blk_below HB.out hD)
            replace HT := Aside0.mk (HT.out.after hD)
            replace HK := Aside0.mk (HK.out.trans (KeepBut.of_below hD g none) (.inl rfl))
            clear hD
            generalize v3.alloc (.cells #[.int .i8 a.f0, .slice Aa a.f1.length ca, .int .i8 b.f0, .slice Ab b.f1.length cb] 35) = v4 at *
            refine takeA 20 5 (v := ?_) ?_ hHeld ?_
            rotate_left
            · intro w hSw
              try dsimp only at hSw
              go_simp <;> with_reducible rfl
            try simp only [Act.put, List.setIfInBounds_toArray, List.set_cons_zero, List.set_cons_succ]
            refine wpAnyH_ready (rs := [6]) (by kernel_rfl) (by simp) ?_
            refine AllReadyH.cons rfl (fun K hK => ?_) AllReadyH.nil
            have d0 := (blk_cell HB3.out 0).trans rfl
            have d1 := (blk_cell HB3.out 1).trans rfl
            have z0 := blk_frozen HB3.out 0
            have z1 := blk_frozen HB3.out 1
            simp at d0 d1
            go_simp
            clear d0 d1 z0 z1
            refine hK.out _ _ trivial (fun hHeld => ?_)
            clear hK K
            try simp only [Act.put, List.setIfInBounds_toArray, List.set_cons_zero, List.set_cons_succ]
            refine wpAnyH_done (by kernel_rfl) ?_ _
            go_wp2_with fail
            go_roundg m
            case rel => exact ⟨j2, ⟨k, [a, b]⟩, _, _, by omega, hj2, (HT.out.far _ _ (by show g ≠ pb; omega) (by show _ ≤ pb; omega)).far _ _ (by show g ≠ pb; omega) (by show _ ≤ pb; omega), keep_far (keep_far HK.out _ _ hlw) _ _ hlw, blk_put_far (blk_put_far HB.out (by show w.heap.size ≠ pb; omega)) (by show w.heap.size ≠ pb; omega), blk_put (cs := #[.int .i8 k, .slice Aa a.f1.length ca]) (blk_put HB3.out 0 _ rfl) 1 _ rfl, Kd.R_far (Kd.R_far HM2.out (p := ⟨pb, 0, none⟩) (fun k hk => hk.2.2) _) (p := ⟨pb, 1, none⟩) (fun k hk => hk.2.2) _, HP.out, by omega, by omega⟩
            case measure => omega
      · replace HP := Aside0.mk ((lopE_no m 3 a _ hno).symm.trans HP.out)
        replace HM := Aside0.mk (Kd.R_keep HM.out hK (fun k hk => hk.1))
        replace HB3 := Aside0.mk (hK.blk HB3.out (by omega) (by simp))
        replace HK := Aside0.mk (HK.out.trans hK (.inl rfl))
        replace HB := Aside0.mk (hK.blk HB.out (by omega) (by simp))
        replace HT := Aside0.mk hT
        clear hT hK
        have c0 := (blk_cell HB.out 0).trans rfl
        have c1 := (blk_cell HB.out 1).trans rfl
        have z0 := blk_frozen HB.out 0
        have z1 := blk_frozen HB.out 1
        simp at c0 c1
        have d0 := (blk_cell HB3.out 0).trans rfl
        have d1 := (blk_cell HB3.out 1).trans rfl
        simp at d0 d1
        replace HM := Aside0.mk (Kd.R_far (Kd.R_far HM.out (p := ⟨w.heap.size, 0, none⟩) (fun k hk => hk.2.1) (.int .i8 a.f0)) (p := ⟨w.heap.size, 1, none⟩) (fun k hk => hk.2.1) (.slice Aa a.f1.length ca))
        go_wp2_with fail
        refine bodyPost_ret (results_cell_row rfl _ _ w.heap.size 35 #[.int .i8 a.f0, .slice Aa a.f1.length ca] (0, 0) _ rfl (by refine blk_put (cs := #[.int .i8 a.f0, .slice none 0 0]) ?_ 1 _ rfl; refine blk_put (cs := #[.int .i8 0, .slice none 0 0]) ?_ 0 _ rfl; exact HB.out) Try.underlying35 rfl (by kernel_rfl)) rfl ?_
        rw [← HP.out]
        exact ⟨keep_far (keep_far HK.out _ _ (Nat.le_refl _)) _ _ (Nat.le_refl _), _, j, rfl, Kd.R_mono HM.out (fun k hk => trivial), (HT.out.far _ _ (by show g ≠ w.heap.size; omega) hlow).far _ _ (by show g ≠ w.heap.size; omega) hlow, hij, hj, rfl⟩
set_option maxRecDepth 100000 in
set_option maxHeartbeats 3200000 in
theorem left2_calls {w0 : World} {g : Nat} {A : Option Addr} {c : Nat} {xs : List S29} {i : Nat} {w : World} (h : Tr w0 g A c xs i w) (hn : xs.length ≤ 200000) (hi : i ≤ xs.length) (f : Nat) (k : Int) (s : ByteArray) (HKI : Aside0 (k = kindOf 2)) (HS : Aside0 (((4 : Int), s.toList) = opOf 2)) (r : Except (List Tk) (S35 × List Tk)) (HR : Aside0 (parE (f + 1) 2 (toks xs i) = r)) (hf : 6 * (xs.length - i) + 4 ≤ f + 1)
    (IH : Aside0 (∀ f', f' ≤ f → ∀ j w, j ≤ xs.length → Tr w0 g A c xs j w → 6 * (xs.length - j) + 3 ≤ f' → Calls Try.prog 47 #[.pointer (some ⟨g, 0, none⟩)] w (ReadPost w0 g A c xs j w (parE f' 3 (toks xs j))))) :
    Calls Try.prog 46 #[.pointer (some ⟨g, 0, none⟩), .int .i8 k, .string s, .func (.func 47) #[.pointer (some ⟨g, 0, none⟩)] #[]] w (ReadPost w0 g A c xs i w r) := by
  have hgl := blk_lt h.blk
  have hlow := h.below.size
  have HT := Aside0.mk (h.after (below1 w #[.int .i8 0, .slice none 0 0] 35))
  have HK := Aside0.mk (KeepBut.of_below (below1 w #[.int .i8 0, .slice none 0 0] 35) g none)
  have HB := Aside0.mk (heap_alloc_new w (.cells #[.int .i8 0, .slice none 0 0] 35))
  clear h
  go_enter Try.func46, Try.ntmps46
  go_wp2_with fail
  generalize w.alloc (.cells #[.int .i8 0, .slice none 0 0] 35) = wa at *
  refine (IH.out f (Nat.le_refl _) i _ hi HT.out (by omega)).mono ?_
  obtain ⟨x, hx⟩ : ∃ x, x = parE f 3 (toks xs i) := ⟨_, rfl⟩
  rw [← hx]
  have HP : Aside0 (loopE f 2 x = r) := .mk (by rw [hx, ← parE_left f 2 (by simp)]; exact HR.out)
  clear hx
  cases x with
  | error u =>
    rintro e w5 ⟨hk5, q, j2, rfl, hu, hj2, hq⟩
    have HU := Aside0.mk hu
    have HQ := Aside0.mk hq
    have HK5 := Aside0.mk (HK.out.trans hk5 (.inl rfl))
    clear hk5 hu hq
    go_wp2_with fail
    rw [← HP.out]
    exact ⟨rfl, HK5.out, q, j2, rfl, HU.out, hj2, HQ.out⟩
  | ok x =>
    obtain ⟨a, u⟩ := x
    rintro e w5 ⟨hk5, v, j, rfl, hm, hT5, hij, hj, hu⟩
    replace hu : u = toks xs j := hu
    subst hu
    obtain ⟨Aa, ca, rfl⟩ := Kd.R_slice hm
    have HM := Aside0.mk (R_apart3 (p := w.heap.size) (q := w5.heap.size) hm HK.out.1 (blk_lt HT.out.blk) (blk_lt HB.out) (.inr (Nat.le_refl _)))
    replace HK := Aside0.mk (HK.out.trans hk5 (.inl rfl))
    replace HB := Aside0.mk (hk5.blk HB.out (by omega) (by simp))
    replace HT := Aside0.mk hT5
    replace HP : Aside0 (lopE f 2 a (toks xs j) = r) := .mk HP.out
    clear hk5 hT5 hm
    go_wp2_with fail
    have hlw : w.heap.size ≤ w5.heap.size := HK.out.1
    have hB5 := below1 w5 #[.int .i8 a.f0, .slice Aa a.f1.length ca] 35
    replace HK := Aside0.mk (HK.out.trans (KeepBut.of_below hB5 g none) (.inl rfl))
    replace HT := Aside0.mk (HT.out.after hB5)
    have hbl := blk_lt HB.out
    replace HB := Aside0.mk (blk_below HB.out hB5)
    replace HM := Aside0.mk (Kd.R_below HM.out hB5)
    have HB3 := Aside0.mk (heap_alloc_new w5 (.cells #[.int .i8 a.f0, .slice Aa a.f1.length ca] 35))
    clear hB5
    generalize w5.alloc (.cells #[.int .i8 a.f0, .slice Aa a.f1.length ca] 35) = wb at *
    generalize w5.heap.size = pb at *
    go_loopg [] f (fun k wr => ∃ j a Aa ca, i ≤ j ∧ j ≤ xs.length ∧ Tr w0 g A c xs j wr ∧ KeepBut w wr g none ∧ wr.heap[w.heap.size]? = some (.cells #[.int .i8 0, .slice none 0 0] 35 (0, 0)) ∧ wr.heap[pb]? = some (.cells #[.int .i8 a.f0, .slice Aa a.f1.length ca] 35 (0, 0)) ∧ k35.R 35 wr w.heap.size (fun b => b ≠ g ∧ b ≠ w.heap.size ∧ b ≠ pb) (.slice Aa a.f1.length ca) a.f1 ∧ lopE k 2 a (toks xs j) = r ∧ 6 * (xs.length - j) + 1 ≤ k ∧ k ≤ f)
    case atStart => exact ⟨j, a, Aa, ca, hij, hj, HT.out, HK.out, HB.out, HB3.out, HM.out, HP.out, by omega, Nat.le_refl _⟩
    case round =>
      obtain ⟨j, a, Aa, ca, hij, hj, hT, hK, hB, hB3, hM, hP, hk1, hkf⟩ := hrel
      obtain ⟨m, rfl⟩ : ∃ m, gk = m + 1 := ⟨gk - 1, by omega⟩
      replace HT := Aside0.mk hT
      replace HK := Aside0.mk hK
      replace HB := Aside0.mk hB
      replace HB3 := Aside0.mk hB3
      replace HM := Aside0.mk hM
      replace HP := Aside0.mk hP
      have hpl := blk_lt hB3
      clear hT hK hB hB3 hM hP
      go_wp2_with fail
      refine (take_calls HT.out hn hj 4 s).mono ?_
      rintro e v1 h
      rw [TakePost, nextIs_iff, HS.out] at h
      rcases h with ⟨hyes, rfl, hT, hK⟩ | ⟨hno, rfl, hT, hK⟩
      · have hjt : j < xs.length := nextIs_lt ((nextIs_iff _ _ _ _).2 (by rw [HS.out]; exact hyes))
        replace HP := Aside0.mk ((lopE_yes m 2 a _ hyes).symm.trans HP.out)
        rw [toks_tail] at HP
        replace HM := Aside0.mk (Kd.R_keep HM.out hK (fun k hk => hk.1))
        replace HB3 := Aside0.mk (hK.blk HB3.out (by omega) (by simp))
        replace HK := Aside0.mk (HK.out.trans hK (.inl rfl))
        replace HB := Aside0.mk (hK.blk HB.out (by omega) (by simp))
        replace HT := Aside0.mk hT
        clear hT hK
        go_wp2_with fail
        refine wp_region_held_drew (S := fun _ => True) (by kernel_rfl) trivial (fun hHeld => ?_)
        have hD := (Below.refl v1.heap.size v1).drew
        replace HM := Aside0.mk (Kd.R_below HM.out hD)
        replace HB3 := Aside0.mk (blk_below HB3.out hD)
        replace HB := Aside0.mk (blk_below HB.out hD)
        replace HT := Aside0.mk (HT.out.after hD)
        replace HK := Aside0.mk (HK.out.trans (KeepBut.of_below hD g none) (.inl rfl))
        clear hD
        generalize v1.drew = v2 at *
        refine takeA 15 0 (v := ?_) ?_ hHeld ?_
        rotate_left
        · intro w hSw
          try dsimp only at hSw
          go_simp <;> with_reducible rfl
        try simp only [Act.put, List.setIfInBounds_toArray, List.set_cons_zero, List.set_cons_succ]
        refine takeA 17 2 (v := ?_) ?_ hHeld ?_
        rotate_left
        · intro w hSw
          try dsimp only at hSw
          go_simp <;> with_reducible rfl
        try simp only [Act.put, List.setIfInBounds_toArray, List.set_cons_zero, List.set_cons_succ]
        refine wpAnyH_ready (rs := [1, 3]) (by kernel_rfl) (by simp) ?_
        refine AllReadyH.cons rfl (fun K hK => ?_) (AllReadyH.cons rfl (fun K hK => ?_) AllReadyH.nil)
        · have d0 := (blk_cell HB3.out 0).trans rfl
          have d1 := (blk_cell HB3.out 1).trans rfl
          simp at d0 d1
          go_simp
          clear d0 d1
          refine hK.out _ _ trivial (fun hHeld => ?_)
          clear hK K
          try simp only [Act.put, List.setIfInBounds_toArray, List.set_cons_zero, List.set_cons_succ]
          refine wpAnyH_ready (rs := [3]) (by kernel_rfl) (by simp) ?_
          refine AllReadyH.cons rfl (fun K hK => ?_) AllReadyH.nil
          go_simp
          refine (IH.out m (by omega) (j + 1) _ hjt HT.out (by omega)).mono ?_
          replace HP : Aside0 (nextE m 2 a (parE m 3 (toks xs (j + 1))) = r) := .mk HP.out
          obtain ⟨x, hx⟩ : ∃ x, x = parE m 3 (toks xs (j + 1)) := ⟨_, rfl⟩
          rw [← hx]
          rw [← hx] at HP
          clear hx
          cases x with
          | error u =>
            rintro e w5 ⟨hk5, q, j2, rfl, hu, hj2, hq⟩
            have HU := Aside0.mk hu
            have HQ := Aside0.mk hq
            have HK5 := Aside0.mk (HK.out.trans hk5 (.inl rfl))
            clear hk5 hu hq
            rw [← HP.out]
            go_wp2_with fail
            exact ⟨rfl, HK5.out, q, j2, rfl, HU.out, hj2, HQ.out⟩
          | ok x =>
            obtain ⟨b, u⟩ := x
            rintro e v3 ⟨hk5, vb, j2, rfl, hm, hT5, hij2, hj2, hu⟩
            replace hu : u = toks xs j2 := hu
            subst hu
            obtain ⟨Ab, cb, rfl⟩ := Kd.R_slice hm
            have hpl2 := blk_lt HB3.out
            have hgl2 := blk_lt HT.out.blk
            have hvl : v2.heap.size ≤ v3.heap.size := hk5.1
            have HMB := Aside0.mk (R_apart3 (p := w.heap.size) (q := pb) hm HK.out.1 hgl2 (blk_lt HB.out) (.inl hpl2))
            replace HM := Aside0.mk (Kd.R_keep HM.out hk5 (fun k hk => hk.1))
            replace HB3 := Aside0.mk (hk5.blk HB3.out (by omega) (by simp))
            replace HK := Aside0.mk (HK.out.trans hk5 (.inl rfl))
            replace HB := Aside0.mk (hk5.blk HB.out (by omega) (by simp))
            replace HT := Aside0.mk hT5
            replace HP : Aside0 (lopE m 2 ⟨k, [a, b]⟩ (toks xs j2) = r) := .mk (by rw [HKI.out]; exact HP.out)
            clear hk5 hT5 hm
            refine hK.out _ _ trivial (fun hHeld => ?_)
            clear hK K
            try simp only [Act.put, List.setIfInBounds_toArray, List.set_cons_zero, List.set_cons_succ]
            refine wpAnyH_ready (rs := [4]) (by kernel_rfl) (by simp) ?_
            refine AllReadyH.cons rfl (fun K hK => ?_) AllReadyH.nil
            go_simp
            refine hK.out _ _ trivial (fun hHeld => ?_)
            clear hK K
            try simp only [Act.put, List.setIfInBounds_toArray, List.set_cons_zero, List.set_cons_succ]
            have HM2 := Aside0.mk (R_pair (base := w.heap.size) HK.out.1 (⟨by omega, by omega, by omega⟩ : v3.heap.size ≠ g ∧ v3.heap.size ≠ w.heap.size ∧ v3.heap.size ≠ pb) HM.out HMB.out)
            have hD := below1 v3 #[.int .i8 a.f0, .slice Aa a.f1.length ca, .int .i8 b.f0, .slice Ab b.f1.length cb] 35
            replace HB3 := Aside0.mk (blk_below HB3.out hD)
            replace HB := Aside0.mk (blk_below HB.out hD)
            replace HT := Aside0.mk (HT.out.after hD)
            replace HK := Aside0.mk (HK.out.trans (KeepBut.of_below hD g none) (.inl rfl))
            clear hD
            generalize v3.alloc (.cells #[.int .i8 a.f0, .slice Aa a.f1.length ca, .int .i8 b.f0, .slice Ab b.f1.length cb] 35) = v4 at *
            refine takeA 20 5 (v := ?_) ?_ hHeld ?_
            rotate_left
            · intro w hSw
              try dsimp only at hSw
              go_simp <;> with_reducible rfl
            try simp only [Act.put, List.setIfInBounds_toArray, List.set_cons_zero, List.set_cons_succ]
            refine wpAnyH_ready (rs := [6]) (by kernel_rfl) (by simp) ?_
            refine AllReadyH.cons rfl (fun K hK => ?_) AllReadyH.nil
            have d0 := (blk_cell HB3.out 0).trans rfl
            have d1 := (blk_cell HB3.out 1).trans rfl
            have z0 := blk_frozen HB3.out 0
            have z1 := blk_frozen HB3.out 1
            simp at d0 d1
            go_simp
            clear d0 d1 z0 z1
            refine hK.out _ _ trivial (fun hHeld => ?_)
            clear hK K
            try simp only [Act.put, List.setIfInBounds_toArray, List.set_cons_zero, List.set_cons_succ]
            refine wpAnyH_done (by kernel_rfl) ?_ _
            go_wp2_with fail
            go_roundg m
            case rel => exact ⟨j2, ⟨k, [a, b]⟩, _, _, by omega, hj2, (HT.out.far _ _ (by show g ≠ pb; omega) (by show _ ≤ pb; omega)).far _ _ (by show g ≠ pb; omega) (by show _ ≤ pb; omega), keep_far (keep_far HK.out _ _ hlw) _ _ hlw, blk_put_far (blk_put_far HB.out (by show w.heap.size ≠ pb; omega)) (by show w.heap.size ≠ pb; omega), blk_put (cs := #[.int .i8 k, .slice Aa a.f1.length ca]) (blk_put HB3.out 0 _ rfl) 1 _ rfl, Kd.R_far (Kd.R_far HM2.out (p := ⟨pb, 0, none⟩) (fun k hk => hk.2.2) _) (p := ⟨pb, 1, none⟩) (fun k hk => hk.2.2) _, HP.out, by omega, by omega⟩
            case measure => omega
        · go_simp
          refine (IH.out m (by omega) (j + 1) _ hjt HT.out (by omega)).mono ?_
          replace HP : Aside0 (nextE m 2 a (parE m 3 (toks xs (j + 1))) = r) := .mk HP.out
          obtain ⟨x, hx⟩ : ∃ x, x = parE m 3 (toks xs (j + 1)) := ⟨_, rfl⟩
          rw [← hx]
          rw [← hx] at HP
          clear hx
          cases x with
          | error u =>
            rintro e w5 ⟨hk5, q, j2, rfl, hu, hj2, hq⟩
            have HU := Aside0.mk hu
            have HQ := Aside0.mk hq
            have HK5 := Aside0.mk (HK.out.trans hk5 (.inl rfl))
            clear hk5 hu hq
            rw [← HP.out]
            go_wp2_with fail
            exact ⟨rfl, HK5.out, q, j2, rfl, HU.out, hj2, HQ.out⟩
          | ok x =>
            obtain ⟨b, u⟩ := x
            rintro e v3 ⟨hk5, vb, j2, rfl, hm, hT5, hij2, hj2, hu⟩
            replace hu : u = toks xs j2 := hu
            subst hu
            obtain ⟨Ab, cb, rfl⟩ := Kd.R_slice hm
            have hpl2 := blk_lt HB3.out
            have hgl2 := blk_lt HT.out.blk
            have hvl : v2.heap.size ≤ v3.heap.size := hk5.1
            have HMB := Aside0.mk (R_apart3 (p := w.heap.size) (q := pb) hm HK.out.1 hgl2 (blk_lt HB.out) (.inl hpl2))
            replace HM := Aside0.mk (Kd.R_keep HM.out hk5 (fun k hk => hk.1))
            replace HB3 := Aside0.mk (hk5.blk HB3.out (by omega) (by simp))
            replace HK := Aside0.mk (HK.out.trans hk5 (.inl rfl))
            replace HB := Aside0.mk (hk5.blk HB.out (by omega) (by simp))
            replace HT := Aside0.mk hT5
            replace HP : Aside0 (lopE m 2 ⟨k, [a, b]⟩ (toks xs j2) = r) := .mk (by rw [HKI.out]; exact HP.out)
            clear hk5 hT5 hm
            refine hK.out _ _ trivial (fun hHeld => ?_)
            clear hK K
            try simp only [Act.put, List.setIfInBounds_toArray, List.set_cons_zero, List.set_cons_succ]
            refine wpAnyH_ready (rs := [1]) (by kernel_rfl) (by simp) ?_
            refine AllReadyH.cons rfl (fun K hK => ?_) AllReadyH.nil
            have d0 := (blk_cell HB3.out 0).trans rfl
            have d1 := (blk_cell HB3.out 1).trans rfl
            simp at d0 d1
            go_simp
            clear d0 d1
            refine hK.out _ _ trivial (fun hHeld => ?_)
            clear hK K
            try simp only [Act.put, List.setIfInBounds_toArray, List.set_cons_zero, List.set_cons_succ]
            refine wpAnyH_ready (rs := [4]) (by kernel_rfl) (by simp) ?_
            refine AllReadyH.cons rfl (fun K hK => ?_) AllReadyH.nil
            go_simp
            refine hK.out _ _ trivial (fun hHeld => ?_)
            clear hK K
            try simp only [Act.put, List.setIfInBounds_toArray, List.set_cons_zero, List.set_cons_succ]
            have HM2 := Aside0.mk (R_pair (base := w.heap.size) HK.out.1 (⟨by omega, by omega, by omega⟩ : v3.heap.size ≠ g ∧ v3.heap.size ≠ w.heap.size ∧ v3.heap.size ≠ pb) HM.out HMB.out)
            have hD := below1 v3 #[.int .i8 a.f0, .slice Aa a.f1.length ca, .int .i8 b.f0, .slice Ab b.f1.length cb] 35
            replace HB3 := Aside0.mk (blk_below HB3.out hD)
            replace HB := Aside0.mk (blk_below HB.out hD)
            replace HT := Aside0.mk (HT.out.after hD)
            replace HK := Aside0.mk (HK.out.trans (KeepBut.of_below hD g none) (.inl rfl))
            clear hD
            generalize v3.alloc (.cells #[.int .i8 a.f0, .slice Aa a.f1.length ca, .int .i8 b.f0, .slice Ab b.f1.length cb] 35) = v4 at *
            refine takeA 20 5 (v := ?_) ?_ hHeld ?_
            rotate_left
            · intro w hSw
              try dsimp only at hSw
              go_simp <;> with_reducible rfl
            try simp only [Act.put, List.setIfInBounds_toArray, List.set_cons_zero, List.set_cons_succ]
            refine wpAnyH_ready (rs := [6]) (by kernel_rfl) (by simp) ?_
            refine AllReadyH.cons rfl (fun K hK => ?_) AllReadyH.nil
            have d0 := (blk_cell HB3.out 0).trans rfl
            have d1 := (blk_cell HB3.out 1).trans rfl
            have z0 := blk_frozen HB3.out 0
            have z1 := blk_frozen HB3.out 1
            simp at d0 d1
            go_simp
            clear d0 d1 z0 z1
            refine hK.out _ _ trivial (fun hHeld => ?_)
            clear hK K
            try simp only [Act.put, List.setIfInBounds_toArray, List.set_cons_zero, List.set_cons_succ]
            refine wpAnyH_done (by kernel_rfl) ?_ _
            go_wp2_with fail
            go_roundg m
            case rel => exact ⟨j2, ⟨k, [a, b]⟩, _, _, by omega, hj2, (HT.out.far _ _ (by show g ≠ pb; omega) (by show _ ≤ pb; omega)).far _ _ (by show g ≠ pb; omega) (by show _ ≤ pb; omega), keep_far (keep_far HK.out _ _ hlw) _ _ hlw, blk_put_far (blk_put_far HB.out (by show w.heap.size ≠ pb; omega)) (by show w.heap.size ≠ pb; omega), blk_put (cs := #[.int .i8 k, .slice Aa a.f1.length ca]) (blk_put HB3.out 0 _ rfl) 1 _ rfl, Kd.R_far (Kd.R_far HM2.out (p := ⟨pb, 0, none⟩) (fun k hk => hk.2.2) _) (p := ⟨pb, 1, none⟩) (fun k hk => hk.2.2) _, HP.out, by omega, by omega⟩
            case measure => omega
      · replace HP := Aside0.mk ((lopE_no m 2 a _ hno).symm.trans HP.out)
        replace HM := Aside0.mk (Kd.R_keep HM.out hK (fun k hk => hk.1))
        replace HB3 := Aside0.mk (hK.blk HB3.out (by omega) (by simp))
        replace HK := Aside0.mk (HK.out.trans hK (.inl rfl))
        replace HB := Aside0.mk (hK.blk HB.out (by omega) (by simp))
        replace HT := Aside0.mk hT
        clear hT hK
        have c0 := (blk_cell HB.out 0).trans rfl
        have c1 := (blk_cell HB.out 1).trans rfl
        have z0 := blk_frozen HB.out 0
        have z1 := blk_frozen HB.out 1
        simp at c0 c1
        have d0 := (blk_cell HB3.out 0).trans rfl
        have d1 := (blk_cell HB3.out 1).trans rfl
        simp at d0 d1
        replace HM := Aside0.mk (Kd.R_far (Kd.R_far HM.out (p := ⟨w.heap.size, 0, none⟩) (fun k hk => hk.2.1) (.int .i8 a.f0)) (p := ⟨w.heap.size, 1, none⟩) (fun k hk => hk.2.1) (.slice Aa a.f1.length ca))
        go_wp2_with fail
        refine bodyPost_ret (results_cell_row rfl _ _ w.heap.size 35 #[.int .i8 a.f0, .slice Aa a.f1.length ca] (0, 0) _ rfl (by refine blk_put (cs := #[.int .i8 a.f0, .slice none 0 0]) ?_ 1 _ rfl; refine blk_put (cs := #[.int .i8 0, .slice none 0 0]) ?_ 0 _ rfl; exact HB.out) Try.underlying35 rfl (by kernel_rfl)) rfl ?_
        rw [← HP.out]
        exact ⟨keep_far (keep_far HK.out _ _ (Nat.le_refl _)) _ _ (Nat.le_refl _), _, j, rfl, Kd.R_mono HM.out (fun k hk => trivial), (HT.out.far _ _ (by show g ≠ w.heap.size; omega) hlow).far _ _ (by show g ≠ w.heap.size; omega) hlow, hij, hj, rfl⟩
end Go.Proofs.Ytjmpejbciniceaa.X
