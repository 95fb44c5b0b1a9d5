/- Texts of this claim, joined: HAtom, HLeft, HWhole, HRead1, HRead. -/
import Derived.Deep.LoopGhost
import Derived.Test.YtjmpejbciniceaaDoorKTypesReads6
namespace Go.Proofs.YtjmpejbciniceaaDoor.X
open Go.RowKit Go.Proofs.YtjmpejbciniceaaDoorW.PrintWords Go.Proofs.YtjmpejbciniceaaDoorW.PrintLast Go.Proofs.YtjmpejbciniceaaDoorW.PrintMore
set_option linter.unusedVariables false
set_option linter.unusedSimpArgs false
theorem Tr.far {w0 : World} {g : Nat} {A : Option Addr} {c : Nat} {xs : List S37} {i : Nat} {w : World} (h : Tr w0 g A c xs i w) (p : Addr) (u : Value) (hp : g ≠ p.block) (hl : w0.heap.size ≤ p.block) : Tr w0 g A c xs i (w.setCell p u) :=
  ⟨(Below.heap_setCell w p u g hp).trans h.blk, h.words, h.low, h.below.setCell hl _⟩
theorem keep_far {w w1 : World} {g : Nat} (h : KeepBut w w1 g none) (p : Addr) (u : Value) (hp : w.heap.size ≤ p.block) : KeepBut w (w1.setCell p u) g none :=
  ⟨Nat.le_trans h.1 ((Below.refl 0 w1).setCell (p := p) (Nat.zero_le _) u).size, fun i hi hg hr => (Below.heap_setCell w1 p u i (by omega)).trans (h.2 i hi hg hr)⟩
set_option maxRecDepth 100000 in
set_option maxHeartbeats 3200000 in
theorem atom_leaves {w0 : World} {g : Nat} {A : Option Addr} {c : Nat} {xs : List S37} {i : Nat} {w : World} (h : Tr w0 g A c xs i w) (hn : xs.length ≤ 200000) (hi : i ≤ xs.length) (r : Except (List Tk) (S43 × List Tk)) (f : Nat) (HR : Aside0 (parE (f + 1) 4 (toks xs i) = r)) (hO : headIs tkO (toks xs i) = false) :
    Calls Tryd.prog 115 #[.pointer (some ⟨g, 0, none⟩)] w (ReadPost w0 g A c xs i w r) := by
  have hgl := blk_lt h.blk
  have hlow := h.below.size
  have HT := Aside0.mk (h.after (below1 w #[.int .i8 0, .slice none 0 0] 43))
  have HK := Aside0.mk (KeepBut.of_below (below1 w #[.int .i8 0, .slice none 0 0] 43) g none)
  have HB := Aside0.mk (heap_alloc_new w (.cells #[.int .i8 0, .slice none 0 0] 43))
  clear h
  go_enter Tryd.func115, Tryd.ntmps115
  go_wp2_with fail
  generalize w.alloc (.cells #[.int .i8 0, .slice none 0 0] 43) = wa at *
  refine (take_calls HT.out hn hi 4 ⟨#[63]⟩).mono ?_
  rintro e v0 h
  have e0 : (⟨#[63]⟩ : ByteArray).toList = [63] := bytes_toList _
  rw [TakePost, e0, nextIs_iff] at h
  rw [show ((4 : Int), ([63] : List UInt8)) = tkQ from rfl] at h
  clear e0
  rcases h with ⟨hyes, rfl, hT, hK⟩ | ⟨hno, rfl, hT, hK⟩
  · have hlt : i < xs.length := nextIs_lt ((nextIs_iff _ _ _ _).2 (show headIs tkQ (toks xs i) = true from hyes))
    replace HK := Aside0.mk (HK.out.trans hK (.inl rfl))
    replace HB := Aside0.mk (hK.blk HB.out (by omega) (by simp))
    replace HT := Aside0.mk hT
    clear hT hK
    have c0 := (blk_cell HB.out 0).trans rfl
    have c1 := (blk_cell HB.out 1).trans rfl
    have z0 := blk_frozen HB.out 0
    have z1 := blk_frozen HB.out 1
    simp at c0 c1
    go_wp2_with fail
    refine bodyPost_ret (results_cell_row rfl _ _ w.heap.size 43 #[.int .i8 0, .slice none 0 0] (0, 0) _ rfl (by refine blk_put (cs := #[.int .i8 0, .slice none 0 0]) ?_ 1 _ rfl; refine blk_put (cs := #[.int .i8 0, .slice none 0 0]) ?_ 0 _ rfl; exact HB.out) Tryd.underlying43 rfl (by kernel_rfl)) rfl ?_
    rw [← HR.out, parE_four, if_pos hyes]
    exact ⟨keep_far (keep_far HK.out _ _ (Nat.le_refl _)) _ _ (Nat.le_refl _), _, i + 1, rfl, Kd.R_nil _ _ _ _ _, (HT.out.far _ _ (by show g ≠ w.heap.size; omega) hlow).far _ _ (by show g ≠ w.heap.size; omega) hlow, Nat.le_succ _, hlt, toks_tail _ _⟩
  · have H0 := Aside0.mk hno
    clear hno
    replace HK := Aside0.mk (HK.out.trans hK (.inl rfl))
    replace HB := Aside0.mk (hK.blk HB.out (by omega) (by simp))
    replace HT := Aside0.mk hT
    clear hT hK
    go_wp2_with fail
    refine (take_calls HT.out hn hi 3 ⟨#[105, 110, 116]⟩).mono ?_
    rintro e v1 h
    have e1 : (⟨#[105, 110, 116]⟩ : ByteArray).toList = [105, 110, 116] := bytes_toList _
    rw [TakePost, e1, nextIs_iff] at h
    rw [show ((3 : Int), ([105, 110, 116] : List UInt8)) = tkI from rfl] at h
    clear e1
    rcases h with ⟨hyes, rfl, hT, hK⟩ | ⟨hno, rfl, hT, hK⟩
    · have hlt : i < xs.length := nextIs_lt ((nextIs_iff _ _ _ _).2 (show headIs tkI (toks xs i) = true from hyes))
      replace HK := Aside0.mk (HK.out.trans hK (.inl rfl))
      replace HB := Aside0.mk (hK.blk HB.out (by omega) (by simp))
      replace HT := Aside0.mk hT
      clear hT hK
      have c0 := (blk_cell HB.out 0).trans rfl
      have c1 := (blk_cell HB.out 1).trans rfl
      have z0 := blk_frozen HB.out 0
      have z1 := blk_frozen HB.out 1
      simp at c0 c1
      go_wp2_with fail
      refine bodyPost_ret (results_cell_row rfl _ _ w.heap.size 43 #[.int .i8 1, .slice none 0 0] (0, 0) _ rfl (by refine blk_put (cs := #[.int .i8 1, .slice none 0 0]) ?_ 1 _ rfl; refine blk_put (cs := #[.int .i8 0, .slice none 0 0]) ?_ 0 _ rfl; exact HB.out) Tryd.underlying43 rfl (by kernel_rfl)) rfl ?_
      rw [← HR.out, parE_four, if_neg H0.out, if_pos hyes]
      exact ⟨keep_far (keep_far HK.out _ _ (Nat.le_refl _)) _ _ (Nat.le_refl _), _, i + 1, rfl, Kd.R_nil _ _ _ _ _, (HT.out.far _ _ (by show g ≠ w.heap.size; omega) hlow).far _ _ (by show g ≠ w.heap.size; omega) hlow, Nat.le_succ _, hlt, toks_tail _ _⟩
    · have H1 := Aside0.mk hno
      clear hno
      replace HK := Aside0.mk (HK.out.trans hK (.inl rfl))
      replace HB := Aside0.mk (hK.blk HB.out (by omega) (by simp))
      replace HT := Aside0.mk hT
      clear hT hK
      go_wp2_with fail
      refine (take_calls HT.out hn hi 3 ⟨#[98, 111, 111, 108]⟩).mono ?_
      rintro e v2 h
      have e2 : (⟨#[98, 111, 111, 108]⟩ : ByteArray).toList = [98, 111, 111, 108] := bytes_toList _
      rw [TakePost, e2, nextIs_iff] at h
      rw [show ((3 : Int), ([98, 111, 111, 108] : List UInt8)) = tkB from rfl] at h
      clear e2
      rcases h with ⟨hyes, rfl, hT, hK⟩ | ⟨hno, rfl, hT, hK⟩
      · have hlt : i < xs.length := nextIs_lt ((nextIs_iff _ _ _ _).2 (show headIs tkB (toks xs i) = true from hyes))
        replace HK := Aside0.mk (HK.out.trans hK (.inl rfl))
        replace HB := Aside0.mk (hK.blk HB.out (by omega) (by simp))
        replace HT := Aside0.mk hT
        clear hT hK
        have c0 := (blk_cell HB.out 0).trans rfl
        have c1 := (blk_cell HB.out 1).trans rfl
        have z0 := blk_frozen HB.out 0
        have z1 := blk_frozen HB.out 1
        simp at c0 c1
        go_wp2_with fail
        refine bodyPost_ret (results_cell_row rfl _ _ w.heap.size 43 #[.int .i8 2, .slice none 0 0] (0, 0) _ rfl (by refine blk_put (cs := #[.int .i8 2, .slice none 0 0]) ?_ 1 _ rfl; refine blk_put (cs := #[.int .i8 0, .slice none 0 0]) ?_ 0 _ rfl; exact HB.out) Tryd.underlying43 rfl (by kernel_rfl)) rfl ?_
        rw [← HR.out, parE_four, if_neg H0.out, if_neg H1.out, if_pos hyes]
        exact ⟨keep_far (keep_far HK.out _ _ (Nat.le_refl _)) _ _ (Nat.le_refl _), _, i + 1, rfl, Kd.R_nil _ _ _ _ _, (HT.out.far _ _ (by show g ≠ w.heap.size; omega) hlow).far _ _ (by show g ≠ w.heap.size; omega) hlow, Nat.le_succ _, hlt, toks_tail _ _⟩
      · have H2 := Aside0.mk hno
        clear hno
        replace HK := Aside0.mk (HK.out.trans hK (.inl rfl))
        replace HB := Aside0.mk (hK.blk HB.out (by omega) (by simp))
        replace HT := Aside0.mk hT
        clear hT hK
        go_wp2_with fail
        refine (take_calls HT.out hn hi 4 ⟨#[40]⟩).mono ?_
        rintro e v4 h
        have e4 : (⟨#[40]⟩ : ByteArray).toList = [40] := bytes_toList _
        rw [TakePost, e4, nextIs_iff] at h
        rw [show ((4 : Int), ([40] : List UInt8)) = tkO from rfl] at h
        clear e4
        rcases h with ⟨hyes, rfl, hT, hK⟩ | ⟨hno, rfl, hT, hK⟩
        · exact absurd hyes (by rw [hO]; simp)
        · clear hno
          replace HK := Aside0.mk (HK.out.trans hK (.inl rfl))
          replace HT := Aside0.mk hT
          clear hT hK
          go_wp2_with fail
          refine (wrong_calls HT.out hn).mono ?_
          rintro e w5 ⟨q, rfl, hB, hq⟩
          have HK5 := Aside0.mk (HK.out.trans (KeepBut.of_below hB g none) (.inl rfl))
          have HQ := Aside0.mk (And.intro hq (below_then HT.out.below HT.out.below.size hB))
          clear hB hq
          go_wp2_with fail
          rw [← HR.out, parE_four, if_neg H0.out, if_neg H1.out, if_neg H2.out, if_neg (by rw [hO]; simp)]
          exact ⟨rfl, HK5.out, q, i, rfl, rfl, hi, HQ.out⟩
set_option maxRecDepth 100000 in
set_option maxHeartbeats 3200000 in
theorem atom_open {w0 : World} {g : Nat} {A : Option Addr} {c : Nat} {xs : List S37} {i : Nat} {w : World} (h : Tr w0 g A c xs i w) (hn : xs.length ≤ 200000) (hi : i ≤ xs.length) (r : Except (List Tk) (S43 × List Tk)) (f : Nat) (HR : Aside0 (parE (f + 1) 4 (toks xs i) = r)) (hO : headIs tkO (toks xs i) = true)
    (IH : Aside0 (∀ w, Tr w0 g A c xs (i + 1) w → Calls Tryd.prog 39 #[.pointer (some ⟨g, 0, none⟩)] w (ReadPost w0 g A c xs (i + 1) w (parE f 0 (toks xs (i + 1)))))) :
    Calls Tryd.prog 115 #[.pointer (some ⟨g, 0, none⟩)] w (ReadPost w0 g A c xs i w r) := by
  have hgl := blk_lt h.blk
  have hlow := h.below.size
  have HT := Aside0.mk (h.after (below1 w #[.int .i8 0, .slice none 0 0] 43))
  have HK := Aside0.mk (KeepBut.of_below (below1 w #[.int .i8 0, .slice none 0 0] 43) g none)
  have HB := Aside0.mk (heap_alloc_new w (.cells #[.int .i8 0, .slice none 0 0] 43))
  clear h
  have hot : ∀ k, k ≠ tkO → headIs k (toks xs i) = false := by
    intro k hk
    revert hO
    cases toks xs i with
    | nil => intro _; rfl
    | cons t l =>
      simp only [headIs, decide_eq_true_eq, decide_eq_false_iff_not]
      rintro rfl e
      exact hk e.symm
  have H0 := Aside0.mk (hot tkQ (by decide))
  have H1 := Aside0.mk (hot tkI (by decide))
  have H2 := Aside0.mk (hot tkB (by decide))
  clear hot
  go_enter Tryd.func115, Tryd.ntmps115
  go_wp2_with fail
  generalize w.alloc (.cells #[.int .i8 0, .slice none 0 0] 43) = wa at *
  refine (take_calls HT.out hn hi 4 ⟨#[63]⟩).mono ?_
  rintro e v0 h
  have e0 : (⟨#[63]⟩ : ByteArray).toList = [63] := bytes_toList _
  rw [TakePost, e0, nextIs_iff] at h
  rw [show ((4 : Int), ([63] : List UInt8)) = tkQ from rfl] at h
  clear e0
  rcases h with ⟨hyes, rfl, hT, hK⟩ | ⟨hno, rfl, hT, hK⟩
  · exact absurd hyes (by rw [H0.out]; simp)
  clear hno
  replace HK := Aside0.mk (HK.out.trans hK (.inl rfl))
  replace HB := Aside0.mk (hK.blk HB.out (by omega) (by simp))
  replace HT := Aside0.mk hT
  clear hT hK
  go_wp2_with fail
  refine (take_calls HT.out hn hi 3 ⟨#[105, 110, 116]⟩).mono ?_
  rintro e v1 h
  have e1 : (⟨#[105, 110, 116]⟩ : ByteArray).toList = [105, 110, 116] := bytes_toList _
  rw [TakePost, e1, nextIs_iff] at h
  rw [show ((3 : Int), ([105, 110, 116] : List UInt8)) = tkI from rfl] at h
  clear e1
  rcases h with ⟨hyes, rfl, hT, hK⟩ | ⟨hno, rfl, hT, hK⟩
  · exact absurd hyes (by rw [H1.out]; simp)
  clear hno
  replace HK := Aside0.mk (HK.out.trans hK (.inl rfl))
  replace HB := Aside0.mk (hK.blk HB.out (by omega) (by simp))
  replace HT := Aside0.mk hT
  clear hT hK
  go_wp2_with fail
  refine (take_calls HT.out hn hi 3 ⟨#[98, 111, 111, 108]⟩).mono ?_
  rintro e v2 h
  have e2 : (⟨#[98, 111, 111, 108]⟩ : ByteArray).toList = [98, 111, 111, 108] := bytes_toList _
  rw [TakePost, e2, nextIs_iff] at h
  rw [show ((3 : Int), ([98, 111, 111, 108] : List UInt8)) = tkB from rfl] at h
  clear e2
  rcases h with ⟨hyes, rfl, hT, hK⟩ | ⟨hno, rfl, hT, hK⟩
  · exact absurd hyes (by rw [H2.out]; simp)
  clear hno
  replace HK := Aside0.mk (HK.out.trans hK (.inl rfl))
  replace HB := Aside0.mk (hK.blk HB.out (by omega) (by simp))
  replace HT := Aside0.mk hT
  clear hT hK
  go_wp2_with fail
  refine (take_calls HT.out hn hi 4 ⟨#[40]⟩).mono ?_
  rintro e v4 h
  have e4 : (⟨#[40]⟩ : ByteArray).toList = [40] := bytes_toList _
  rw [TakePost, e4, nextIs_iff] at h
  rw [show ((4 : Int), ([40] : List UInt8)) = tkO from rfl] at h
  clear e4
  rcases h with ⟨hyes, rfl, hT, hK⟩ | ⟨hno, rfl, hT, hK⟩
  rotate_left
  · exact absurd hO hno
  have hlt : i < xs.length := nextIs_lt ((nextIs_iff _ _ _ _).2 (show headIs tkO (toks xs i) = true from hyes))
  replace HK := Aside0.mk (HK.out.trans hK (.inl rfl))
  replace HB := Aside0.mk (hK.blk HB.out (by omega) (by simp))
  replace HT := Aside0.mk hT
  clear hT hK
  go_wp2_with fail
  refine (IH.out _ HT.out).mono ?_
  obtain ⟨x, hx⟩ : ∃ x, x = parE f 0 (toks xs (i + 1)) := ⟨_, rfl⟩
  rw [← hx]
  have HP : Aside0 (r = closeE x) := .mk (by
    rw [← HR.out, parE_four, if_neg (by rw [H0.out]; simp), if_neg (by rw [H1.out]; simp), if_neg (by rw [H2.out]; simp), if_pos hO, toks_tail, hx])
  clear hx
  cases x with
  | error u =>
    rintro e w5 ⟨hk5, q, j, rfl, hu, hj, hq⟩
    have HU := Aside0.mk hu
    have HQ := Aside0.mk hq
    have HK5 := Aside0.mk (HK.out.trans hk5 (.inl rfl))
    clear hk5 hu hq
    go_wp2_with fail
    rw [HP.out]
    exact ⟨rfl, HK5.out, q, j, rfl, HU.out, hj, HQ.out⟩
  | ok x =>
    obtain ⟨a, u⟩ := x
    rintro e w5 ⟨hk5, v, j, rfl, hm, hT5, hij, hj, hu⟩
    replace hu : u = toks xs j := hu
    subst hu
    obtain ⟨Aa, ca, rfl⟩ := Kd.R_slice hm
    have HM := Aside0.mk (R_apart (p := w.heap.size) hm HK.out.1 (blk_lt HT.out.blk) (blk_lt HB.out))
    replace HK := Aside0.mk (HK.out.trans hk5 (.inl rfl))
    replace HB := Aside0.mk (hk5.blk HB.out (by omega) (by simp))
    replace HT := Aside0.mk hT5
    clear hk5 hT5 hm IH
    go_wp2_with fail
    have hlw : w.heap.size ≤ w5.heap.size := HK.out.1
    have hB5 := below1 w5 #[.int .i8 a.f0, .slice Aa a.f1.length ca] 43
    replace HK := Aside0.mk (HK.out.trans (KeepBut.of_below hB5 g none) (.inl rfl))
    replace HT := Aside0.mk (HT.out.after hB5)
    have hbl := blk_lt HB.out
    replace HB := Aside0.mk (blk_below HB.out hB5)
    replace HM := Aside0.mk (Kd.R_below HM.out hB5)
    have HB3 := Aside0.mk (heap_alloc_new w5 (.cells #[.int .i8 a.f0, .slice Aa a.f1.length ca] 43))
    clear hB5
    generalize w5.alloc (.cells #[.int .i8 a.f0, .slice Aa a.f1.length ca] 43) = wb at *
    refine (take_calls HT.out hn hj 4 ⟨#[41]⟩).mono ?_
    rintro e v6 h
    have e6 : (⟨#[41]⟩ : ByteArray).toList = [41] := bytes_toList _
    rw [TakePost, e6, nextIs_iff] at h
    rw [show ((4 : Int), ([41] : List UInt8)) = tkC from rfl] at h
    clear e6
    rcases h with ⟨hyes, rfl, hT, hK⟩ | ⟨hno, rfl, hT, hK⟩
    · have hjt : j < xs.length := nextIs_lt ((nextIs_iff _ _ _ _).2 (show headIs tkC (toks xs j) = true from hyes))
      replace HP := Aside0.mk (HP.out.trans (by rw [closeE, if_pos hyes, toks_tail]))
      replace HM := Aside0.mk (Kd.R_keep HM.out hK (fun k hk => hk.1))
      replace HB3 := Aside0.mk (hK.blk HB3.out (by omega) (by simp))
      replace HK := Aside0.mk (HK.out.trans hK (.inl rfl))
      replace HB := Aside0.mk (hK.blk HB.out (by omega) (by simp))
      replace HT := Aside0.mk hT
      clear hT hK
      have c0 := (blk_cell HB.out 0).trans rfl
      have c1 := (blk_cell HB.out 1).trans rfl
      have z0 := blk_frozen HB.out 0
      have z1 := blk_frozen HB.out 1
      simp at c0 c1
      have d0 := (blk_cell HB3.out 0).trans rfl
      have d1 := (blk_cell HB3.out 1).trans rfl
      simp at d0 d1
      replace HM := Aside0.mk (Kd.R_far (Kd.R_far HM.out (p := ⟨w.heap.size, 0, none⟩) (fun k hk => hk.2) (.int .i8 a.f0)) (p := ⟨w.heap.size, 1, none⟩) (fun k hk => hk.2) (.slice Aa a.f1.length ca))
      go_wp2_with fail
      refine bodyPost_ret (results_cell_row rfl _ _ w.heap.size 43 #[.int .i8 a.f0, .slice Aa a.f1.length ca] (0, 0) _ rfl (by refine blk_put (cs := #[.int .i8 a.f0, .slice none 0 0]) ?_ 1 _ rfl; refine blk_put (cs := #[.int .i8 0, .slice none 0 0]) ?_ 0 _ rfl; exact HB.out) Tryd.underlying43 rfl (by kernel_rfl)) rfl ?_
      rw [HP.out]
      exact ⟨keep_far (keep_far HK.out _ _ (Nat.le_refl _)) _ _ (Nat.le_refl _), _, j + 1, rfl, Kd.R_mono HM.out (fun k hk => trivial), (HT.out.far _ _ (by show g ≠ w.heap.size; omega) hlow).far _ _ (by show g ≠ w.heap.size; omega) hlow, by omega, by omega, rfl⟩
    · replace HP := Aside0.mk (HP.out.trans (by rw [closeE, if_neg hno]))
      replace HK := Aside0.mk (HK.out.trans hK (.inl rfl))
      replace HT := Aside0.mk hT
      clear hT hK
      go_wp2_with fail
      refine (wrong_calls HT.out hn).mono ?_
      rintro e w7 ⟨q, rfl, hB, hq⟩
      have HK7 := Aside0.mk (HK.out.trans (KeepBut.of_below hB g none) (.inl rfl))
      have HQ := Aside0.mk (And.intro hq (below_then HT.out.below HT.out.below.size hB))
      clear hB hq
      go_wp2_with fail
      rw [HP.out]
      exact ⟨rfl, HK7.out, q, j, rfl, rfl, hj, HQ.out⟩
end Go.Proofs.YtjmpejbciniceaaDoor.X
namespace Go.Proofs.YtjmpejbciniceaaDoor.X
open Go.RowKit Go.Proofs.YtjmpejbciniceaaDoorW.PrintWords Go.Proofs.YtjmpejbciniceaaDoorW.PrintLast Go.Proofs.YtjmpejbciniceaaDoorW.PrintMore
set_option linter.unusedVariables false
set_option linter.unusedSimpArgs false
theorem blk_put_far {w : World} {g : Nat} {o : Obj} (h : w.heap[g]? = some o) {p : Addr} {u : Value} (hp : g ≠ p.block) : (w.setCell p u).heap[g]? = some o := (Below.heap_setCell w p u g hp).trans h
theorem R_apart3 {v0 w : World} {base : Nat} {g p q : Nat} {v : Value} {l : List S43} (h : k43.R 43 w v0.heap.size (fun _ => True) v l) (hb : base ≤ v0.heap.size) (hg : g < v0.heap.size) (hp : p < v0.heap.size) (hq : q < v0.heap.size ∨ w.heap.size ≤ q) : k43.R 43 w base (fun k => k ≠ g ∧ k ≠ p ∧ k ≠ q) v l :=
  Kd.R_lower (Kd.R_mono (Kd.R_bound h) fun k hk => ⟨by omega, by omega, by omega⟩) hb
def loopE (f L : Nat) : Except (List Tk) (S43 × List Tk) → Except (List Tk) (S43 × List Tk)
  | .ok x => lopE f L x.1 x.2
  | .error u => .error u
def nextE (f L : Nat) (a : S43) : Except (List Tk) (S43 × List Tk) → Except (List Tk) (S43 × List Tk)
  | .ok x => lopE f L ⟨kindOf L, [a, x.1]⟩ x.2
  | .error u => .error u
theorem parE_left (f L : Nat) (hL : L = 3 ∨ L = 2) (ts : List Tk) : parE (f + 1) L ts = loopE f L (parE f (L + 1) ts) := by
  rcases hL with rfl | rfl
  · rw [parE_three]; rfl
  · rw [parE_two]; rfl
theorem lopE_yes (f L : Nat) (a : S43) (ts : List Tk) (h : headIs (opOf L) ts = true) : lopE (f + 1) L a ts = nextE f L a (parE f (L + 1) ts.tail) := by
  rw [lopE_succ, if_pos h]; rfl
theorem lopE_no (f L : Nat) (a : S43) (ts : List Tk) (h : ¬ headIs (opOf L) ts = true) : lopE (f + 1) L a ts = .ok (a, ts) := by
  rw [lopE_succ, if_neg h]
set_option maxRecDepth 100000 in
set_option maxHeartbeats 3200000 in
theorem left3_calls {w0 : World} {g : Nat} {A : Option Addr} {c : Nat} {xs : List S37} {i : Nat} {w : World} (h : Tr w0 g A c xs i w) (hn : xs.length ≤ 200000) (hi : i ≤ xs.length) (f : Nat) (k : Int) (s : ByteArray) (HKI : Aside0 (k = kindOf 3)) (HS : Aside0 (((4 : Int), s.toList) = opOf 3)) (r : Except (List Tk) (S43 × List Tk)) (HR : Aside0 (parE (f + 1) 3 (toks xs i) = r)) (hf : 6 * (xs.length - i) + 3 ≤ f + 1)
    (IH : Aside0 (∀ f', f' ≤ f → ∀ j w, j ≤ xs.length → Tr w0 g A c xs j w → 6 * (xs.length - j) + 2 ≤ f' → Calls Tryd.prog 115 #[.pointer (some ⟨g, 0, none⟩)] w (ReadPost w0 g A c xs j w (parE f' 4 (toks xs j))))) :
    Calls Tryd.prog 81 #[.pointer (some ⟨g, 0, none⟩), .int .i8 k, .string s, .func (.func 115) #[.pointer (some ⟨g, 0, none⟩)] #[]] w (ReadPost w0 g A c xs i w r) := by
  have hgl := blk_lt h.blk
  have hlow := h.below.size
  have HT := Aside0.mk (h.after (below1 w #[.int .i8 0, .slice none 0 0] 43))
  have HK := Aside0.mk (KeepBut.of_below (below1 w #[.int .i8 0, .slice none 0 0] 43) g none)
  have HB := Aside0.mk (heap_alloc_new w (.cells #[.int .i8 0, .slice none 0 0] 43))
  clear h
  go_enter Tryd.func81, Tryd.ntmps81
  go_wp2_with fail
  generalize w.alloc (.cells #[.int .i8 0, .slice none 0 0] 43) = wa at *
  refine (IH.out f (Nat.le_refl _) i _ hi HT.out (by omega)).mono ?_
  obtain ⟨x, hx⟩ : ∃ x, x = parE f 4 (toks xs i) := ⟨_, rfl⟩
  rw [← hx]
  have HP : Aside0 (loopE f 3 x = r) := .mk (by rw [hx, ← parE_left f 3 (by simp)]; exact HR.out)
  clear hx
  cases x with
  | error u =>
    rintro e w5 ⟨hk5, q, j2, rfl, hu, hj2, hq⟩
    have HU := Aside0.mk hu
    have HQ := Aside0.mk hq
    have HK5 := Aside0.mk (HK.out.trans hk5 (.inl rfl))
    clear hk5 hu hq
    go_wp2_with fail
    rw [← HP.out]
    exact ⟨rfl, HK5.out, q, j2, rfl, HU.out, hj2, HQ.out⟩
  | ok x =>
    obtain ⟨a, u⟩ := x
    rintro e w5 ⟨hk5, v, j, rfl, hm, hT5, hij, hj, hu⟩
    replace hu : u = toks xs j := hu
    subst hu
    obtain ⟨Aa, ca, rfl⟩ := Kd.R_slice hm
    have HM := Aside0.mk (R_apart3 (p := w.heap.size) (q := w5.heap.size) hm HK.out.1 (blk_lt HT.out.blk) (blk_lt HB.out) (.inr (Nat.le_refl _)))
    replace HK := Aside0.mk (HK.out.trans hk5 (.inl rfl))
    replace HB := Aside0.mk (hk5.blk HB.out (by omega) (by simp))
    replace HT := Aside0.mk hT5
    replace HP : Aside0 (lopE f 3 a (toks xs j) = r) := .mk HP.out
    clear hk5 hT5 hm
    go_wp2_with fail
    have hlw : w.heap.size ≤ w5.heap.size := HK.out.1
    have hB5 := below1 w5 #[.int .i8 a.f0, .slice Aa a.f1.length ca] 43
    replace HK := Aside0.mk (HK.out.trans (KeepBut.of_below hB5 g none) (.inl rfl))
    replace HT := Aside0.mk (HT.out.after hB5)
    have hbl := blk_lt HB.out
    replace HB := Aside0.mk (blk_below HB.out hB5)
    replace HM := Aside0.mk (Kd.R_below HM.out hB5)
    have HB3 := Aside0.mk (heap_alloc_new w5 (.cells #[.int .i8 a.f0, .slice Aa a.f1.length ca] 43))
    clear hB5
    generalize w5.alloc (.cells #[.int .i8 a.f0, .slice Aa a.f1.length ca] 43) = wb at *
    generalize w5.heap.size = pb at *
    go_loopg [] f (fun k wr => ∃ j a Aa ca, i ≤ j ∧ j ≤ xs.length ∧ Tr w0 g A c xs j wr ∧ KeepBut w wr g none ∧ wr.heap[w.heap.size]? = some (.cells #[.int .i8 0, .slice none 0 0] 43 (0, 0)) ∧ wr.heap[pb]? = some (.cells #[.int .i8 a.f0, .slice Aa a.f1.length ca] 43 (0, 0)) ∧ k43.R 43 wr w.heap.size (fun b => b ≠ g ∧ b ≠ w.heap.size ∧ b ≠ pb) (.slice Aa a.f1.length ca) a.f1 ∧ lopE k 3 a (toks xs j) = r ∧ 6 * (xs.length - j) + 1 ≤ k ∧ k ≤ f)
    case atStart => exact ⟨j, a, Aa, ca, hij, hj, HT.out, HK.out, HB.out, HB3.out, HM.out, HP.out, by omega, Nat.le_refl _⟩
    case round =>
      obtain ⟨j, a, Aa, ca, hij, hj, hT, hK, hB, hB3, hM, hP, hk1, hkf⟩ := hrel
      obtain ⟨m, rfl⟩ : ∃ m, gk = m + 1 := ⟨gk - 1, by omega⟩
      replace HT := Aside0.mk hT
      replace HK := Aside0.mk hK
      replace HB := Aside0.mk hB
      replace HB3 := Aside0.mk hB3
      replace HM := Aside0.mk hM
      replace HP := Aside0.mk hP
      have hpl := blk_lt hB3
      clear hT hK hB hB3 hM hP
      go_wp2_with fail
      refine (take_calls HT.out hn hj 4 s).mono ?_
      rintro e v1 h
      rw [TakePost, nextIs_iff, HS.out] at h
      rcases h with ⟨hyes, rfl, hT, hK⟩ | ⟨hno, rfl, hT, hK⟩
      · have hjt : j < xs.length := nextIs_lt ((nextIs_iff _ _ _ _).2 (by rw [HS.out]; exact hyes))
        replace HP := Aside0.mk ((lopE_yes m 3 a _ hyes).symm.trans HP.out)
        rw [toks_tail] at HP
        replace HM := Aside0.mk (Kd.R_keep HM.out hK (fun k hk => hk.1))
        replace HB3 := Aside0.mk (hK.blk HB3.out (by omega) (by simp))
        replace HK := Aside0.mk (HK.out.trans hK (.inl rfl))
        replace HB := Aside0.mk (hK.blk HB.out (by omega) (by simp))
        replace HT := Aside0.mk hT
        clear hT hK
        go_wp2_with fail
        refine wp_region_held_drew (S := fun _ => True) (by kernel_rfl) trivial (fun hHeld => ?_)
        have hD := (Below.refl v1.heap.size v1).drew
        replace HM := Aside0.mk (Kd.R_below HM.out hD)
        replace HB3 := Aside0.mk (blk_below HB3.out hD)
        replace HB := Aside0.mk (blk_below HB.out hD)
        replace HT := Aside0.mk (HT.out.after hD)
        replace HK := Aside0.mk (HK.out.trans (KeepBut.of_below hD g none) (.inl rfl))
        clear hD
        generalize v1.drew = v2 at *
        refine takeA 15 0 (v := ?_) ?_ hHeld ?_
        rotate_left
        · intro w hSw
          try dsimp only at hSw
          go_simp <;> with_reducible rfl
        try simp only [Act.put, List.setIfInBounds_toArray, List.set_cons_zero, List.set_cons_succ]
        refine takeA 17 2 (v := ?_) ?_ hHeld ?_
        rotate_left
        · intro w hSw
          try dsimp only at hSw
          go_simp <;> with_reducible rfl
        try simp only [Act.put, List.setIfInBounds_toArray, List.set_cons_zero, List.set_cons_succ]
        refine wpAnyH_ready (rs := [1, 3]) (by kernel_rfl) (by simp) ?_
        refine AllReadyH.cons rfl (fun K hK => ?_) (AllReadyH.cons rfl (fun K hK => ?_) AllReadyH.nil)
        · have d0 := (blk_cell HB3.out 0).trans rfl
          have d1 := (blk_cell HB3.out 1).trans rfl
          simp at d0 d1
          go_simp
          clear d0 d1
          refine hK.out _ _ trivial (fun hHeld => ?_)
          clear hK K
          try simp only [Act.put, List.setIfInBounds_toArray, List.set_cons_zero, List.set_cons_succ]
          refine wpAnyH_ready (rs := [3]) (by kernel_rfl) (by simp) ?_
          refine AllReadyH.cons rfl (fun K hK => ?_) AllReadyH.nil
          go_simp
          refine (IH.out m (by omega) (j + 1) _ hjt HT.out (by omega)).mono ?_
          replace HP : Aside0 (nextE m 3 a (parE m 4 (toks xs (j + 1))) = r) := .mk HP.out
          obtain ⟨x, hx⟩ : ∃ x, x = parE m 4 (toks xs (j + 1)) := ⟨_, rfl⟩
          rw [← hx]
          rw [← hx] at HP
          clear hx
          cases x with
          | error u =>
            rintro e w5 ⟨hk5, q, j2, rfl, hu, hj2, hq⟩
            have HU := Aside0.mk hu
            have HQ := Aside0.mk hq
            have HK5 := Aside0.mk (HK.out.trans hk5 (.inl rfl))
            clear hk5 hu hq
            rw [← HP.out]
            go_wp2_with fail
            exact ⟨rfl, HK5.out, q, j2, rfl, HU.out, hj2, HQ.out⟩
          | ok x =>
            obtain ⟨b, u⟩ := x
            rintro e v3 ⟨hk5, vb, j2, rfl, hm, hT5, hij2, hj2, hu⟩
            replace hu : u = toks xs j2 := hu
            subst hu
            obtain ⟨Ab, cb, rfl⟩ := Kd.R_slice hm
            have hpl2 := blk_lt HB3.out
            have hgl2 := blk_lt HT.out.blk
            have hvl : v2.heap.size ≤ v3.heap.size := hk5.1
            have HMB := Aside0.mk (R_apart3 (p := w.heap.size) (q := pb) hm HK.out.1 hgl2 (blk_lt HB.out) (.inl hpl2))
            replace HM := Aside0.mk (Kd.R_keep HM.out hk5 (fun k hk => hk.1))
            replace HB3 := Aside0.mk (hk5.blk HB3.out (by omega) (by simp))
            replace HK := Aside0.mk (HK.out.trans hk5 (.inl rfl))
            replace HB := Aside0.mk (hk5.blk HB.out (by omega) (by simp))
            replace HT := Aside0.mk hT5
            replace HP : Aside0 (lopE m 3 ⟨k, [a, b]⟩ (toks xs j2) = r) := .mk (by rw [HKI.out]; exact HP.out)
            clear hk5 hT5 hm
            refine hK.out _ _ trivial (fun hHeld => ?_)
            clear hK K
            try simp only [Act.put, List.setIfInBounds_toArray, List.set_cons_zero, List.set_cons_succ]
            refine wpAnyH_ready (rs := [4]) (by kernel_rfl) (by simp) ?_
            refine AllReadyH.cons rfl (fun K hK => ?_) AllReadyH.nil
            go_simp
            refine hK.out _ _ trivial (fun hHeld => ?_)
            clear hK K
            try simp only [Act.put, List.setIfInBounds_toArray, List.set_cons_zero, List.set_cons_succ]
            have HM2 := Aside0.mk (R_pair (base := w.heap.size) HK.out.1 (⟨by omega, by omega, by omega⟩ : v3.heap.size ≠ g ∧ v3.heap.size ≠ w.heap.size ∧ v3.heap.size ≠ pb) HM.out HMB.out)
            have hD := below1 v3 #[.int .i8 a.f0, .slice Aa a.f1.length ca, .int .i8 b.f0, .slice Ab b.f1.length cb] 43
            replace HB3 := Aside0.mk (blk_below HB3.out hD)
            replace HB := Aside0.mk (blk_below HB.out hD)
            replace HT := Aside0.mk (HT.out.after hD)
            replace HK := Aside0.mk (HK.out.trans (KeepBut.of_below hD g none) (.inl rfl))
            clear hD
            generalize v3.alloc (.cells #[.int .i8 a.f0, .slice Aa a.f1.length ca, .int .i8 b.f0, .slice Ab b.f1.length cb] 43) = v4 at *
            refine takeA 20 5 (v := ?_) ?_ hHeld ?_
            rotate_left
            · intro w hSw
              try dsimp only at hSw
              go_simp <;> with_reducible rfl
            try simp only [Act.put, List.setIfInBounds_toArray, List.set_cons_zero, List.set_cons_succ]
            refine wpAnyH_ready (rs := [6]) (by kernel_rfl) (by simp) ?_
            refine AllReadyH.cons rfl (fun K hK => ?_) AllReadyH.nil
            have d0 := (blk_cell HB3.out 0).trans rfl
            have d1 := (blk_cell HB3.out 1).trans rfl
            have z0 := blk_frozen HB3.out 0
            have z1 := blk_frozen HB3.out 1
            simp at d0 d1
            go_simp
            clear d0 d1 z0 z1
            refine hK.out _ _ trivial (fun hHeld => ?_)
            clear hK K
            try simp only [Act.put, List.setIfInBounds_toArray, List.set_cons_zero, List.set_cons_succ]
            refine wpAnyH_done (by kernel_rfl) ?_ _
            go_wp2_with fail
            go_roundg m
            case rel => exact ⟨j2, ⟨k, [a, b]⟩, _, _, by omega, hj2, (HT.out.far _ _ (by show g ≠ pb; omega) (by show _ ≤ pb; omega)).far _ _ (by show g ≠ pb; omega) (by show _ ≤ pb; omega), keep_far (keep_far HK.out _ _ hlw) _ _ hlw, blk_put_far (blk_put_far HB.out (by show w.heap.size ≠ pb; omega)) (by show w.heap.size ≠ pb; omega), blk_put (cs := #[.int .i8 k, .slice Aa a.f1.length ca]) (blk_put HB3.out 0 _ rfl) 1 _ rfl, Kd.R_far (Kd.R_far HM2.out (p := ⟨pb, 0, none⟩) (fun k hk => hk.2.2) _) (p := ⟨pb, 1, none⟩) (fun k hk => hk.2.2) _, HP.out, by omega, by omega⟩
            case measure => omega
        · go_simp
          refine (IH.out m (by omega) (j + 1) _ hjt HT.out (by omega)).mono ?_
          replace HP : Aside0 (nextE m 3 a (parE m 4 (toks xs (j + 1))) = r) := .mk HP.out
          obtain ⟨x, hx⟩ : ∃ x, x = parE m 4 (toks xs (j + 1)) := ⟨_, rfl⟩
          rw [← hx]
          rw [← hx] at HP
          clear hx
          cases x with
          | error u =>
            rintro e w5 ⟨hk5, q, j2, rfl, hu, hj2, hq⟩
            have HU := Aside0.mk hu
            have HQ := Aside0.mk hq
            have HK5 := Aside0.mk (HK.out.trans hk5 (.inl rfl))
            clear hk5 hu hq
            rw [← HP.out]
            go_wp2_with fail
            exact ⟨rfl, HK5.out, q, j2, rfl, HU.out, hj2, HQ.out⟩
          | ok x =>
            obtain ⟨b, u⟩ := x
            rintro e v3 ⟨hk5, vb, j2, rfl, hm, hT5, hij2, hj2, hu⟩
            replace hu : u = toks xs j2 := hu
            subst hu
            obtain ⟨Ab, cb, rfl⟩ := Kd.R_slice hm
            have hpl2 := blk_lt HB3.out
            have hgl2 := blk_lt HT.out.blk
            have hvl : v2.heap.size ≤ v3.heap.size := hk5.1
            have HMB := Aside0.mk (R_apart3 (p := w.heap.size) (q := pb) hm HK.out.1 hgl2 (blk_lt HB.out) (.inl hpl2))
            replace HM := Aside0.mk (Kd.R_keep HM.out hk5 (fun k hk => hk.1))
            replace HB3 := Aside0.mk (hk5.blk HB3.out (by omega) (by simp))
            replace HK := Aside0.mk (HK.out.trans hk5 (.inl rfl))
            replace HB := Aside0.mk (hk5.blk HB.out (by omega) (by simp))
            replace HT := Aside0.mk hT5
            replace HP : Aside0 (lopE m 3 ⟨k, [a, b]⟩ (toks xs j2) = r) := .mk (by rw [HKI.out]; exact HP.out)
            clear hk5 hT5 hm
            refine hK.out _ _ trivial (fun hHeld => ?_)
            clear hK K
            try simp only [Act.put, List.setIfInBounds_toArray, List.set_cons_zero, List.set_cons_succ]
            refine wpAnyH_ready (rs := [1]) (by kernel_rfl) (by simp) ?_
            refine AllReadyH.cons rfl (fun K hK => ?_) AllReadyH.nil
            have d0 := (blk_cell HB3.out 0).trans rfl
            have d1 := (blk_cell HB3.out 1).trans rfl
            simp at d0 d1
            go_simp
            clear d0 d1
            refine hK.out _ _ trivial (fun hHeld => ?_)
            clear hK K
            try simp only [Act.put, List.setIfInBounds_toArray, List.set_cons_zero, List.set_cons_succ]
            refine wpAnyH_ready (rs := [4]) (by kernel_rfl) (by simp) ?_
            refine AllReadyH.cons rfl (fun K hK => ?_) AllReadyH.nil
            go_simp
            refine hK.out _ _ trivial (fun hHeld => ?_)
            clear hK K
            try simp only [Act.put, List.setIfInBounds_toArray, List.set_cons_zero, List.set_cons_succ]
            have HM2 := Aside0.mk (R_pair (base := w.heap.size) HK.out.1 (⟨by omega, by omega, by omega⟩ : v3.heap.size ≠ g ∧ v3.heap.size ≠ w.heap.size ∧ v3.heap.size ≠ pb) HM.out HMB.out)
            have hD := below1 v3 #[.int .i8 a.f0, .slice Aa a.f1.length ca, .int .i8 b.f0, .slice Ab b.f1.length cb] 43
            replace HB3 := Aside0.mk (blk_below HB3.out hD)
            replace HB := Aside0.mk (blk_below HB.out hD)
            replace HT := Aside0.mk (HT.out.after hD)
            replace HK := Aside0.mk (HK.out.trans (KeepBut.of_below hD g none) (.inl rfl))
            clear hD
            generalize v3.alloc (.cells #[.int .i8 a.f0, .slice Aa a.f1.length ca, .int .i8 b.f0, .slice Ab b.f1.length cb] 43) = v4 at *
            refine takeA 20 5 (v := ?_) ?_ hHeld ?_
            rotate_left
            · intro w hSw
              try dsimp only at hSw
              go_simp <;> with_reducible rfl
            try simp only [Act.put, List.setIfInBounds_toArray, List.set_cons_zero, List.set_cons_succ]
            refine wpAnyH_ready (rs := [6]) (by kernel_rfl) (by simp) ?_
            refine AllReadyH.cons rfl (fun K hK => ?_) AllReadyH.nil
            have d0 := (blk_cell HB3.out 0).trans rfl
            have d1 := (blk_cell HB3.out 1).trans rfl
            have z0 := blk_frozen HB3.out 0
            have z1 := blk_frozen HB3.out 1
            simp at d0 d1
            go_simp
            clear d0 d1 z0 z1
            refine hK.out _ _ trivial (fun hHeld => ?_)
            clear hK K
            try simp only [Act.put, List.setIfInBounds_toArray, List.set_cons_zero, List.set_cons_succ]
            refine wpAnyH_done (by kernel_rfl) ?_ _
            go_wp2_with fail
            go_roundg m
            case rel => exact ⟨j2, ⟨k, [a, b]⟩, _, _, by omega, hj2, (HT.out.far _ _ (by show g ≠ pb; omega) (by show _ ≤ pb; omega)).far _ _ (by show g ≠ pb; omega) (by show _ ≤ pb; omega), keep_far (keep_far HK.out _ _ hlw) _ _ hlw, blk_put_far (blk_put_far HB.out (by show w.heap.size ≠ pb; omega)) (by show w.heap.size ≠ pb; omega), blk_put (cs := #[.int .i8 k, .slice Aa a.f1.length ca]) (blk_put HB3.out 0 _ rfl) 1 _ rfl, Kd.R_far (Kd.R_far HM2.out (p := ⟨pb, 0, none⟩) (fun k hk => hk.2.2) _) (p := ⟨pb, 1, none⟩) (fun k hk => hk.2.2) _, HP.out, by omega, by omega⟩
            case measure => omega
      · replace HP := Aside0.mk ((lopE_no m 3 a _ hno).symm.trans HP.out)
        replace HM := Aside0.mk (Kd.R_keep HM.out hK (fun k hk => hk.1))
        replace HB3 := Aside0.mk (hK.blk HB3.out (by omega) (by simp))
        replace HK := Aside0.mk (HK.out.trans hK (.inl rfl))
        replace HB := Aside0.mk (hK.blk HB.out (by omega) (by simp))
        replace HT := Aside0.mk hT
        clear hT hK
        have c0 := (blk_cell HB.out 0).trans rfl
        have c1 := (blk_cell HB.out 1).trans rfl
        have z0 := blk_frozen HB.out 0
        have z1 := blk_frozen HB.out 1
        simp at c0 c1
        have d0 := (blk_cell HB3.out 0).trans rfl
        have d1 := (blk_cell HB3.out 1).trans rfl
        simp at d0 d1
        replace HM := Aside0.mk (Kd.R_far (Kd.R_far HM.out (p := ⟨w.heap.size, 0, none⟩) (fun k hk => hk.2.1) (.int .i8 a.f0)) (p := ⟨w.heap.size, 1, none⟩) (fun k hk => hk.2.1) (.slice Aa a.f1.length ca))
        go_wp2_with fail
        refine bodyPost_ret (results_cell_row rfl _ _ w.heap.size 43 #[.int .i8 a.f0, .slice Aa a.f1.length ca] (0, 0) _ rfl (by refine blk_put (cs := #[.int .i8 a.f0, .slice none 0 0]) ?_ 1 _ rfl; refine blk_put (cs := #[.int .i8 0, .slice none 0 0]) ?_ 0 _ rfl; exact HB.out) Tryd.underlying43 rfl (by kernel_rfl)) rfl ?_
        rw [← HP.out]
        exact ⟨keep_far (keep_far HK.out _ _ (Nat.le_refl _)) _ _ (Nat.le_refl _), _, j, rfl, Kd.R_mono HM.out (fun k hk => trivial), (HT.out.far _ _ (by show g ≠ w.heap.size; omega) hlow).far _ _ (by show g ≠ w.heap.size; omega) hlow, hij, hj, rfl⟩
set_option maxRecDepth 100000 in
set_option maxHeartbeats 3200000 in
theorem left2_calls {w0 : World} {g : Nat} {A : Option Addr} {c : Nat} {xs : List S37} {i : Nat} {w : World} (h : Tr w0 g A c xs i w) (hn : xs.length ≤ 200000) (hi : i ≤ xs.length) (f : Nat) (k : Int) (s : ByteArray) (HKI : Aside0 (k = kindOf 2)) (HS : Aside0 (((4 : Int), s.toList) = opOf 2)) (r : Except (List Tk) (S43 × List Tk)) (HR : Aside0 (parE (f + 1) 2 (toks xs i) = r)) (hf : 6 * (xs.length - i) + 4 ≤ f + 1)
    (IH : Aside0 (∀ f', f' ≤ f → ∀ j w, j ≤ xs.length → Tr w0 g A c xs j w → 6 * (xs.length - j) + 3 ≤ f' → Calls Tryd.prog 82 #[.pointer (some ⟨g, 0, none⟩)] w (ReadPost w0 g A c xs j w (parE f' 3 (toks xs j))))) :
    Calls Tryd.prog 81 #[.pointer (some ⟨g, 0, none⟩), .int .i8 k, .string s, .func (.func 82) #[.pointer (some ⟨g, 0, none⟩)] #[]] w (ReadPost w0 g A c xs i w r) := by
  have hgl := blk_lt h.blk
  have hlow := h.below.size
  have HT := Aside0.mk (h.after (below1 w #[.int .i8 0, .slice none 0 0] 43))
  have HK := Aside0.mk (KeepBut.of_below (below1 w #[.int .i8 0, .slice none 0 0] 43) g none)
  have HB := Aside0.mk (heap_alloc_new w (.cells #[.int .i8 0, .slice none 0 0] 43))
  clear h
  go_enter Tryd.func81, Tryd.ntmps81
  go_wp2_with fail
  generalize w.alloc (.cells #[.int .i8 0, .slice none 0 0] 43) = wa at *
  refine (IH.out f (Nat.le_refl _) i _ hi HT.out (by omega)).mono ?_
  obtain ⟨x, hx⟩ : ∃ x, x = parE f 3 (toks xs i) := ⟨_, rfl⟩
  rw [← hx]
  have HP : Aside0 (loopE f 2 x = r) := .mk (by rw [hx, ← parE_left f 2 (by simp)]; exact HR.out)
  clear hx
  cases x with
  | error u =>
    rintro e w5 ⟨hk5, q, j2, rfl, hu, hj2, hq⟩
    have HU := Aside0.mk hu
    have HQ := Aside0.mk hq
    have HK5 := Aside0.mk (HK.out.trans hk5 (.inl rfl))
    clear hk5 hu hq
    go_wp2_with fail
    rw [← HP.out]
    exact ⟨rfl, HK5.out, q, j2, rfl, HU.out, hj2, HQ.out⟩
  | ok x =>
    obtain ⟨a, u⟩ := x
    rintro e w5 ⟨hk5, v, j, rfl, hm, hT5, hij, hj, hu⟩
    replace hu : u = toks xs j := hu
    subst hu
    obtain ⟨Aa, ca, rfl⟩ := Kd.R_slice hm
    have HM := Aside0.mk (R_apart3 (p := w.heap.size) (q := w5.heap.size) hm HK.out.1 (blk_lt HT.out.blk) (blk_lt HB.out) (.inr (Nat.le_refl _)))
    replace HK := Aside0.mk (HK.out.trans hk5 (.inl rfl))
    replace HB := Aside0.mk (hk5.blk HB.out (by omega) (by simp))
    replace HT := Aside0.mk hT5
    replace HP : Aside0 (lopE f 2 a (toks xs j) = r) := .mk HP.out
    clear hk5 hT5 hm
    go_wp2_with fail
    have hlw : w.heap.size ≤ w5.heap.size := HK.out.1
    have hB5 := below1 w5 #[.int .i8 a.f0, .slice Aa a.f1.length ca] 43
    replace HK := Aside0.mk (HK.out.trans (KeepBut.of_below hB5 g none) (.inl rfl))
    replace HT := Aside0.mk (HT.out.after hB5)
    have hbl := blk_lt HB.out
    replace HB := Aside0.mk (blk_below HB.out hB5)
    replace HM := Aside0.mk (Kd.R_below HM.out hB5)
    have HB3 := Aside0.mk (heap_alloc_new w5 (.cells #[.int .i8 a.f0, .slice Aa a.f1.length ca] 43))
    clear hB5
    generalize w5.alloc (.cells #[.int .i8 a.f0, .slice Aa a.f1.length ca] 43) = wb at *
    generalize w5.heap.size = pb at *
    go_loopg [] f (fun k wr => ∃ j a Aa ca, i ≤ j ∧ j ≤ xs.length ∧ Tr w0 g A c xs j wr ∧ KeepBut w wr g none ∧ wr.heap[w.heap.size]? = some (.cells #[.int .i8 0, .slice none 0 0] 43 (0, 0)) ∧ wr.heap[pb]? = some (.cells #[.int .i8 a.f0, .slice Aa a.f1.length ca] 43 (0, 0)) ∧ k43.R 43 wr w.heap.size (fun b => b ≠ g ∧ b ≠ w.heap.size ∧ b ≠ pb) (.slice Aa a.f1.length ca) a.f1 ∧ lopE k 2 a (toks xs j) = r ∧ 6 * (xs.length - j) + 1 ≤ k ∧ k ≤ f)
    case atStart => exact ⟨j, a, Aa, ca, hij, hj, HT.out, HK.out, HB.out, HB3.out, HM.out, HP.out, by omega, Nat.le_refl _⟩
    case round =>
      obtain ⟨j, a, Aa, ca, hij, hj, hT, hK, hB, hB3, hM, hP, hk1, hkf⟩ := hrel
      obtain ⟨m, rfl⟩ : ∃ m, gk = m + 1 := ⟨gk - 1, by omega⟩
      replace HT := Aside0.mk hT
      replace HK := Aside0.mk hK
      replace HB := Aside0.mk hB
      replace HB3 := Aside0.mk hB3
      replace HM := Aside0.mk hM
      replace HP := Aside0.mk hP
      have hpl := blk_lt hB3
      clear hT hK hB hB3 hM hP
      go_wp2_with fail
      refine (take_calls HT.out hn hj 4 s).mono ?_
      rintro e v1 h
      rw [TakePost, nextIs_iff, HS.out] at h
      rcases h with ⟨hyes, rfl, hT, hK⟩ | ⟨hno, rfl, hT, hK⟩
      · have hjt : j < xs.length := nextIs_lt ((nextIs_iff _ _ _ _).2 (by rw [HS.out]; exact hyes))
        replace HP := Aside0.mk ((lopE_yes m 2 a _ hyes).symm.trans HP.out)
        rw [toks_tail] at HP
        replace HM := Aside0.mk (Kd.R_keep HM.out hK (fun k hk => hk.1))
        replace HB3 := Aside0.mk (hK.blk HB3.out (by omega) (by simp))
        replace HK := Aside0.mk (HK.out.trans hK (.inl rfl))
        replace HB := Aside0.mk (hK.blk HB.out (by omega) (by simp))
        replace HT := Aside0.mk hT
        clear hT hK
        go_wp2_with fail
        refine wp_region_held_drew (S := fun _ => True) (by kernel_rfl) trivial (fun hHeld => ?_)
        have hD := (Below.refl v1.heap.size v1).drew
        replace HM := Aside0.mk (Kd.R_below HM.out hD)
        replace HB3 := Aside0.mk (blk_below HB3.out hD)
        replace HB := Aside0.mk (blk_below HB.out hD)
        replace HT := Aside0.mk (HT.out.after hD)
        replace HK := Aside0.mk (HK.out.trans (KeepBut.of_below hD g none) (.inl rfl))
        clear hD
        generalize v1.drew = v2 at *
        refine takeA 15 0 (v := ?_) ?_ hHeld ?_
        rotate_left
        · intro w hSw
          try dsimp only at hSw
          go_simp <;> with_reducible rfl
        try simp only [Act.put, List.setIfInBounds_toArray, List.set_cons_zero, List.set_cons_succ]
        refine takeA 17 2 (v := ?_) ?_ hHeld ?_
        rotate_left
        · intro w hSw
          try dsimp only at hSw
          go_simp <;> with_reducible rfl
        try simp only [Act.put, List.setIfInBounds_toArray, List.set_cons_zero, List.set_cons_succ]
        refine wpAnyH_ready (rs := [1, 3]) (by kernel_rfl) (by simp) ?_
        refine AllReadyH.cons rfl (fun K hK => ?_) (AllReadyH.cons rfl (fun K hK => ?_) AllReadyH.nil)
        · have d0 := (blk_cell HB3.out 0).trans rfl
          have d1 := (blk_cell HB3.out 1).trans rfl
          simp at d0 d1
          go_simp
          clear d0 d1
          refine hK.out _ _ trivial (fun hHeld => ?_)
          clear hK K
          try simp only [Act.put, List.setIfInBounds_toArray, List.set_cons_zero, List.set_cons_succ]
          refine wpAnyH_ready (rs := [3]) (by kernel_rfl) (by simp) ?_
          refine AllReadyH.cons rfl (fun K hK => ?_) AllReadyH.nil
          go_simp
          refine (IH.out m (by omega) (j + 1) _ hjt HT.out (by omega)).mono ?_
          replace HP : Aside0 (nextE m 2 a (parE m 3 (toks xs (j + 1))) = r) := .mk HP.out
          obtain ⟨x, hx⟩ : ∃ x, x = parE m 3 (toks xs (j + 1)) := ⟨_, rfl⟩
          rw [← hx]
          rw [← hx] at HP
          clear hx
          cases x with
          | error u =>
            rintro e w5 ⟨hk5, q, j2, rfl, hu, hj2, hq⟩
            have HU := Aside0.mk hu
            have HQ := Aside0.mk hq
            have HK5 := Aside0.mk (HK.out.trans hk5 (.inl rfl))
            clear hk5 hu hq
            rw [← HP.out]
            go_wp2_with fail
            exact ⟨rfl, HK5.out, q, j2, rfl, HU.out, hj2, HQ.out⟩
          | ok x =>
            obtain ⟨b, u⟩ := x
            rintro e v3 ⟨hk5, vb, j2, rfl, hm, hT5, hij2, hj2, hu⟩
            replace hu : u = toks xs j2 := hu
            subst hu
            obtain ⟨Ab, cb, rfl⟩ := Kd.R_slice hm
            have hpl2 := blk_lt HB3.out
            have hgl2 := blk_lt HT.out.blk
            have hvl : v2.heap.size ≤ v3.heap.size := hk5.1
            have HMB := Aside0.mk (R_apart3 (p := w.heap.size) (q := pb) hm HK.out.1 hgl2 (blk_lt HB.out) (.inl hpl2))
            replace HM := Aside0.mk (Kd.R_keep HM.out hk5 (fun k hk => hk.1))
            replace HB3 := Aside0.mk (hk5.blk HB3.out (by omega) (by simp))
            replace HK := Aside0.mk (HK.out.trans hk5 (.inl rfl))
            replace HB := Aside0.mk (hk5.blk HB.out (by omega) (by simp))
            replace HT := Aside0.mk hT5
            replace HP : Aside0 (lopE m 2 ⟨k, [a, b]⟩ (toks xs j2) = r) := .mk (by rw [HKI.out]; exact HP.out)
            clear hk5 hT5 hm
            refine hK.out _ _ trivial (fun hHeld => ?_)
            clear hK K
            try simp only [Act.put, List.setIfInBounds_toArray, List.set_cons_zero, List.set_cons_succ]
            refine wpAnyH_ready (rs := [4]) (by kernel_rfl) (by simp) ?_
            refine AllReadyH.cons rfl (fun K hK => ?_) AllReadyH.nil
            go_simp
            refine hK.out _ _ trivial (fun hHeld => ?_)
            clear hK K
            try simp only [Act.put, List.setIfInBounds_toArray, List.set_cons_zero, List.set_cons_succ]
            have HM2 := Aside0.mk (R_pair (base := w.heap.size) HK.out.1 (⟨by omega, by omega, by omega⟩ : v3.heap.size ≠ g ∧ v3.heap.size ≠ w.heap.size ∧ v3.heap.size ≠ pb) HM.out HMB.out)
            have hD := below1 v3 #[.int .i8 a.f0, .slice Aa a.f1.length ca, .int .i8 b.f0, .slice Ab b.f1.length cb] 43
            replace HB3 := Aside0.mk (blk_below HB3.out hD)
            replace HB := Aside0.mk (blk_below HB.out hD)
            replace HT := Aside0.mk (HT.out.after hD)
            replace HK := Aside0.mk (HK.out.trans (KeepBut.of_below hD g none) (.inl rfl))
            clear hD
            generalize v3.alloc (.cells #[.int .i8 a.f0, .slice Aa a.f1.length ca, .int .i8 b.f0, .slice Ab b.f1.length cb] 43) = v4 at *
            refine takeA 20 5 (v := ?_) ?_ hHeld ?_
            rotate_left
            · intro w hSw
              try dsimp only at hSw
              go_simp <;> with_reducible rfl
            try simp only [Act.put, List.setIfInBounds_toArray, List.set_cons_zero, List.set_cons_succ]
            refine wpAnyH_ready (rs := [6]) (by kernel_rfl) (by simp) ?_
            refine AllReadyH.cons rfl (fun K hK => ?_) AllReadyH.nil
            have d0 := (blk_cell HB3.out 0).trans rfl
            have d1 := (blk_cell HB3.out 1).trans rfl
            have z0 := blk_frozen HB3.out 0
            have z1 := blk_frozen HB3.out 1
            simp at d0 d1
            go_simp
            clear d0 d1 z0 z1
            refine hK.out _ _ trivial (fun hHeld => ?_)
            clear hK K
            try simp only [Act.put, List.setIfInBounds_toArray, List.set_cons_zero, List.set_cons_succ]
            refine wpAnyH_done (by kernel_rfl) ?_ _
            go_wp2_with fail
            go_roundg m
            case rel => exact ⟨j2, ⟨k, [a, b]⟩, _, _, by omega, hj2, (HT.out.far _ _ (by show g ≠ pb; omega) (by show _ ≤ pb; omega)).far _ _ (by show g ≠ pb; omega) (by show _ ≤ pb; omega), keep_far (keep_far HK.out _ _ hlw) _ _ hlw, blk_put_far (blk_put_far HB.out (by show w.heap.size ≠ pb; omega)) (by show w.heap.size ≠ pb; omega), blk_put (cs := #[.int .i8 k, .slice Aa a.f1.length ca]) (blk_put HB3.out 0 _ rfl) 1 _ rfl, Kd.R_far (Kd.R_far HM2.out (p := ⟨pb, 0, none⟩) (fun k hk => hk.2.2) _) (p := ⟨pb, 1, none⟩) (fun k hk => hk.2.2) _, HP.out, by omega, by omega⟩
            case measure => omega
        · go_simp
          refine (IH.out m (by omega) (j + 1) _ hjt HT.out (by omega)).mono ?_
          replace HP : Aside0 (nextE m 2 a (parE m 3 (toks xs (j + 1))) = r) := .mk HP.out
          obtain ⟨x, hx⟩ : ∃ x, x = parE m 3 (toks xs (j + 1)) := ⟨_, rfl⟩
          rw [← hx]
          rw [← hx] at HP
          clear hx
          cases x with
          | error u =>
            rintro e w5 ⟨hk5, q, j2, rfl, hu, hj2, hq⟩
            have HU := Aside0.mk hu
            have HQ := Aside0.mk hq
            have HK5 := Aside0.mk (HK.out.trans hk5 (.inl rfl))
            clear hk5 hu hq
            rw [← HP.out]
            go_wp2_with fail
            exact ⟨rfl, HK5.out, q, j2, rfl, HU.out, hj2, HQ.out⟩
          | ok x =>
            obtain ⟨b, u⟩ := x
            rintro e v3 ⟨hk5, vb, j2, rfl, hm, hT5, hij2, hj2, hu⟩
            replace hu : u = toks xs j2 := hu
            subst hu
            obtain ⟨Ab, cb, rfl⟩ := Kd.R_slice hm
            have hpl2 := blk_lt HB3.out
            have hgl2 := blk_lt HT.out.blk
            have hvl : v2.heap.size ≤ v3.heap.size := hk5.1
            have HMB := Aside0.mk (R_apart3 (p := w.heap.size) (q := pb) hm HK.out.1 hgl2 (blk_lt HB.out) (.inl hpl2))
            replace HM := Aside0.mk (Kd.R_keep HM.out hk5 (fun k hk => hk.1))
            replace HB3 := Aside0.mk (hk5.blk HB3.out (by omega) (by simp))
            replace HK := Aside0.mk (HK.out.trans hk5 (.inl rfl))
            replace HB := Aside0.mk (hk5.blk HB.out (by omega) (by simp))
            replace HT := Aside0.mk hT5
            replace HP : Aside0 (lopE m 2 ⟨k, [a, b]⟩ (toks xs j2) = r) := .mk (by rw [HKI.out]; exact HP.out)
            clear hk5 hT5 hm
            refine hK.out _ _ trivial (fun hHeld => ?_)
            clear hK K
            try simp only [Act.put, List.setIfInBounds_toArray, List.set_cons_zero, List.set_cons_succ]
            refine wpAnyH_ready (rs := [1]) (by kernel_rfl) (by simp) ?_
            refine AllReadyH.cons rfl (fun K hK => ?_) AllReadyH.nil
            have d0 := (blk_cell HB3.out 0).trans rfl
            have d1 := (blk_cell HB3.out 1).trans rfl
            simp at d0 d1
            go_simp
            clear d0 d1
            refine hK.out _ _ trivial (fun hHeld => ?_)
            clear hK K
            try simp only [Act.put, List.setIfInBounds_toArray, List.set_cons_zero, List.set_cons_succ]
            refine wpAnyH_ready (rs := [4]) (by kernel_rfl) (by simp) ?_
            refine AllReadyH.cons rfl (fun K hK => ?_) AllReadyH.nil
            go_simp
            refine hK.out _ _ trivial (fun hHeld => ?_)
            clear hK K
            try simp only [Act.put, List.setIfInBounds_toArray, List.set_cons_zero, List.set_cons_succ]
            have HM2 := Aside0.mk (R_pair (base := w.heap.size) HK.out.1 (⟨by omega, by omega, by omega⟩ : v3.heap.size ≠ g ∧ v3.heap.size ≠ w.heap.size ∧ v3.heap.size ≠ pb) HM.out HMB.out)
            have hD := below1 v3 #[.int .i8 a.f0, .slice Aa a.f1.length ca, .int .i8 b.f0, .slice Ab b.f1.length cb] 43
            replace HB3 := Aside0.mk (blk_below HB3.out hD)
            replace HB := Aside0.mk (blk_below HB.out hD)
            replace HT := Aside0.mk (HT.out.after hD)
            replace HK := Aside0.mk (HK.out.trans (KeepBut.of_below hD g none) (.inl rfl))
            clear hD
            generalize v3.alloc (.cells #[.int .i8 a.f0, .slice Aa a.f1.length ca, .int .i8 b.f0, .slice Ab b.f1.length cb] 43) = v4 at *
            refine takeA 20 5 (v := ?_) ?_ hHeld ?_
            rotate_left
            · intro w hSw
              try dsimp only at hSw
              go_simp <;> with_reducible rfl
            try simp only [Act.put, List.setIfInBounds_toArray, List.set_cons_zero, List.set_cons_succ]
            refine wpAnyH_ready (rs := [6]) (by kernel_rfl) (by simp) ?_
            refine AllReadyH.cons rfl (fun K hK => ?_) AllReadyH.nil
            have d0 := (blk_cell HB3.out 0).trans rfl
            have d1 := (blk_cell HB3.out 1).trans rfl
            have z0 := blk_frozen HB3.out 0
            have z1 := blk_frozen HB3.out 1
            simp at d0 d1
            go_simp
            clear d0 d1 z0 z1
            refine hK.out _ _ trivial (fun hHeld => ?_)
            clear hK K
            try simp only [Act.put, List.setIfInBounds_toArray, List.set_cons_zero, List.set_cons_succ]
            refine wpAnyH_done (by kernel_rfl) ?_ _
            go_wp2_with fail
            go_roundg m
            case rel => exact ⟨j2, ⟨k, [a, b]⟩, _, _, by omega, hj2, (HT.out.far _ _ (by show g ≠ pb; omega) (by show _ ≤ pb; omega)).far _ _ (by show g ≠ pb; omega) (by show _ ≤ pb; omega), keep_far (keep_far HK.out _ _ hlw) _ _ hlw, blk_put_far (blk_put_far HB.out (by show w.heap.size ≠ pb; omega)) (by show w.heap.size ≠ pb; omega), blk_put (cs := #[.int .i8 k, .slice Aa a.f1.length ca]) (blk_put HB3.out 0 _ rfl) 1 _ rfl, Kd.R_far (Kd.R_far HM2.out (p := ⟨pb, 0, none⟩) (fun k hk => hk.2.2) _) (p := ⟨pb, 1, none⟩) (fun k hk => hk.2.2) _, HP.out, by omega, by omega⟩
            case measure => omega
      · replace HP := Aside0.mk ((lopE_no m 2 a _ hno).symm.trans HP.out)
        replace HM := Aside0.mk (Kd.R_keep HM.out hK (fun k hk => hk.1))
        replace HB3 := Aside0.mk (hK.blk HB3.out (by omega) (by simp))
        replace HK := Aside0.mk (HK.out.trans hK (.inl rfl))
        replace HB := Aside0.mk (hK.blk HB.out (by omega) (by simp))
        replace HT := Aside0.mk hT
        clear hT hK
        have c0 := (blk_cell HB.out 0).trans rfl
        have c1 := (blk_cell HB.out 1).trans rfl
        have z0 := blk_frozen HB.out 0
        have z1 := blk_frozen HB.out 1
        simp at c0 c1
        have d0 := (blk_cell HB3.out 0).trans rfl
        have d1 := (blk_cell HB3.out 1).trans rfl
        simp at d0 d1
        replace HM := Aside0.mk (Kd.R_far (Kd.R_far HM.out (p := ⟨w.heap.size, 0, none⟩) (fun k hk => hk.2.1) (.int .i8 a.f0)) (p := ⟨w.heap.size, 1, none⟩) (fun k hk => hk.2.1) (.slice Aa a.f1.length ca))
        go_wp2_with fail
        refine bodyPost_ret (results_cell_row rfl _ _ w.heap.size 43 #[.int .i8 a.f0, .slice Aa a.f1.length ca] (0, 0) _ rfl (by refine blk_put (cs := #[.int .i8 a.f0, .slice none 0 0]) ?_ 1 _ rfl; refine blk_put (cs := #[.int .i8 0, .slice none 0 0]) ?_ 0 _ rfl; exact HB.out) Tryd.underlying43 rfl (by kernel_rfl)) rfl ?_
        rw [← HP.out]
        exact ⟨keep_far (keep_far HK.out _ _ (Nat.le_refl _)) _ _ (Nat.le_refl _), _, j, rfl, Kd.R_mono HM.out (fun k hk => trivial), (HT.out.far _ _ (by show g ≠ w.heap.size; omega) hlow).far _ _ (by show g ≠ w.heap.size; omega) hlow, hij, hj, rfl⟩
end Go.Proofs.YtjmpejbciniceaaDoor.X
namespace Go.Proofs.YtjmpejbciniceaaDoor.X
open Go.RowKit Go.Proofs.YtjmpejbciniceaaDoorW.PrintWords Go.Proofs.YtjmpejbciniceaaDoorW.PrintLast Go.Proofs.YtjmpejbciniceaaDoorW.PrintMore
set_option linter.unusedVariables false
set_option linter.unusedSimpArgs false
def C4 (w0 : World) (g : Nat) (A : Option Addr) (c : Nat) (xs : List S37) (f : Nat) : Prop := ∀ j w, j ≤ xs.length → Tr w0 g A c xs j w → 6 * (xs.length - j) + 2 ≤ f → Calls Tryd.prog 115 #[.pointer (some ⟨g, 0, none⟩)] w (ReadPost w0 g A c xs j w (parE f 4 (toks xs j)))
def C3 (w0 : World) (g : Nat) (A : Option Addr) (c : Nat) (xs : List S37) (f : Nat) : Prop := ∀ j w, j ≤ xs.length → Tr w0 g A c xs j w → 6 * (xs.length - j) + 3 ≤ f → Calls Tryd.prog 82 #[.pointer (some ⟨g, 0, none⟩)] w (ReadPost w0 g A c xs j w (parE f 3 (toks xs j)))
def C0 (w0 : World) (g : Nat) (A : Option Addr) (c : Nat) (xs : List S37) (f : Nat) : Prop := ∀ j w, j ≤ xs.length → Tr w0 g A c xs j w → 6 * (xs.length - j) + 5 ≤ f → Calls Tryd.prog 39 #[.pointer (some ⟨g, 0, none⟩)] w (ReadPost w0 g A c xs j w (parE f 0 (toks xs j)))
set_option maxRecDepth 100000 in
set_option maxHeartbeats 3200000 in
theorem prod_calls {w0 : World} {g : Nat} {A : Option Addr} {c : Nat} {xs : List S37} {i : Nat} {w : World} (h : Tr w0 g A c xs i w) (hn : xs.length ≤ 200000) (hi : i ≤ xs.length) (r : Except (List Tk) (S43 × List Tk)) (f : Nat) (HR : Aside0 (parE (f + 1) 3 (toks xs i) = r)) (hf : 6 * (xs.length - i) + 3 ≤ f + 1) (IH : Aside0 (∀ f', f' ≤ f → C4 w0 g A c xs f')) :
    Calls Tryd.prog 82 #[.pointer (some ⟨g, 0, none⟩)] w (ReadPost w0 g A c xs i w r) := by
  have hgl := blk_lt h.blk
  have hlow := h.below.size
  have HT := Aside0.mk (h.after (below1 w #[.int .i8 0, .slice none 0 0] 43))
  have HK := Aside0.mk (KeepBut.of_below (below1 w #[.int .i8 0, .slice none 0 0] 43) g none)
  have HB := Aside0.mk (heap_alloc_new w (.cells #[.int .i8 0, .slice none 0 0] 43))
  clear h
  go_enter Tryd.func82, Tryd.ntmps82
  go_wp2_with fail
  generalize w.alloc (.cells #[.int .i8 0, .slice none 0 0] 43) = wa at *
  refine (left3_calls HT.out hn hi f 4 ⟨#[42]⟩ (.mk rfl) (.mk (by rw [bytes_toList]; rfl)) r HR hf (.mk (fun f' hf' => IH.out f' hf'))).mono ?_
  clear HR IH
  cases r with
  | error u =>
    rintro e w5 ⟨hk5, q, j2, rfl, hu, hj2, hq⟩
    have HU := Aside0.mk hu
    have HQ := Aside0.mk hq
    have HK5 := Aside0.mk (HK.out.trans hk5 (.inl rfl))
    clear hk5 hu hq
    go_wp2_with fail
    exact ⟨rfl, HK5.out, q, j2, rfl, HU.out, hj2, HQ.out⟩
  | ok x =>
    obtain ⟨a, u⟩ := x
    rintro e w5 ⟨hk5, v, j, rfl, hm, hT5, hij, hj, hu⟩
    obtain ⟨Aa, ca, rfl⟩ := Kd.R_slice hm
    have HM := Aside0.mk (R_apart (p := w.heap.size) hm HK.out.1 (blk_lt HT.out.blk) (blk_lt HB.out))
    have HU := Aside0.mk hu
    replace HK := Aside0.mk (HK.out.trans hk5 (.inl rfl))
    replace HB := Aside0.mk (hk5.blk HB.out (by omega) (by simp))
    replace HT := Aside0.mk hT5
    clear hk5 hT5 hm hu
    have c0 := (blk_cell HB.out 0).trans rfl
    have c1 := (blk_cell HB.out 1).trans rfl
    have z0 := blk_frozen HB.out 0
    have z1 := blk_frozen HB.out 1
    simp at c0 c1
    replace HM := Aside0.mk (Kd.R_far (Kd.R_far HM.out (p := ⟨w.heap.size, 0, none⟩) (fun k hk => hk.2) (.int .i8 a.f0)) (p := ⟨w.heap.size, 1, none⟩) (fun k hk => hk.2) (.slice Aa a.f1.length ca))
    go_wp2_with fail
    refine bodyPost_ret (results_cell_row rfl _ _ w.heap.size 43 #[.int .i8 a.f0, .slice Aa a.f1.length ca] (0, 0) _ rfl (by refine blk_put (cs := #[.int .i8 a.f0, .slice none 0 0]) ?_ 1 _ rfl; refine blk_put (cs := #[.int .i8 0, .slice none 0 0]) ?_ 0 _ rfl; exact HB.out) Tryd.underlying43 rfl (by kernel_rfl)) rfl ?_
    exact ⟨keep_far (keep_far HK.out _ _ (Nat.le_refl _)) _ _ (Nat.le_refl _), _, j, rfl, Kd.R_mono HM.out (fun k hk => trivial), (HT.out.far _ _ (by show g ≠ w.heap.size; omega) hlow).far _ _ (by show g ≠ w.heap.size; omega) hlow, hij, hj, HU.out⟩
def arrowE (f : Nat) : Except (List Tk) (S43 × List Tk) → Except (List Tk) (S43 × List Tk)
  | .ok x => if headIs tkA x.2 then (match parE f 0 x.2.tail with | .ok y => .ok (⟨3, [x.1, y.1]⟩, y.2) | .error u => .error u) else .ok x
  | .error u => .error u
def funE (a : S43) : Except (List Tk) (S43 × List Tk) → Except (List Tk) (S43 × List Tk)
  | .ok y => .ok (⟨3, [a, y.1]⟩, y.2)
  | .error u => .error u
theorem arrow_yes (f : Nat) (a : S43) (u : List Tk) (h : headIs tkA u = true) : arrowE f (.ok (a, u)) = funE a (parE f 0 u.tail) := by
  show (if headIs tkA u then _ else _) = _
  rw [if_pos h]
  cases parE f 0 u.tail <;> rfl
theorem arrow_no (f : Nat) (a : S43) (u : List Tk) (h : ¬ headIs tkA u = true) : arrowE f (.ok (a, u)) = .ok (a, u) := by
  show (if headIs tkA u then _ else _) = _
  rw [if_neg h]
set_option maxRecDepth 100000 in
set_option maxHeartbeats 3200000 in
theorem whole_calls {w0 : World} {g : Nat} {A : Option Addr} {c : Nat} {xs : List S37} {i : Nat} {w : World} (h : Tr w0 g A c xs i w) (hn : xs.length ≤ 200000) (hi : i ≤ xs.length) (r : Except (List Tk) (S43 × List Tk)) (f : Nat) (HR : Aside0 (parE (f + 1 + 1) 0 (toks xs i) = r)) (hf : 6 * (xs.length - i) + 5 ≤ f + 1 + 1) (IH : Aside0 (∀ f', f' ≤ f → C3 w0 g A c xs f')) (IH0 : Aside0 (C0 w0 g A c xs (f + 1))) :
    Calls Tryd.prog 39 #[.pointer (some ⟨g, 0, none⟩)] w (ReadPost w0 g A c xs i w r) := by
  have hgl := blk_lt h.blk
  have hlow := h.below.size
  have HT := Aside0.mk (h.after (below1 w #[.int .i8 0, .slice none 0 0] 43))
  have HK := Aside0.mk (KeepBut.of_below (below1 w #[.int .i8 0, .slice none 0 0] 43) g none)
  have HB := Aside0.mk (heap_alloc_new w (.cells #[.int .i8 0, .slice none 0 0] 43))
  clear h
  go_enter Tryd.func39, Tryd.ntmps39
  go_wp2_with fail
  generalize w.alloc (.cells #[.int .i8 0, .slice none 0 0] 43) = wa at *
  obtain ⟨x, hx⟩ : ∃ x, parE (f + 1) 2 (toks xs i) = x := ⟨_, rfl⟩
  have HP : Aside0 (arrowE (f + 1) x = r) := .mk (by rw [← HR.out, parE_zero, hx]; rfl)
  refine (left2_calls HT.out hn hi f 5 ⟨#[43]⟩ (.mk rfl) (.mk (by rw [bytes_toList]; rfl)) x (.mk hx) (by omega) (.mk (fun f' hf' => IH.out f' hf'))).mono ?_
  clear hx HR IH
  cases x with
  | error u =>
    rintro e w5 ⟨hk5, q, j2, rfl, hu, hj2, hq⟩
    have HU := Aside0.mk hu
    have HQ := Aside0.mk hq
    have HK5 := Aside0.mk (HK.out.trans hk5 (.inl rfl))
    clear hk5 hu hq
    rw [← HP.out]
    go_wp2_with fail
    exact ⟨rfl, HK5.out, q, j2, rfl, HU.out, hj2, HQ.out⟩
  | ok x =>
    obtain ⟨a, u⟩ := x
    rintro e w5 ⟨hk5, v, j, rfl, hm, hT5, hij, hj, hu⟩
    replace hu : u = toks xs j := hu
    subst hu
    obtain ⟨Aa, ca, rfl⟩ := Kd.R_slice hm
    have HM := Aside0.mk (R_apart3 (p := w.heap.size) (q := w5.heap.size) hm HK.out.1 (blk_lt HT.out.blk) (blk_lt HB.out) (.inr (Nat.le_refl _)))
    replace HK := Aside0.mk (HK.out.trans hk5 (.inl rfl))
    replace HB := Aside0.mk (hk5.blk HB.out (by omega) (by simp))
    replace HT := Aside0.mk hT5
    clear hk5 hT5 hm
    go_wp2_with fail
    have hlw : w.heap.size ≤ w5.heap.size := HK.out.1
    have hD := below1 w5 #[.int .i8 a.f0, .slice Aa a.f1.length ca] 43
    have hbl := blk_lt HB.out
    have HB3 := Aside0.mk (heap_alloc_new w5 (.cells #[.int .i8 a.f0, .slice Aa a.f1.length ca] 43))
    replace HM := Aside0.mk (Kd.R_below HM.out hD)
    replace HB := Aside0.mk (blk_below HB.out hD)
    replace HT := Aside0.mk (HT.out.after hD)
    replace HK := Aside0.mk (HK.out.trans (KeepBut.of_below hD g none) (.inl rfl))
    clear hD
    generalize w5.alloc (.cells #[.int .i8 a.f0, .slice Aa a.f1.length ca] 43) = wb at *
    generalize w5.heap.size = pb at *
    have hpl := blk_lt HB3.out
    refine (take_calls HT.out hn hj 4 ⟨#[45, 62]⟩).mono ?_
    rintro e v1 h
    have e1 : (⟨#[45, 62]⟩ : ByteArray).toList = [45, 62] := bytes_toList _
    rw [TakePost, e1, nextIs_iff] at h
    rw [show ((4 : Int), ([45, 62] : List UInt8)) = tkA from rfl] at h
    clear e1
    rcases h with ⟨hyes, rfl, hT, hK⟩ | ⟨hno, rfl, hT, hK⟩
    · have hjt : j < xs.length := nextIs_lt ((nextIs_iff _ _ _ _).2 (show headIs tkA (toks xs j) = true from hyes))
      replace HP := Aside0.mk ((arrow_yes (f + 1) a _ hyes).symm.trans HP.out)
      rw [toks_tail] at HP
      replace HM := Aside0.mk (Kd.R_keep HM.out hK (fun k hk => hk.1))
      replace HB3 := Aside0.mk (hK.blk HB3.out (by omega) (by simp))
      replace HK := Aside0.mk (HK.out.trans hK (.inl rfl))
      replace HB := Aside0.mk (hK.blk HB.out (by omega) (by simp))
      replace HT := Aside0.mk hT
      clear hT hK
      go_wp2_with fail
      have d0 := (blk_cell HB3.out 0).trans rfl
      have d1 := (blk_cell HB3.out 1).trans rfl
      simp at d0 d1
      refine wp_region_held_drew (S := fun w' => w'.cell? ⟨pb, 0, none⟩ = some (.int .i8 a.f0) ∧ w'.cell? ⟨pb, 1, none⟩ = some (.slice Aa a.f1.length ca)) (by kernel_rfl) ⟨d0, d1⟩ (fun hHeld => ?_)
      clear d0 d1
      have hD := (Below.refl v1.heap.size v1).drew
      replace HM := Aside0.mk (Kd.R_below HM.out hD)
      replace HB3 := Aside0.mk (blk_below HB3.out hD)
      replace HB := Aside0.mk (blk_below HB.out hD)
      replace HT := Aside0.mk (HT.out.after hD)
      replace HK := Aside0.mk (HK.out.trans (KeepBut.of_below hD g none) (.inl rfl))
      clear hD
      generalize v1.drew = v2 at *
      refine takeA 10 0 (v := ?_) ?_ hHeld ?_
      rotate_left
      · intro w hSw
        try dsimp only at hSw
        go_simp <;> with_reducible rfl
      try simp only [Act.put, List.setIfInBounds_toArray, List.set_cons_zero, List.set_cons_succ]
      refine takeA 11 1 (v := ?_) ?_ hHeld ?_
      rotate_left
      · intro w hSw
        try dsimp only at hSw
        go_simp <;> with_reducible rfl
      try simp only [Act.put, List.setIfInBounds_toArray, List.set_cons_zero, List.set_cons_succ]
      refine wpAnyH_ready (rs := [2]) (by kernel_rfl) (by simp) ?_
      refine AllReadyH.cons rfl (fun K hK => ?_) AllReadyH.nil
      go_simp
      refine (IH0.out (j + 1) _ hjt HT.out (by omega)).mono ?_
      obtain ⟨x, hx⟩ : ∃ x, x = parE (f + 1) 0 (toks xs (j + 1)) := ⟨_, rfl⟩
      rw [← hx]
      rw [← hx] at HP
      clear hx
      cases x with
      | error u =>
        rintro e w5 ⟨hk5, q, j2, rfl, hu, hj2, hq⟩
        have HU := Aside0.mk hu
        have HQ := Aside0.mk hq
        have HK5 := Aside0.mk (HK.out.trans hk5 (.inl rfl))
        clear hk5 hu hq
        rw [← HP.out]
        go_wp2_with fail
        exact ⟨rfl, HK5.out, q, j2, rfl, HU.out, hj2, HQ.out⟩
      | ok x =>
        obtain ⟨b, u⟩ := x
        rintro e v3 ⟨hk5, vb, j2, rfl, hm, hT5, hij2, hj2, hu⟩
        replace hu : u = toks xs j2 := hu
        subst hu
        obtain ⟨Ab, cb, rfl⟩ := Kd.R_slice hm
        have hpl2 := blk_lt HB3.out
        have hgl2 := blk_lt HT.out.blk
        have hvl : v2.heap.size ≤ v3.heap.size := hk5.1
        have HMB := Aside0.mk (R_apart3 (p := w.heap.size) (q := pb) hm HK.out.1 hgl2 (blk_lt HB.out) (.inl hpl2))
        replace HM := Aside0.mk (Kd.R_keep HM.out hk5 (fun k hk => hk.1))
        replace HB3 := Aside0.mk (hk5.blk HB3.out (by omega) (by simp))
        replace HK := Aside0.mk (HK.out.trans hk5 (.inl rfl))
        replace HB := Aside0.mk (hk5.blk HB.out (by omega) (by simp))
        replace HT := Aside0.mk hT5
        replace HP : Aside0 (.ok (⟨3, [a, b]⟩, toks xs j2) = r) := .mk HP.out
        clear hk5 hT5 hm
        have d0 := (blk_cell HB3.out 0).trans rfl
        have d1 := (blk_cell HB3.out 1).trans rfl
        simp at d0 d1
        refine hK.out _ _ ⟨d0, d1⟩ (fun hHeld => ?_)
        clear hK K d0 d1
        try simp only [Act.put, List.setIfInBounds_toArray, List.set_cons_zero, List.set_cons_succ]
        refine wpAnyH_ready (rs := [3]) (by kernel_rfl) (by simp) ?_
        refine AllReadyH.cons rfl (fun K hK => ?_) AllReadyH.nil
        go_simp
        have HM2 := Aside0.mk (R_pair (base := w.heap.size) HK.out.1 (⟨by omega, by omega, by omega⟩ : v3.heap.size ≠ g ∧ v3.heap.size ≠ w.heap.size ∧ v3.heap.size ≠ pb) HM.out HMB.out)
        have hD := below1 v3 #[.int .i8 a.f0, .slice Aa a.f1.length ca, .int .i8 b.f0, .slice Ab b.f1.length cb] 43
        replace HB3 := Aside0.mk (blk_below HB3.out hD)
        replace HB := Aside0.mk (blk_below HB.out hD)
        replace HT := Aside0.mk (HT.out.after hD)
        replace HK := Aside0.mk (HK.out.trans (KeepBut.of_below hD g none) (.inl rfl))
        clear hD
        generalize v3.alloc (.cells #[.int .i8 a.f0, .slice Aa a.f1.length ca, .int .i8 b.f0, .slice Ab b.f1.length cb] 43) = v4 at *
        have d0 := (blk_cell HB3.out 0).trans rfl
        have d1 := (blk_cell HB3.out 1).trans rfl
        simp at d0 d1
        refine hK.out _ _ ⟨d0, d1⟩ (fun hHeld => ?_)
        clear hK K d0 d1
        try simp only [Act.put, List.setIfInBounds_toArray, List.set_cons_zero, List.set_cons_succ]
        refine takeA 14 4 (v := ?_) ?_ hHeld ?_
        rotate_left
        · intro w hSw
          try dsimp only at hSw
          go_simp <;> with_reducible rfl
        try simp only [Act.put, List.setIfInBounds_toArray, List.set_cons_zero, List.set_cons_succ]
        refine wpAnyH_ready (rs := [5]) (by kernel_rfl) (by simp) ?_
        refine AllReadyH.cons rfl (fun K hK => ?_) AllReadyH.nil
        have c0 := (blk_cell HB.out 0).trans rfl
        have c1 := (blk_cell HB.out 1).trans rfl
        have z0 := blk_frozen HB.out 0
        have z1 := blk_frozen HB.out 1
        simp at c0 c1
        go_simp
        clear c0 c1 z0 z1
        have HB4 := Aside0.mk (blk_put_far (p := ⟨w.heap.size, 1, none⟩) (u := .slice (some ⟨v3.heap.size, 0, none⟩) 2 2) (blk_put_far (p := ⟨w.heap.size, 0, none⟩) (u := .int .i8 3) HB3.out (by show pb ≠ w.heap.size; omega)) (by show pb ≠ w.heap.size; omega))
        have d0 := (blk_cell HB4.out 0).trans rfl
        have d1 := (blk_cell HB4.out 1).trans rfl
        replace d0 : _ = some (Value.int .i8 a.f0) := d0
        replace d1 : _ = some (Value.slice Aa a.f1.length ca) := d1
        refine hK.out _ _ ⟨d0, d1⟩ (fun hHeld => ?_)
        clear hK K d0 d1
        try simp only [Act.put, List.setIfInBounds_toArray, List.set_cons_zero, List.set_cons_succ]
        refine wpAnyH_done (by kernel_rfl) ?_ _
        go_wp2_with fail
        refine bodyPost_ret (results_cell_row rfl _ _ w.heap.size 43 #[.int .i8 3, .slice (some ⟨v3.heap.size, 0, none⟩) 2 2] (0, 0) _ rfl (by refine blk_put (cs := #[.int .i8 3, .slice none 0 0]) ?_ 1 _ rfl; refine blk_put (cs := #[.int .i8 0, .slice none 0 0]) ?_ 0 _ rfl; exact HB.out) Tryd.underlying43 rfl (by kernel_rfl)) rfl ?_
        rw [← HP.out]
        exact ⟨keep_far (keep_far HK.out _ _ (Nat.le_refl _)) _ _ (Nat.le_refl _), _, j2, rfl, Kd.R_mono (Kd.R_far (Kd.R_far HM2.out (p := ⟨w.heap.size, 0, none⟩) (fun k hk => hk.2.1) _) (p := ⟨w.heap.size, 1, none⟩) (fun k hk => hk.2.1) _) (fun k hk => trivial), (HT.out.far _ _ (by show g ≠ w.heap.size; omega) hlow).far _ _ (by show g ≠ w.heap.size; omega) hlow, by omega, hj2, rfl⟩
    · replace HP := Aside0.mk ((arrow_no (f + 1) a _ hno).symm.trans HP.out)
      replace HM := Aside0.mk (Kd.R_keep HM.out hK (fun k hk => hk.1))
      replace HB3 := Aside0.mk (hK.blk HB3.out (by omega) (by simp))
      replace HK := Aside0.mk (HK.out.trans hK (.inl rfl))
      replace HB := Aside0.mk (hK.blk HB.out (by omega) (by simp))
      replace HT := Aside0.mk hT
      clear hT hK
      have c0 := (blk_cell HB.out 0).trans rfl
      have c1 := (blk_cell HB.out 1).trans rfl
      have z0 := blk_frozen HB.out 0
      have z1 := blk_frozen HB.out 1
      simp at c0 c1
      have d0 := (blk_cell HB3.out 0).trans rfl
      have d1 := (blk_cell HB3.out 1).trans rfl
      simp at d0 d1
      replace HM := Aside0.mk (Kd.R_far (Kd.R_far HM.out (p := ⟨w.heap.size, 0, none⟩) (fun k hk => hk.2.1) (.int .i8 a.f0)) (p := ⟨w.heap.size, 1, none⟩) (fun k hk => hk.2.1) (.slice Aa a.f1.length ca))
      go_wp2_with fail
      refine bodyPost_ret (results_cell_row rfl _ _ w.heap.size 43 #[.int .i8 a.f0, .slice Aa a.f1.length ca] (0, 0) _ rfl (by refine blk_put (cs := #[.int .i8 a.f0, .slice none 0 0]) ?_ 1 _ rfl; refine blk_put (cs := #[.int .i8 0, .slice none 0 0]) ?_ 0 _ rfl; exact HB.out) Tryd.underlying43 rfl (by kernel_rfl)) rfl ?_
      rw [← HP.out]
      exact ⟨keep_far (keep_far HK.out _ _ (Nat.le_refl _)) _ _ (Nat.le_refl _), _, j, rfl, Kd.R_mono HM.out (fun k hk => trivial), (HT.out.far _ _ (by show g ≠ w.heap.size; omega) hlow).far _ _ (by show g ≠ w.heap.size; omega) hlow, hij, hj, rfl⟩
theorem read_all (w0 : World) (g : Nat) (A : Option Addr) (c : Nat) (xs : List S37) (hn : xs.length ≤ 200000) (F : Nat) : ∀ f, f < F → C4 w0 g A c xs f ∧ C3 w0 g A c xs f ∧ C0 w0 g A c xs f := by
  induction F with
  | zero => intro f h; omega
  | succ F ih =>
    intro f hf
    by_cases hlt : f < F
    · exact ih f hlt
    obtain rfl : f = F := by omega
    refine ⟨fun j w hj hT hb => ?_, fun j w hj hT hb => ?_, fun j w hj hT hb => ?_⟩
    · obtain ⟨m, rfl⟩ : ∃ m, f = m + 1 := ⟨f - 1, by omega⟩
      by_cases hO : headIs tkO (toks xs j) = true
      · have hlt : j < xs.length := nextIs_lt ((nextIs_iff xs j 4 [40]).2 hO)
        exact atom_open hT hn hj _ m (.mk rfl) hO (.mk fun w hT => (ih m (by omega)).2.2 (j + 1) w hlt hT (by omega))
      · exact atom_leaves hT hn hj _ m (.mk rfl) (by simpa using hO)
    · obtain ⟨m, rfl⟩ : ∃ m, f = m + 1 := ⟨f - 1, by omega⟩
      exact prod_calls hT hn hj _ m (.mk rfl) hb (.mk fun f' hf' => (ih f' (by omega)).1)
    · obtain ⟨m, rfl⟩ : ∃ m, f = m + 1 + 1 := ⟨f - 2, by omega⟩
      exact whole_calls hT hn hj _ m (.mk rfl) hb (.mk fun f' hf' => (ih f' (by omega)).2.1) (.mk (ih (m + 1) (by omega)).2.2)
theorem whole_read {w0 : World} {g : Nat} {A : Option Addr} {c : Nat} {xs : List S37} {i : Nat} {w : World} (h : Tr w0 g A c xs i w) (hn : xs.length ≤ 200000) (hi : i ≤ xs.length) (f : Nat) (hf : 6 * (xs.length - i) + 5 ≤ f) : Calls Tryd.prog 39 #[.pointer (some ⟨g, 0, none⟩)] w (ReadPost w0 g A c xs i w (parE f 0 (toks xs i))) :=
  (read_all w0 g A c xs hn (f + 1) f (Nat.lt_succ_self f)).2.2 i w hi h hf
end Go.Proofs.YtjmpejbciniceaaDoor.X
namespace Go.Proofs.YtjmpejbciniceaaDoor.X
open Go.RowKit Go.Proofs.YtjmpejbciniceaaDoorW.PrintWords Go.Proofs.YtjmpejbciniceaaDoorW.PrintLast Go.Proofs.YtjmpejbciniceaaDoorW.PrintMore
set_option linter.unusedVariables false
set_option linter.unusedSimpArgs false
set_option maxRecDepth 100000 in
theorem read_idle (p q r : Addr) (w : World) :
    CallsD Tryd.prog 38 #[.pointer (some p), .pointer (some q), .pointer (some r)] .returning w fun e u' w' => e = .returned (.tuple #[]) ∧ u' = .returning ∧ w' = w := by
  refine callsD_of_wpS Tryd.func38 rfl fun c₀ cs hu => ?_
  apply wpS_seq
  apply wpS_region
  simp [wpOpsS, go_sem, recoverD, hu, Tryd.ntmps38, Exit.thenS]
  refine wpS_of_wp ?_
  have hu20 := Tryd.underlying20
  have he : ∀ W : World, (binOp .eql 20 .nilIface .nilIface).run Tryd.prog W = .ok (.bool true) W := fun W => run_eql_nil_nil W 20 (by kernel_rfl)
  go_wp2
  cases c₀
  simp_all [bodyPostS, results, Tryd.results38]
def caught (w : World) (q b0 b1 b2 : Nat) : World := (((w.setCell ⟨b0, 0, none⟩ (.int .i8 0)).setCell ⟨b0, 1, none⟩ (.slice none 0 0)).setCell ⟨b1, 0, none⟩ (.int .i64 0)).setCell ⟨b2, 0, none⟩ (.iface 60 (.pointer (some ⟨q, 0, none⟩)))
set_option maxRecDepth 100000 in
set_option maxHeartbeats 1600000 in
theorem read_catch (q b0 b1 b2 : Nat) (x y z u : Value) (w : World) (h0 : w.heap[b0]? = some (.cells #[x, y] 43 (0, 0))) (h1 : w.heap[b1]? = some (.cells #[z] 3 (0, 0))) (h2 : w.heap[b2]? = some (.cells #[u] 24 (0, 0))) (n01 : b0 ≠ b1) (n02 : b0 ≠ b2) (n12 : b1 ≠ b2) :
    CallsD Tryd.prog 38 #[.pointer (some ⟨b0, 0, none⟩), .pointer (some ⟨b1, 0, none⟩), .pointer (some ⟨b2, 0, none⟩)] (.panicking [{ v := .iface 60 (.pointer (some ⟨q, 0, none⟩)), recovered := false }]) w fun e u' w' =>
      e = .returned (.tuple #[]) ∧ u' = .panicking [{ v := .iface 60 (.pointer (some ⟨q, 0, none⟩)), recovered := true }] ∧ w' = caught w q b0 b1 b2 := by
  have c0 := (blk_cell h0 0).trans rfl
  have c1 := (blk_cell h0 1).trans rfl
  have c2 := (blk_cell h1 0).trans rfl
  have c3 := (blk_cell h2 0).trans rfl
  have z0 := blk_frozen h0 0
  have z1 := blk_frozen h0 1
  have z2 := blk_frozen h1 0
  have z3 := blk_frozen h2 0
  simp at c0 c1 c2 c3
  refine callsD_of_wpS Tryd.func38 rfl fun c₀ cs hu => ?_
  apply wpS_seq
  apply wpS_region
  simp [wpOpsS, go_sem, recoverD, hu, Tryd.ntmps38, Exit.thenS]
  refine wpS_of_wp ?_
  have hu20 := Tryd.underlying20
  have he : ∀ W : World, (binOp .eql 20 (.iface 60 (.pointer (some ⟨q, 0, none⟩))) .nilIface).run Tryd.prog W = .ok (.bool false) W := fun W => run_eql_held_nil W 20 60 _ (by kernel_rfl)
  have hta : ∀ W : World, (Instr.typeAssert (.iface 60 (.pointer (some ⟨q, 0, none⟩))) 20 60 true).run Tryd.prog W = .ok (.tuple #[.pointer (some ⟨q, 0, none⟩), .bool true]) W := fun W => by kernel_rfl
  go_wp2
  simp [bodyPostS, results, Tryd.results38]
  rfl
end Go.Proofs.YtjmpejbciniceaaDoor.X
namespace Go.Proofs.YtjmpejbciniceaaDoor.X
open Go.RowKit Go.Proofs.YtjmpejbciniceaaDoorW.PrintWords Go.Proofs.YtjmpejbciniceaaDoorW.PrintLast Go.Proofs.YtjmpejbciniceaaDoorW.PrintMore
set_option linter.unusedVariables false
set_option linter.unusedSimpArgs false
theorem results_12 (tmps : Array Value) (w : World) (b0 b1 b2 : Nat) (x y u : Value) (z : Int) (p0 : tmps.getD 4 undef = .pointer (some ⟨b0, 0, none⟩)) (p1 : tmps.getD 5 undef = .pointer (some ⟨b1, 0, none⟩)) (p2 : tmps.getD 6 undef = .pointer (some ⟨b2, 0, none⟩))
    (h0 : w.heap[b0]? = some (.cells #[x, y] 43 (0, 0))) (h1 : w.heap[b1]? = some (.cells #[.int .i64 z] 3 (0, 0))) (h2 : w.heap[b2]? = some (.cells #[u] 24 (0, 0))) :
    (results Tryd.f12 tmps).run Tryd.prog w = .ok (.tuple #[.agg #[x, y], .int .i64 z, u]) w := by
  have c1 := (blk_cell h1 0).trans rfl
  have c2 := (blk_cell h2 0).trans rfl
  simp at c1 c2
  have r0 := run_loadVar_row w b0 43 43 #[x, y] (0, 0) _ h0 Tryd.underlying43 rfl (by kernel_rfl)
  have r1 : (loadVar 3 ⟨b1, 0, none⟩).run Tryd.prog w = .ok (.int .i64 z) w := by simp [loadVar, isAgg, underlying, Tryd.underlying3, c1]
  have r2 : (loadVar 24 ⟨b2, 0, none⟩).run Tryd.prog w = .ok u w := by simp [loadVar, isAgg, underlying, Tryd.underlying24, c2]
  have p0' : tmps[4]?.getD undef = .pointer (some ⟨b0, 0, none⟩) := by simpa using p0
  have p1' : tmps[5]?.getD undef = .pointer (some ⟨b1, 0, none⟩) := by simpa using p1
  have p2' : tmps[6]?.getD undef = .pointer (some ⟨b2, 0, none⟩) := by simpa using p2
  simp [results, Tryd.results12, asAddr, p0', p1', p2', r0, r1, r2]
theorem leaves_tmps {P : Program} {fn : Func} {R : Ending → World → Prop} {t1 t2 : Array Value} (h : results fn t1 = results fn t2) (ds : List Deferred) : ∀ (u : FrameMode) (w : World), Leaves P fn t1 R ds u w → Leaves P fn t2 R ds u w := by
  induction ds with
  | nil =>
    intro u w hl
    cases u with
    | run => exact hl
    | returning => simpa only [Leaves, h] using hl
    | panicking chain => exact hl
  | cons d ds ih =>
    rintro u w ⟨hu, fv, cap, f, args, h1, h2, h3⟩
    refine ⟨hu, fv, cap, f, args, h1, h2, h3.mono ?_⟩
    intro e u' w' hl
    cases e with
    | returned v => exact ih _ _ hl
    | panicked chain => exact ih _ _ hl
    | outgrown => exact hl
theorem post_put {R : Ending → World → Prop} {d : Nat} (hd : 6 < d) {c : _} {a : Act} {v : Value} {w : World} (h : bodyPostD Tryd.prog Tryd.f12 R (.panic c) (a.put (some d) v) w) : bodyPostD Tryd.prog Tryd.f12 R (.panic c) a w := by
  refine leaves_tmps ?_ _ _ _ h
  simp only [results, Tryd.results12, Act.put]
  simp [Array.getD_eq_getD_getElem?, show ¬ d = 4 by omega, show ¬ d = 5 by omega, show ¬ d = 6 by omega, Array.getElem?_setIfInBounds]
def FaultAt51 (w : World) (q : Nat) (e p : Int) (t : ByteArray) : Prop := w.heap[q]? = some (.cells #[.int .i64 e, .int .i64 p, .string t] 62 (0, 0))
def RPost (xs : List S37) (i : Nat) (w : World) (r : Except (List Tk) (S43 × List Tk)) (en : Ending) (w' : World) : Prop :=
  Below w.heap.size w w' ∧ match r with
  | .ok x => (checkI x.1 = 0 ∧ ∃ v j, en = .returned (.tuple #[.agg #[.int .i8 x.1.f0, v], .int .i64 ((j : Nat) : Int), .nilIface]) ∧ k43.R 43 w' w.heap.size (fun _ => True) v x.1.f1 ∧ j ≤ xs.length ∧ x.2 = toks xs j)
      ∨ (checkI x.1 ≠ 0 ∧ ∃ q, en = .returned (.tuple #[.agg #[.int .i8 0, .slice none 0 0], .int .i64 0, .iface 60 (.pointer (some ⟨q, 0, none⟩))]) ∧ FaultAt51 w' q (checkI x.1) ((xs[i]?).getD z37).f3 ⟨#[]⟩)
  | .error u => ∃ q j, u = toks xs j ∧ j ≤ xs.length ∧ en = .returned (.tuple #[.agg #[.int .i8 0, .slice none 0 0], .int .i64 0, .iface 60 (.pointer (some ⟨q, 0, none⟩))]) ∧ FaultAt51 w' q 40 (wrAt xs j) (wrWd xs j)
theorem parE_nil (f L : Nat) : ∃ u, parE f L [] = .error u ∨ L ≠ 4 ∧ L ≠ 3 ∧ L ≠ 2 ∧ L ≠ 0 := by
  by_cases hL : L = 4 ∨ L = 3 ∨ L = 2 ∨ L = 0
  · induction f generalizing L with
    | zero => exact ⟨[], .inl (by simp [parE])⟩
    | succ f ih =>
      rcases hL with rfl | rfl | rfl | rfl
      · exact ⟨[], .inl (by rw [parE_four]; rfl)⟩
      · obtain ⟨u, h | h⟩ := ih 4 (by simp)
        · exact ⟨u, .inl (by rw [parE_three, h])⟩
        · exact absurd rfl h.1
      · obtain ⟨u, h | h⟩ := ih 3 (by simp)
        · exact ⟨u, .inl (by rw [parE_two, h])⟩
        · exact absurd rfl h.2.1
      · obtain ⟨u, h | h⟩ := ih 2 (by simp)
        · exact ⟨u, .inl (by rw [parE_zero, h])⟩
        · exact absurd rfl h.2.2.1
  · exact ⟨[], .inr ⟨fun h => hL (by simp [h]), fun h => hL (by simp [h]), fun h => hL (by simp [h]), fun h => hL (by simp [h])⟩⟩
theorem par_lt {xs : List S37} {i f : Nat} {x : S43 × List Tk} (h : parE f 0 (toks xs i) = .ok x) : i < xs.length := by
  refine Nat.lt_of_not_le fun hle => ?_
  have e : toks xs i = [] := by unfold toks; rw [List.drop_eq_nil_of_le hle]; rfl
  rw [e] at h
  obtain ⟨u, h2 | h2⟩ := parE_nil f 0
  · rw [h2] at h; simp at h
  · exact absurd rfl h2.2.2.2
theorem caught_0 {w : World} {q b0 b1 b2 : Nat} {x y : Value} (h : w.heap[b0]? = some (.cells #[x, y] 43 (0, 0))) (h1 : b0 ≠ b1) (h2 : b0 ≠ b2) : (caught w q b0 b1 b2).heap[b0]? = some (.cells #[.int .i8 0, .slice none 0 0] 43 (0, 0)) :=
  blk_put_far (blk_put_far (blk_put (cs := #[.int .i8 0, y]) (blk_put h 0 _ rfl) 1 _ rfl) h1) h2
theorem caught_1 {w : World} {q b0 b1 b2 : Nat} {z : Value} (h : w.heap[b1]? = some (.cells #[z] 3 (0, 0))) (h1 : b0 ≠ b1) (h2 : b1 ≠ b2) : (caught w q b0 b1 b2).heap[b1]? = some (.cells #[.int .i64 0] 3 (0, 0)) :=
  blk_put_far (blk_put (cs := #[z]) (blk_put_far (blk_put_far h (Ne.symm h1)) (Ne.symm h1)) 0 _ rfl) h2
theorem caught_2 {w : World} {q b0 b1 b2 : Nat} {u : Value} (h : w.heap[b2]? = some (.cells #[u] 24 (0, 0))) (h1 : b0 ≠ b2) (h2 : b1 ≠ b2) : (caught w q b0 b1 b2).heap[b2]? = some (.cells #[.iface 60 (.pointer (some ⟨q, 0, none⟩))] 24 (0, 0)) :=
  blk_put (cs := #[u]) (blk_put_far (blk_put_far (blk_put_far h (Ne.symm h1)) (Ne.symm h1)) (Ne.symm h2)) 0 _ rfl
theorem caught_far {w : World} {q b0 b1 b2 k : Nat} {ob : Obj} (h : w.heap[k]? = some ob) (h0 : k ≠ b0) (h1 : k ≠ b1) (h2 : k ≠ b2) : (caught w q b0 b1 b2).heap[k]? = some ob :=
  blk_put_far (blk_put_far (blk_put_far (blk_put_far h h0) h0) h1) h2
theorem caught_below {w0 w : World} {B q b0 b1 b2 : Nat} (h : Below B w0 w) (h0 : B ≤ b0) (h1 : B ≤ b1) (h2 : B ≤ b2) : Below B w0 (caught w q b0 b1 b2) :=
  (((h.setCell h0 _).setCell h0 _).setCell h1 _).setCell h2 _
theorem obj_ne {w : World} {a b : Nat} {cs ds : Array Value} {t u : TypeId} (h : w.heap[a]? = some (.cells cs t (0, 0))) (k : w.heap[b]? = some (.cells ds u (0, 0))) (htu : t ≠ u) : a ≠ b := by
  rintro rfl
  rw [h] at k
  injection k with k
  injection k with _ k
  exact htu k
end Go.Proofs.YtjmpejbciniceaaDoor.X
