/- Texts of this claim, joined: HWhole, HRead1, HRead. -/
import Derived.Test.YtjmpejbciniceaaJTypesBack0
import Derived.Test.YtjmpejbciniceaaJTypesBack1
import Derived.Test.YtjmpejbciniceaaJTypesBack2
import Derived.Test.YtjmpejbciniceaaJTypesBack3
import Derived.Test.YtjmpejbciniceaaJTypesBack4
import Derived.Test.YtjmpejbciniceaaJTypesBack5
import Derived.Test.YtjmpejbciniceaaJTypesBack6
import Derived.Test.YtjmpejbciniceaaJTypesBack7
import Derived.Test.YtjmpejbciniceaaJTypesBack8
import Derived.Test.YtjmpejbciniceaaJTypesBack9
import Derived.Test.YtjmpejbciniceaaJTypesBack10
/- types' prod, whole: the reader of types, whole. -/
namespace Go.Proofs.Ytjmpejbciniceaa.X
open Go.RowKit Go.Proofs.YtjmpejbciniceaaW.PrintWords Go.Proofs.YtjmpejbciniceaaW.PrintLast Go.Proofs.YtjmpejbciniceaaW.PrintMore
set_option linter.unusedVariables false
set_option linter.unusedSimpArgs false

def C4 (w0 : World) (g : Nat) (A : Option Addr) (c : Nat) (xs : List S29) (f : Nat) : Prop := ∀ j w, j ≤ xs.length → Tr w0 g A c xs j w → 6 * (xs.length - j) + 2 ≤ f → Calls Try.prog 59 #[.pointer (some ⟨g, 0, none⟩)] w (ReadPost w0 g A c xs j w (parE f 4 (toks xs j)))
def C3 (w0 : World) (g : Nat) (A : Option Addr) (c : Nat) (xs : List S29) (f : Nat) : Prop := ∀ j w, j ≤ xs.length → Tr w0 g A c xs j w → 6 * (xs.length - j) + 3 ≤ f → Calls Try.prog 47 #[.pointer (some ⟨g, 0, none⟩)] w (ReadPost w0 g A c xs j w (parE f 3 (toks xs j)))
def C0 (w0 : World) (g : Nat) (A : Option Addr) (c : Nat) (xs : List S29) (f : Nat) : Prop := ∀ j w, j ≤ xs.length → Tr w0 g A c xs j w → 6 * (xs.length - j) + 5 ≤ f → Calls Try.prog 26 #[.pointer (some ⟨g, 0, none⟩)] w (ReadPost w0 g A c xs j w (parE f 0 (toks xs j)))
set_option maxRecDepth 100000 in
set_option maxHeartbeats 3200000 in
theorem prod_calls {w0 : World} {g : Nat} {A : Option Addr} {c : Nat} {xs : List S29} {i : Nat} {w : World} (h : Tr w0 g A c xs i w) (hn : xs.length ≤ 200000) (hi : i ≤ xs.length) (r : Except (List Tk) (S35 × List Tk)) (f : Nat) (HR : Aside0 (parE (f + 1) 3 (toks xs i) = r)) (hf : 6 * (xs.length - i) + 3 ≤ f + 1) (IH : Aside0 (∀ f', f' ≤ f → C4 w0 g A c xs f')) :
    Calls Try.prog 47 #[.pointer (some ⟨g, 0, none⟩)] w (ReadPost w0 g A c xs i w r) := by
  have hgl := blk_lt h.blk
  have hlow := h.below.size
  have HT := Aside0.mk (h.after (below1 w #[.int .i8 0, .slice none 0 0] 35))
  have HK := Aside0.mk (KeepBut.of_below (below1 w #[.int .i8 0, .slice none 0 0] 35) g none)
  have HB := Aside0.mk (heap_alloc_new w (.cells #[.int .i8 0, .slice none 0 0] 35))
  clear h
  go_enter Try.func47, Try.ntmps47
  go_wp2_with fail
  generalize w.alloc (.cells #[.int .i8 0, .slice none 0 0] 35) = wa at *
  refine (left3_calls HT.out hn hi f 4 ⟨#[42]⟩ (.mk rfl) (.mk (by rw [bytes_toList]; rfl)) r HR hf (.mk (fun f' hf' => IH.out f' hf'))).mono ?_
  clear HR IH
  cases r with
  | error u =>
    rintro e w5 ⟨hk5, q, j2, rfl, hu, hj2, hq⟩
    have HU := Aside0.mk hu
    have HQ := Aside0.mk hq
    have HK5 := Aside0.mk (HK.out.trans hk5 (.inl rfl))
    clear hk5 hu hq
    go_wp2_with fail
    exact ⟨rfl, HK5.out, q, j2, rfl, HU.out, hj2, HQ.out⟩
  | ok x =>
    obtain ⟨a, u⟩ := x
    rintro e w5 ⟨hk5, v, j, rfl, hm, hT5, hij, hj, hu⟩
    obtain ⟨Aa, ca, rfl⟩ := Kd.R_slice hm
    have HM := Aside0.mk (R_apart (p := w.heap.size) hm HK.out.1 (blk_lt HT.out.blk) (blk_lt HB.out))
    have HU := Aside0.mk hu
    replace HK := Aside0.mk (HK.out.trans hk5 (.inl rfl))
    replace HB := Aside0.mk (hk5.blk HB.out (by omega) (by simp))
    replace HT := Aside0.mk hT5
    clear hk5 hT5 hm hu
    have c0 := (blk_cell HB.out 0).trans rfl
    have c1 := (blk_cell HB.out 1).trans rfl
    have z0 := blk_frozen HB.out 0
    have z1 := blk_frozen HB.out 1
    simp at c0 c1
    replace HM := Aside0.mk (Kd.R_far (Kd.R_far HM.out (p := ⟨w.heap.size, 0, none⟩) (fun k hk => hk.2) (.int .i8 a.f0)) (p := ⟨w.heap.size, 1, none⟩) (fun k hk => hk.2) (.slice Aa a.f1.length ca))
    go_wp2_with fail
    refine bodyPost_ret (results_cell_row rfl _ _ w.heap.size 35 #[.int .i8 a.f0, .slice Aa a.f1.length ca] (0, 0) _ rfl (by refine blk_put (cs := #[.int .i8 a.f0, .slice none 0 0]) ?_ 1 _ rfl; refine blk_put (cs := #[.int .i8 0, .slice none 0 0]) ?_ 0 _ rfl; exact HB.out) Try.underlying35 rfl (by kernel_rfl)) rfl ?_
    exact ⟨keep_far (keep_far HK.out _ _ (Nat.le_refl _)) _ _ (Nat.le_refl _), _, j, rfl, Kd.R_mono HM.out (fun k hk => trivial), (HT.out.far _ _ (by show g ≠ w.heap.size; omega) hlow).far _ _ (by show g ≠ w.heap.size; omega) hlow, hij, hj, HU.out⟩
def arrowE (f : Nat) : Except (List Tk) (S35 × List Tk) → Except (List Tk) (S35 × List Tk)
  | .ok x => if headIs tkA x.2 then (match parE f 0 x.2.tail with | .ok y => .ok (⟨3, [x.1, y.1]⟩, y.2) | .error u => .error u) else .ok x
  | .error u => .error u
def funE (a : S35) : Except (List Tk) (S35 × List Tk) → Except (List Tk) (S35 × List Tk)
  | .ok y => .ok (⟨3, [a, y.1]⟩, y.2)
  | .error u => .error u
theorem arrow_yes (f : Nat) (a : S35) (u : List Tk) (h : headIs tkA u = true) : arrowE f (.ok (a, u)) = funE a (parE f 0 u.tail) := by
  show (if headIs tkA u then _ else _) = _
  rw [if_pos h]
  cases parE f 0 u.tail <;> rfl
theorem arrow_no (f : Nat) (a : S35) (u : List Tk) (h : ¬ headIs tkA u = true) : arrowE f (.ok (a, u)) = .ok (a, u) := by
  show (if headIs tkA u then _ else _) = _
  rw [if_neg h]
set_option maxRecDepth 100000 in
set_option maxHeartbeats 3200000 in
theorem whole_calls {w0 : World} {g : Nat} {A : Option Addr} {c : Nat} {xs : List S29} {i : Nat} {w : World} (h : Tr w0 g A c xs i w) (hn : xs.length ≤ 200000) (hi : i ≤ xs.length) (r : Except (List Tk) (S35 × List Tk)) (f : Nat) (HR : Aside0 (parE (f + 1 + 1) 0 (toks xs i) = r)) (hf : 6 * (xs.length - i) + 5 ≤ f + 1 + 1) (IH : Aside0 (∀ f', f' ≤ f → C3 w0 g A c xs f')) (IH0 : Aside0 (C0 w0 g A c xs (f + 1))) :
    Calls Try.prog 26 #[.pointer (some ⟨g, 0, none⟩)] w (ReadPost w0 g A c xs i w r) := by
  have hgl := blk_lt h.blk
  have hlow := h.below.size
  have HT := Aside0.mk (h.after (below1 w #[.int .i8 0, .slice none 0 0] 35))
  have HK := Aside0.mk (KeepBut.of_below (below1 w #[.int .i8 0, .slice none 0 0] 35) g none)
  have HB := Aside0.mk (heap_alloc_new w (.cells #[.int .i8 0, .slice none 0 0] 35))
  clear h
  go_enter Try.func26, Try.ntmps26
  go_wp2_with fail
  generalize w.alloc (.cells #[.int .i8 0, .slice none 0 0] 35) = wa at *
  obtain ⟨x, hx⟩ : ∃ x, parE (f + 1) 2 (toks xs i) = x := ⟨_, rfl⟩
  have HP : Aside0 (arrowE (f + 1) x = r) := .mk (by rw [← HR.out, parE_zero, hx]; rfl)
  refine (left2_calls HT.out hn hi f 5 ⟨#[43]⟩ (.mk rfl) (.mk (by rw [bytes_toList]; rfl)) x (.mk hx) (by omega) (.mk (fun f' hf' => IH.out f' hf'))).mono ?_
  clear hx HR IH
  cases x with
  | error u =>
    rintro e w5 ⟨hk5, q, j2, rfl, hu, hj2, hq⟩
    have HU := Aside0.mk hu
    have HQ := Aside0.mk hq
    have HK5 := Aside0.mk (HK.out.trans hk5 (.inl rfl))
    clear hk5 hu hq
    rw [← HP.out]
    go_wp2_with fail
    exact ⟨rfl, HK5.out, q, j2, rfl, HU.out, hj2, HQ.out⟩
  | ok x =>
    obtain ⟨a, u⟩ := x
    rintro e w5 ⟨hk5, v, j, rfl, hm, hT5, hij, hj, hu⟩
    replace hu : u = toks xs j := hu
    subst hu
    obtain ⟨Aa, ca, rfl⟩ := Kd.R_slice hm
    have HM := Aside0.mk (R_apart3 (p := w.heap.size) (q := w5.heap.size) hm HK.out.1 (blk_lt HT.out.blk) (blk_lt HB.out) (.inr (Nat.le_refl _)))
    replace HK := Aside0.mk (HK.out.trans hk5 (.inl rfl))
    replace HB := Aside0.mk (hk5.blk HB.out (by omega) (by simp))
    replace HT := Aside0.mk hT5
    clear hk5 hT5 hm
    go_wp2_with fail
    have hlw : w.heap.size ≤ w5.heap.size := HK.out.1
    have hD := below1 w5 #[.int .i8 a.f0, .slice Aa a.f1.length ca] 35
    have hbl := blk_lt HB.out
    have HB3 := Aside0.mk (heap_alloc_new w5 (.cells #[.int .i8 a.f0, .slice Aa a.f1.length ca] 35))
    replace HM := Aside0.mk (Kd.R_below HM.out hD)
    replace HB := Aside0.mk (blk_below HB.out hD)
    replace HT := Aside0.mk (HT.out.after hD)
    replace HK := Aside0.mk (HK.out.trans (KeepBut.of_below hD g none) (.inl rfl))
    clear hD
    generalize w5.alloc (.cells #[.int .i8 a.f0, .slice Aa a.f1.length ca] 35) = wb at *
    generalize w5.heap.size = pb at *
    have hpl := blk_lt HB3.out
    refine (take_calls HT.out hn hj 4 ⟨#[45, 62]⟩).mono ?_
    rintro e v1 h
    have e1 : (⟨#[45, 62]⟩ : ByteArray).toList = [45, 62] := bytes_toList _
    rw [TakePost, e1, nextIs_iff] at h
    rw [show ((4 : Int), ([45, 62] : List UInt8)) = tkA from rfl] at h
    clear e1
    rcases h with ⟨hyes, rfl, hT, hK⟩ | ⟨hno, rfl, hT, hK⟩
    · have hjt : j < xs.length := nextIs_lt ((nextIs_iff _ _ _ _).2 (show headIs tkA (toks xs j) = true from hyes))
      replace HP := Aside0.mk ((arrow_yes (f + 1) a _ hyes).symm.trans HP.out)
      rw [toks_tail] at HP
      replace HM := Aside0.mk (Kd.R_keep HM.out hK (fun k hk => hk.1))
      replace HB3 := Aside0.mk (hK.blk HB3.out (by omega) (by simp))
      replace HK := Aside0.mk (HK.out.trans hK (.inl rfl))
      replace HB := Aside0.mk (hK.blk HB.out (by omega) (by simp))
      replace HT := Aside0.mk hT
      clear hT hK
      go_wp2_with fail
      have d0 := (blk_cell HB3.out 0).trans rfl
      have d1 := (blk_cell HB3.out 1).trans rfl
      simp at d0 d1
      refine wp_region_held_drew (S := fun w' => w'.cell? ⟨pb, 0, none⟩ = some (.int .i8 a.f0) ∧ w'.cell? ⟨pb, 1, none⟩ = some (.slice Aa a.f1.length ca)) (by kernel_rfl) ⟨d0, d1⟩ (fun hHeld => ?_)
      clear d0 d1
      have hD := (Below.refl v1.heap.size v1).drew
      replace HM := Aside0.mk (Kd.R_below HM.out hD)
      replace HB3 := Aside0.mk (blk_below HB3.out hD)
      replace HB := Aside0.mk (blk_below HB.out hD)
      replace HT := Aside0.mk (HT.out.after hD)
      replace HK := Aside0.mk (HK.out.trans (KeepBut.of_below hD g none) (.inl rfl))
      clear hD
      generalize v1.drew = v2 at *
      refine takeA 10 0 (v := ?_) ?_ hHeld ?_
      rotate_left
      · intro w hSw
        try dsimp only at hSw
        go_simp <;> with_reducible rfl
      try simp only [Act.put, List.setIfInBounds_toArray, List.set_cons_zero, List.set_cons_succ]
      refine takeA 11 1 (v := ?_) ?_ hHeld ?_
      rotate_left
      · intro w hSw
        try dsimp only at hSw
        go_simp <;> with_reducible rfl
      try simp only [Act.put, List.setIfInBounds_toArray, List.set_cons_zero, List.set_cons_succ]
      refine wpAnyH_ready (rs := [2]) (by kernel_rfl) (by simp) ?_
      refine AllReadyH.cons rfl (fun K hK => ?_) AllReadyH.nil
      go_simp
      refine (IH0.out (j + 1) _ hjt HT.out (by omega)).mono ?_
      obtain ⟨x, hx⟩ : ∃ x, x = parE (f + 1) 0 (toks xs (j + 1)) := ⟨_, rfl⟩
      rw [← hx]
      rw [← hx] at HP
      clear hx
      cases x with
      | error u =>
        rintro e w5 ⟨hk5, q, j2, rfl, hu, hj2, hq⟩
        have HU := Aside0.mk hu
        have HQ := Aside0.mk hq
        have HK5 := Aside0.mk (HK.out.trans hk5 (.inl rfl))
        clear hk5 hu hq
        rw [← HP.out]
        go_wp2_with fail
        exact ⟨rfl, HK5.out, q, j2, rfl, HU.out, hj2, HQ.out⟩
      | ok x =>
        obtain ⟨b, u⟩ := x
        rintro e v3 ⟨hk5, vb, j2, rfl, hm, hT5, hij2, hj2, hu⟩
        replace hu : u = toks xs j2 := hu
        subst hu
        obtain ⟨Ab, cb, rfl⟩ := Kd.R_slice hm
        have hpl2 := blk_lt HB3.out
        have hgl2 := blk_lt HT.out.blk
        have hvl : v2.heap.size ≤ v3.heap.size := hk5.1
        have HMB := Aside0.mk (R_apart3 (p := w.heap.size) (q := pb) hm HK.out.1 hgl2 (blk_lt HB.out) (.inl hpl2))
        replace HM := Aside0.mk (Kd.R_keep HM.out hk5 (fun k hk => hk.1))
        replace HB3 := Aside0.mk (hk5.blk HB3.out (by omega) (by simp))
        replace HK := Aside0.mk (HK.out.trans hk5 (.inl rfl))
        replace HB := Aside0.mk (hk5.blk HB.out (by omega) (by simp))
        replace HT := Aside0.mk hT5
        replace HP : Aside0 (.ok (⟨3, [a, b]⟩, toks xs j2) = r) := .mk HP.out
        clear hk5 hT5 hm
        have d0 := (blk_cell HB3.out 0).trans rfl
        have d1 := (blk_cell HB3.out 1).trans rfl
        simp at d0 d1
        refine hK.out _ _ ⟨d0, d1⟩ (fun hHeld => ?_)
        clear hK K d0 d1
        try simp only [Act.put, List.setIfInBounds_toArray, List.set_cons_zero, List.set_cons_succ]
        refine wpAnyH_ready (rs := [3]) (by kernel_rfl) (by simp) ?_
        refine AllReadyH.cons rfl (fun K hK => ?_) AllReadyH.nil
        go_simp
        have HM2 := Aside0.mk (R_pair (base := w.heap.size) HK.out.1 (⟨by omega, by omega, by omega⟩ : v3.heap.size ≠ g ∧ v3.heap.size ≠ w.heap.size ∧ v3.heap.size ≠ pb) HM.out HMB.out)
        have hD := below1 v3 #[.int .i8 a.f0, .slice Aa a.f1.length ca, .int .i8 b.f0, .slice Ab b.f1.length cb] 35
        replace HB3 := Aside0.mk (blk_below HB3.out hD)
        replace HB := Aside0.mk (blk_below HB.out hD)
        replace HT := Aside0.mk (HT.out.after hD)
        replace HK := Aside0.mk (HK.out.trans (KeepBut.of_below hD g none) (.inl rfl))
        clear hD
        generalize v3.alloc (.cells #[.int .i8 a.f0, .slice Aa a.f1.length ca, .int .i8 b.f0, .slice Ab b.f1.length cb] 35) = v4 at *
        have d0 := (blk_cell HB3.out 0).trans rfl
        have d1 := (blk_cell HB3.out 1).trans rfl
        simp at d0 d1
        refine hK.out _ _ ⟨d0, d1⟩ (fun hHeld => ?_)
        clear hK K d0 d1
        try simp only [Act.put, List.setIfInBounds_toArray, List.set_cons_zero, List.set_cons_succ]
        refine takeA 14 4 (v := ?_) ?_ hHeld ?_
        rotate_left
        · intro w hSw
          try dsimp only at hSw
          go_simp <;> with_reducible rfl
        try simp only [Act.put, List.setIfInBounds_toArray, List.set_cons_zero, List.set_cons_succ]
        refine wpAnyH_ready (rs := [5]) (by kernel_rfl) (by simp) ?_
        refine AllReadyH.cons rfl (fun K hK => ?_) AllReadyH.nil
        have c0 := (blk_cell HB.out 0).trans rfl
        have c1 := (blk_cell HB.out 1).trans rfl
        have z0 := blk_frozen HB.out 0
        have z1 := blk_frozen HB.out 1
        simp at c0 c1
        go_simp
        clear c0 c1 z0 z1
        have HB4 := Aside0.mk (blk_put_far (p := ⟨w.heap.size, 1, none⟩) (u := .slice (some ⟨v3.heap.size, 0, none⟩) 2 2) (blk_put_far (p := ⟨w.heap.size, 0, none⟩) (u := .int .i8 3) HB3.out (by show pb ≠ w.heap.size; omega)) (by show pb ≠ w.heap.size; omega))
        have d0 := (blk_cell HB4.out 0).trans rfl
        have d1 := (blk_cell HB4.out 1).trans rfl
        replace d0 : _ = some (Value.int .i8 a.f0) := d0
        replace d1 : _ = some (Value.slice Aa a.f1.length ca) := d1
        refine hK.out _ _ ⟨d0, d1⟩ (fun hHeld => ?_)
        clear hK K d0 d1
        try simp only [Act.put, List.setIfInBounds_toArray, List.set_cons_zero, List.set_cons_succ]
        refine wpAnyH_done (by kernel_rfl) ?_ _
        go_wp2_with fail
        refine bodyPost_ret (results_cell_row rfl _ _ w.heap.size 35 #[.int .i8 3, .slice (some ⟨v3.heap.size, 0, none⟩) 2 2] (0, 0) _ rfl (by refine blk_put (cs := #[.int .i8 3, .slice none 0 0]) ?_ 1 _ rfl; refine blk_put (cs := #[.int .i8 0, .slice none 0 0]) ?_ 0 _ rfl; exact HB.out) Try.underlying35 rfl (by kernel_rfl)) rfl ?_
        rw [← HP.out]
        exact ⟨keep_far (keep_far HK.out _ _ (Nat.le_refl _)) _ _ (Nat.le_refl _), _, j2, rfl, Kd.R_mono (Kd.R_far (Kd.R_far HM2.out (p := ⟨w.heap.size, 0, none⟩) (fun k hk => hk.2.1) _) (p := ⟨w.heap.size, 1, none⟩) (fun k hk => hk.2.1) _) (fun k hk => trivial), (HT.out.far _ _ (by show g ≠ w.heap.size; omega) hlow).far _ _ (by show g ≠ w.heap.size; omega) hlow, by omega, hj2, rfl⟩
    · replace HP := Aside0.mk ((arrow_no (f + 1) a _ hno).symm.trans HP.out)
      replace HM := Aside0.mk (Kd.R_keep HM.out hK (fun k hk => hk.1))
      replace HB3 := Aside0.mk (hK.blk HB3.out (by omega) (by simp))
      replace HK := Aside0.mk (HK.out.trans hK (.inl rfl))
      replace HB := Aside0.mk (hK.blk HB.out (by omega) (by simp))
      replace HT := Aside0.mk hT
      clear hT hK
      have c0 := (blk_cell HB.out 0).trans rfl
      have c1 := (blk_cell HB.out 1).trans rfl
      have z0 := blk_frozen HB.out 0
      have z1 := blk_frozen HB.out 1
      simp at c0 c1
      have d0 := (blk_cell HB3.out 0).trans rfl
      have d1 := (blk_cell HB3.out 1).trans rfl
      simp at d0 d1
      replace HM := Aside0.mk (Kd.R_far (Kd.R_far HM.out (p := ⟨w.heap.size, 0, none⟩) (fun k hk => hk.2.1) (.int .i8 a.f0)) (p := ⟨w.heap.size, 1, none⟩) (fun k hk => hk.2.1) (.slice Aa a.f1.length ca))
      go_wp2_with fail
      refine bodyPost_ret (results_cell_row rfl _ _ w.heap.size 35 #[.int .i8 a.f0, .slice Aa a.f1.length ca] (0, 0) _ rfl (by refine blk_put (cs := #[.int .i8 a.f0, .slice none 0 0]) ?_ 1 _ rfl; refine blk_put (cs := #[.int .i8 0, .slice none 0 0]) ?_ 0 _ rfl; exact HB.out) Try.underlying35 rfl (by kernel_rfl)) rfl ?_
      rw [← HP.out]
      exact ⟨keep_far (keep_far HK.out _ _ (Nat.le_refl _)) _ _ (Nat.le_refl _), _, j, rfl, Kd.R_mono HM.out (fun k hk => trivial), (HT.out.far _ _ (by show g ≠ w.heap.size; omega) hlow).far _ _ (by show g ≠ w.heap.size; omega) hlow, hij, hj, rfl⟩
theorem read_all (w0 : World) (g : Nat) (A : Option Addr) (c : Nat) (xs : List S29) (hn : xs.length ≤ 200000) (F : Nat) : ∀ f, f < F → C4 w0 g A c xs f ∧ C3 w0 g A c xs f ∧ C0 w0 g A c xs f := by
  induction F with
  | zero => intro f h; omega
  | succ F ih =>
    intro f hf
    by_cases hlt : f < F
    · exact ih f hlt
    obtain rfl : f = F := by omega
    refine ⟨fun j w hj hT hb => ?_, fun j w hj hT hb => ?_, fun j w hj hT hb => ?_⟩
    · obtain ⟨m, rfl⟩ : ∃ m, f = m + 1 := ⟨f - 1, by omega⟩
      by_cases hO : headIs tkO (toks xs j) = true
      · have hlt : j < xs.length := nextIs_lt ((nextIs_iff xs j 4 [40]).2 hO)
        exact atom_open hT hn hj _ m (.mk rfl) hO (.mk fun w hT => (ih m (by omega)).2.2 (j + 1) w hlt hT (by omega))
      · exact atom_leaves hT hn hj _ m (.mk rfl) (by simpa using hO)
    · obtain ⟨m, rfl⟩ : ∃ m, f = m + 1 := ⟨f - 1, by omega⟩
      exact prod_calls hT hn hj _ m (.mk rfl) hb (.mk fun f' hf' => (ih f' (by omega)).1)
    · obtain ⟨m, rfl⟩ : ∃ m, f = m + 1 + 1 := ⟨f - 2, by omega⟩
      exact whole_calls hT hn hj _ m (.mk rfl) hb (.mk fun f' hf' => (ih f' (by omega)).2.1) (.mk (ih (m + 1) (by omega)).2.2)
/-- The contract of types' method whole. -/
theorem whole_read {w0 : World} {g : Nat} {A : Option Addr} {c : Nat} {xs : List S29} {i : Nat} {w : World} (h : Tr w0 g A c xs i w) (hn : xs.length ≤ 200000) (hi : i ≤ xs.length) (f : Nat) (hf : 6 * (xs.length - i) + 5 ≤ f) : Calls Try.prog 26 #[.pointer (some ⟨g, 0, none⟩)] w (ReadPost w0 g A c xs i w (parE f 0 (toks xs i))) :=
  (read_all w0 g A c xs hn (f + 1) f (Nat.lt_succ_self f)).2.2 i w hi h hf
end Go.Proofs.Ytjmpejbciniceaa.X
/- types.Read's deferred call: nothing to catch, or a fault caught. -/
namespace Go.Proofs.Ytjmpejbciniceaa.X
open Go.RowKit Go.Proofs.YtjmpejbciniceaaW.PrintWords Go.Proofs.YtjmpejbciniceaaW.PrintLast Go.Proofs.YtjmpejbciniceaaW.PrintMore
set_option linter.unusedVariables false
set_option linter.unusedSimpArgs false

set_option maxRecDepth 100000 in
theorem read_idle (p q r : Addr) (w : World) :
    CallsD Try.prog 25 #[.pointer (some p), .pointer (some q), .pointer (some r)] .returning w fun e u' w' => e = .returned (.tuple #[]) ∧ u' = .returning ∧ w' = w := by
  refine callsD_of_wpS Try.func25 rfl fun c₀ cs hu => ?_
  apply wpS_seq
  apply wpS_region
  simp [wpOpsS, go_sem, recoverD, hu, Try.ntmps25, Exit.thenS]
  refine wpS_of_wp ?_
  have hu20 := Try.underlying20
  have he : ∀ W : World, (binOp .eql 20 .nilIface .nilIface).run Try.prog W = .ok (.bool true) W := fun W => run_eql_nil_nil W 20 (by kernel_rfl)
  go_wp2
  cases c₀
  simp_all [bodyPostS, results, Try.results25]
def caught (w : World) (q b0 b1 b2 : Nat) : World := (((w.setCell ⟨b0, 0, none⟩ (.int .i8 0)).setCell ⟨b0, 1, none⟩ (.slice none 0 0)).setCell ⟨b1, 0, none⟩ (.int .i64 0)).setCell ⟨b2, 0, none⟩ (.iface 49 (.pointer (some ⟨q, 0, none⟩)))
set_option maxRecDepth 100000 in
set_option maxHeartbeats 1600000 in
theorem read_catch (q b0 b1 b2 : Nat) (x y z u : Value) (w : World) (h0 : w.heap[b0]? = some (.cells #[x, y] 35 (0, 0))) (h1 : w.heap[b1]? = some (.cells #[z] 3 (0, 0))) (h2 : w.heap[b2]? = some (.cells #[u] 24 (0, 0))) (n01 : b0 ≠ b1) (n02 : b0 ≠ b2) (n12 : b1 ≠ b2) :
    CallsD Try.prog 25 #[.pointer (some ⟨b0, 0, none⟩), .pointer (some ⟨b1, 0, none⟩), .pointer (some ⟨b2, 0, none⟩)] (.panicking [{ v := .iface 49 (.pointer (some ⟨q, 0, none⟩)), recovered := false }]) w fun e u' w' =>
      e = .returned (.tuple #[]) ∧ u' = .panicking [{ v := .iface 49 (.pointer (some ⟨q, 0, none⟩)), recovered := true }] ∧ w' = caught w q b0 b1 b2 := by
  have c0 := (blk_cell h0 0).trans rfl
  have c1 := (blk_cell h0 1).trans rfl
  have c2 := (blk_cell h1 0).trans rfl
  have c3 := (blk_cell h2 0).trans rfl
  have z0 := blk_frozen h0 0
  have z1 := blk_frozen h0 1
  have z2 := blk_frozen h1 0
  have z3 := blk_frozen h2 0
  simp at c0 c1 c2 c3
  refine callsD_of_wpS Try.func25 rfl fun c₀ cs hu => ?_
  apply wpS_seq
  apply wpS_region
  simp [wpOpsS, go_sem, recoverD, hu, Try.ntmps25, Exit.thenS]
  refine wpS_of_wp ?_
  have hu20 := Try.underlying20
  have he : ∀ W : World, (binOp .eql 20 (.iface 49 (.pointer (some ⟨q, 0, none⟩))) .nilIface).run Try.prog W = .ok (.bool false) W := fun W => run_eql_held_nil W 20 49 _ (by kernel_rfl)
  have hta : ∀ W : World, (Instr.typeAssert (.iface 49 (.pointer (some ⟨q, 0, none⟩))) 20 49 true).run Try.prog W = .ok (.tuple #[.pointer (some ⟨q, 0, none⟩), .bool true]) W := fun W => by kernel_rfl
  go_wp2
  simp [bodyPostS, results, Try.results25]
  rfl
end Go.Proofs.Ytjmpejbciniceaa.X
/- The contract of types.Read. -/
namespace Go.Proofs.Ytjmpejbciniceaa.X
open Go.RowKit Go.Proofs.YtjmpejbciniceaaW.PrintWords Go.Proofs.YtjmpejbciniceaaW.PrintLast Go.Proofs.YtjmpejbciniceaaW.PrintMore
set_option linter.unusedVariables false
set_option linter.unusedSimpArgs false

theorem results_12 (tmps : Array Value) (w : World) (b0 b1 b2 : Nat) (x y u : Value) (z : Int) (p0 : tmps.getD 4 undef = .pointer (some ⟨b0, 0, none⟩)) (p1 : tmps.getD 5 undef = .pointer (some ⟨b1, 0, none⟩)) (p2 : tmps.getD 6 undef = .pointer (some ⟨b2, 0, none⟩))
    (h0 : w.heap[b0]? = some (.cells #[x, y] 35 (0, 0))) (h1 : w.heap[b1]? = some (.cells #[.int .i64 z] 3 (0, 0))) (h2 : w.heap[b2]? = some (.cells #[u] 24 (0, 0))) :
    (results Try.f12 tmps).run Try.prog w = .ok (.tuple #[.agg #[x, y], .int .i64 z, u]) w := by
  have c1 := (blk_cell h1 0).trans rfl
  have c2 := (blk_cell h2 0).trans rfl
  simp at c1 c2
  have r0 := run_loadVar_row w b0 35 35 #[x, y] (0, 0) _ h0 Try.underlying35 rfl (by kernel_rfl)
  have r1 : (loadVar 3 ⟨b1, 0, none⟩).run Try.prog w = .ok (.int .i64 z) w := by simp [loadVar, isAgg, underlying, Try.underlying3, c1]
  have r2 : (loadVar 24 ⟨b2, 0, none⟩).run Try.prog w = .ok u w := by simp [loadVar, isAgg, underlying, Try.underlying24, c2]
  have p0' : tmps[4]?.getD undef = .pointer (some ⟨b0, 0, none⟩) := by simpa using p0
  have p1' : tmps[5]?.getD undef = .pointer (some ⟨b1, 0, none⟩) := by simpa using p1
  have p2' : tmps[6]?.getD undef = .pointer (some ⟨b2, 0, none⟩) := by simpa using p2
  simp [results, Try.results12, asAddr, p0', p1', p2', r0, r1, r2]
theorem leaves_tmps {P : Program} {fn : Func} {R : Ending → World → Prop} {t1 t2 : Array Value} (h : results fn t1 = results fn t2) (ds : List Deferred) : ∀ (u : FrameMode) (w : World), Leaves P fn t1 R ds u w → Leaves P fn t2 R ds u w := by
  induction ds with
  | nil =>
    intro u w hl
    cases u with
    | run => exact hl
    | returning => simpa only [Leaves, h] using hl
    | panicking chain => exact hl
  | cons d ds ih =>
    rintro u w ⟨hu, fv, cap, f, args, h1, h2, h3⟩
    refine ⟨hu, fv, cap, f, args, h1, h2, h3.mono ?_⟩
    intro e u' w' hl
    cases e with
    | returned v => exact ih _ _ hl
    | panicked chain => exact ih _ _ hl
    | outgrown => exact hl
theorem post_put {R : Ending → World → Prop} {d : Nat} (hd : 6 < d) {c : _} {a : Act} {v : Value} {w : World} (h : bodyPostD Try.prog Try.f12 R (.panic c) (a.put (some d) v) w) : bodyPostD Try.prog Try.f12 R (.panic c) a w := by
  refine leaves_tmps ?_ _ _ _ h
  simp only [results, Try.results12, Act.put]
  simp [Array.getD_eq_getD_getElem?, show ¬ d = 4 by omega, show ¬ d = 5 by omega, show ¬ d = 6 by omega, Array.getElem?_setIfInBounds]
def startOf (xs : List S29) (a : Int) : Nat := if a ≤ 0 then 0 else if a ≤ xs.length then a.toNat else xs.length
def FaultAt51 (w : World) (q : Nat) (e p : Int) (t : ByteArray) : Prop := w.heap[q]? = some (.cells #[.int .i64 e, .int .i64 p, .string t] 51 (0, 0))
/-- What types.Read answers. -/
def RPost (xs : List S29) (i : Nat) (w : World) (r : Except (List Tk) (S35 × List Tk)) (en : Ending) (w' : World) : Prop :=
  Below w.heap.size w w' ∧ match r with
  | .ok x => (checkI x.1 = 0 ∧ ∃ v j, en = .returned (.tuple #[.agg #[.int .i8 x.1.f0, v], .int .i64 ((j : Nat) : Int), .nilIface]) ∧ k35.R 35 w' w.heap.size (fun _ => True) v x.1.f1 ∧ j ≤ xs.length ∧ x.2 = toks xs j)
      ∨ (checkI x.1 ≠ 0 ∧ ∃ q, en = .returned (.tuple #[.agg #[.int .i8 0, .slice none 0 0], .int .i64 0, .iface 49 (.pointer (some ⟨q, 0, none⟩))]) ∧ FaultAt51 w' q (checkI x.1) ((xs[i]?).getD z29).f3 ⟨#[]⟩)
  | .error u => ∃ q j, u = toks xs j ∧ j ≤ xs.length ∧ en = .returned (.tuple #[.agg #[.int .i8 0, .slice none 0 0], .int .i64 0, .iface 49 (.pointer (some ⟨q, 0, none⟩))]) ∧ FaultAt51 w' q 40 (wrAt xs j) (wrWd xs j)
theorem parE_nil (f L : Nat) : ∃ u, parE f L [] = .error u ∨ L ≠ 4 ∧ L ≠ 3 ∧ L ≠ 2 ∧ L ≠ 0 := by
  by_cases hL : L = 4 ∨ L = 3 ∨ L = 2 ∨ L = 0
  · induction f generalizing L with
    | zero => exact ⟨[], .inl (by simp [parE])⟩
    | succ f ih =>
      rcases hL with rfl | rfl | rfl | rfl
      · exact ⟨[], .inl (by rw [parE_four]; rfl)⟩
      · obtain ⟨u, h | h⟩ := ih 4 (by simp)
        · exact ⟨u, .inl (by rw [parE_three, h])⟩
        · exact absurd rfl h.1
      · obtain ⟨u, h | h⟩ := ih 3 (by simp)
        · exact ⟨u, .inl (by rw [parE_two, h])⟩
        · exact absurd rfl h.2.1
      · obtain ⟨u, h | h⟩ := ih 2 (by simp)
        · exact ⟨u, .inl (by rw [parE_zero, h])⟩
        · exact absurd rfl h.2.2.1
  · exact ⟨[], .inr ⟨fun h => hL (by simp [h]), fun h => hL (by simp [h]), fun h => hL (by simp [h]), fun h => hL (by simp [h])⟩⟩
theorem par_lt {xs : List S29} {i f : Nat} {x : S35 × List Tk} (h : parE f 0 (toks xs i) = .ok x) : i < xs.length := by
  refine Nat.lt_of_not_le fun hle => ?_
  have e : toks xs i = [] := by unfold toks; rw [List.drop_eq_nil_of_le hle]; rfl
  rw [e] at h
  obtain ⟨u, h2 | h2⟩ := parE_nil f 0
  · rw [h2] at h; simp at h
  · exact absurd rfl h2.2.2.2
theorem caught_0 {w : World} {q b0 b1 b2 : Nat} {x y : Value} (h : w.heap[b0]? = some (.cells #[x, y] 35 (0, 0))) (h1 : b0 ≠ b1) (h2 : b0 ≠ b2) : (caught w q b0 b1 b2).heap[b0]? = some (.cells #[.int .i8 0, .slice none 0 0] 35 (0, 0)) :=
  blk_put_far (blk_put_far (blk_put (cs := #[.int .i8 0, y]) (blk_put h 0 _ rfl) 1 _ rfl) h1) h2
theorem caught_1 {w : World} {q b0 b1 b2 : Nat} {z : Value} (h : w.heap[b1]? = some (.cells #[z] 3 (0, 0))) (h1 : b0 ≠ b1) (h2 : b1 ≠ b2) : (caught w q b0 b1 b2).heap[b1]? = some (.cells #[.int .i64 0] 3 (0, 0)) :=
  blk_put_far (blk_put (cs := #[z]) (blk_put_far (blk_put_far h (Ne.symm h1)) (Ne.symm h1)) 0 _ rfl) h2
theorem caught_2 {w : World} {q b0 b1 b2 : Nat} {u : Value} (h : w.heap[b2]? = some (.cells #[u] 24 (0, 0))) (h1 : b0 ≠ b2) (h2 : b1 ≠ b2) : (caught w q b0 b1 b2).heap[b2]? = some (.cells #[.iface 49 (.pointer (some ⟨q, 0, none⟩))] 24 (0, 0)) :=
  blk_put (cs := #[u]) (blk_put_far (blk_put_far (blk_put_far h (Ne.symm h1)) (Ne.symm h1)) (Ne.symm h2)) 0 _ rfl
theorem caught_far {w : World} {q b0 b1 b2 k : Nat} {ob : Obj} (h : w.heap[k]? = some ob) (h0 : k ≠ b0) (h1 : k ≠ b1) (h2 : k ≠ b2) : (caught w q b0 b1 b2).heap[k]? = some ob :=
  blk_put_far (blk_put_far (blk_put_far (blk_put_far h h0) h0) h1) h2
theorem caught_below {w0 w : World} {B q b0 b1 b2 : Nat} (h : Below B w0 w) (h0 : B ≤ b0) (h1 : B ≤ b1) (h2 : B ≤ b2) : Below B w0 (caught w q b0 b1 b2) :=
  (((h.setCell h0 _).setCell h0 _).setCell h1 _).setCell h2 _
theorem obj_ne {w : World} {a b : Nat} {cs ds : Array Value} {t u : TypeId} (h : w.heap[a]? = some (.cells cs t (0, 0))) (k : w.heap[b]? = some (.cells ds u (0, 0))) (htu : t ≠ u) : a ≠ b := by
  rintro rfl
  rw [h] at k
  injection k with k
  injection k with _ k
  exact htu k
set_option maxRecDepth 100000 in
set_option maxHeartbeats 3200000 in
theorem read_low {A : Option Addr} {c : Nat} {xs : List S29} {w : World} (hw : Kd.C k29 w A xs.length xs) (hn : xs.length ≤ 200000) {a : Int} (ha : a ≤ 0) (f : Nat) (hf : 6 * xs.length + 5 ≤ f) (r : Except (List Tk) (S35 × List Tk)) (HR : Aside0 (parE f 0 (toks xs 0) = r)) :
    Calls Try.prog 12 #[.slice A xs.length c, .int .i64 a] w (RPost xs 0 w r) := by
  have hmf : ∀ (fn : Fn) (first cap : Array Value) (w : World), (Instr.makeFunc fn first cap).run Try.prog w = .ok (.func fn first cap) w := fun _ _ _ _ => rfl
  have hB4 : Below w.heap.size w ((((w.alloc (.cells #[.int .i8 0, .slice none 0 0] 35)).alloc (.cells #[.int .i64 0] 3)).alloc (.cells #[.nilIface] 24)).alloc (.cells #[.slice A xs.length c, .int .i64 0] 64)) := (((below1 w _ _).alloc (by simp) _).alloc (by simp; omega) _).alloc (by simp; omega) _
  have hG := heap_alloc_new (((w.alloc (.cells #[.int .i8 0, .slice none 0 0] 35)).alloc (.cells #[.int .i64 0] 3)).alloc (.cells #[.nilIface] 24)) (.cells #[.slice A xs.length c, .int .i64 0] 64)
  have h2 := blk_alloc (heap_alloc_new ((w.alloc (.cells #[.int .i8 0, .slice none 0 0] 35)).alloc (.cells #[.int .i64 0] 3)) (.cells #[.nilIface] 24)) (.cells #[.slice A xs.length c, .int .i64 0] 64)
  have h1 := blk_alloc (blk_alloc (heap_alloc_new (w.alloc (.cells #[.int .i8 0, .slice none 0 0] 35)) (.cells #[.int .i64 0] 3)) (.cells #[.nilIface] 24)) (.cells #[.slice A xs.length c, .int .i64 0] 64)
  have h0 := blk_alloc (blk_alloc (blk_alloc (heap_alloc_new w (.cells #[.int .i8 0, .slice none 0 0] 35)) (.cells #[.int .i64 0] 3)) (.cells #[.nilIface] 24)) (.cells #[.slice A xs.length c, .int .i64 0] 64)
  have hsz : ((((w.alloc (.cells #[.int .i8 0, .slice none 0 0] 35)).alloc (.cells #[.int .i64 0] 3)).alloc (.cells #[.nilIface] 24)).alloc (.cells #[.slice A xs.length c, .int .i64 0] 64)).heap.size = w.heap.size + 1 + 1 + 1 + 1 := by simp
  rw [show (((w.alloc (.cells #[.int .i8 0, .slice none 0 0] 35)).alloc (.cells #[.int .i64 0] 3)).alloc (.cells #[.nilIface] 24)).heap.size = w.heap.size + 1 + 1 + 1 from by simp] at hG
  rw [show ((w.alloc (.cells #[.int .i8 0, .slice none 0 0] 35)).alloc (.cells #[.int .i64 0] 3)).heap.size = w.heap.size + 1 + 1 from by simp] at h2
  rw [show (w.alloc (.cells #[.int .i8 0, .slice none 0 0] 35)).heap.size = w.heap.size + 1 from by simp] at h1
  have HT : Aside0 (Tr w (w.heap.size + 1 + 1 + 1) A c xs 0 ((((w.alloc (.cells #[.int .i8 0, .slice none 0 0] 35)).alloc (.cells #[.int .i64 0] 3)).alloc (.cells #[.nilIface] 24)).alloc (.cells #[.slice A xs.length c, .int .i64 0] 64))) := .mk ⟨hG, hw, by omega, hB4⟩
  have HB0 := Aside0.mk h0
  have HB1 := Aside0.mk h1
  have HB2 := Aside0.mk h2
  clear hw hB4 hG h0 h1 h2
  go_enter_defers Try.func12, Try.ntmps12
  go_wp2_with fail
  generalize ((((w.alloc (.cells #[.int .i8 0, .slice none 0 0] 35)).alloc (.cells #[.int .i64 0] 3)).alloc (.cells #[.nilIface] 24)).alloc (.cells #[.slice A xs.length c, .int .i64 0] 64)) = wa at *
  refine (whole_read HT.out hn (by omega) f (by omega)).mono ?_
  rw [show parE f 0 (toks xs 0) = r from HR.out]
  have hgg : w.heap.size ≠ (w.heap.size + 1 + 1 + 1) := by omega
  cases r with
  | error u =>
    rintro e w5 ⟨hk5, q, j2, rfl, hu, hj2, hq, hbl⟩
    replace HB0 := Aside0.mk (hk5.blk HB0.out (by omega) (by simp))
    replace HB1 := Aside0.mk (hk5.blk HB1.out (by omega) (by simp))
    replace HB2 := Aside0.mk (hk5.blk HB2.out (by omega) (by simp))
    have hws : wa.heap.size ≤ w5.heap.size := hk5.1
    have HQ := Aside0.mk hq
    have HBL := Aside0.mk hbl
    clear hk5 hq hbl
    refine leaves_cons (f := 25) (args := #[.pointer (some ⟨w.heap.size, 0, none⟩), .pointer (some ⟨(w.heap.size + 1), 0, none⟩), .pointer (some ⟨(w.heap.size + 1 + 1), 0, none⟩)]) (by simp) (by simp [go_sem]) ?_
    refine (read_catch q w.heap.size (w.heap.size + 1) (w.heap.size + 1 + 1) _ _ _ _ _ HB0.out HB1.out HB2.out (by omega) (by omega) (by omega)).mono ?_
    rintro e u' w'' ⟨rfl, rfl, rfl⟩
    simp [Leaves, settle]
    refine ⟨.tuple #[.agg #[.int .i8 0, .slice none 0 0], .int .i64 0, .iface 49 (.pointer (some ⟨q, 0, none⟩))], ?_, ?_⟩
    · refine results_12 _ _ w.heap.size (w.heap.size + 1) (w.heap.size + 1 + 1) _ _ _ _ rfl rfl rfl (caught_0 HB0.out (by omega) (by omega)) (caught_1 HB1.out (by omega) (by omega)) (caught_2 HB2.out (by omega) (by omega))
    · exact ⟨caught_below HBL.out (Nat.le_refl _) (by omega) (by omega), q, j2, hu, hj2, rfl, caught_far HQ.out (obj_ne HQ.out HB0.out (by decide)) (obj_ne HQ.out HB1.out (by decide)) (obj_ne HQ.out HB2.out (by decide))⟩
  | ok x =>
    obtain ⟨t, u⟩ := x
    rintro e w5 ⟨hk5, v, j, rfl, hm, hT5, hij, hj, hu⟩
    replace hu : u = toks xs j := hu
    have hlt : 0 < xs.length := par_lt HR.out
    obtain ⟨At, ct, rfl⟩ := Kd.R_slice hm
    have HM : Aside0 (k35.R 35 w5 w.heap.size (fun k => (w.heap.size + 1 + 1 + 1) < k) (.slice At t.f1.length ct) t.f1) := .mk (Kd.R_lower (Kd.R_mono (Kd.R_bound hm) fun k hk => by omega) (by omega))
    replace HB0 := Aside0.mk (hk5.blk HB0.out (by omega) (by simp))
    replace HB1 := Aside0.mk (hk5.blk HB1.out (by omega) (by simp))
    replace HB2 := Aside0.mk (hk5.blk HB2.out (by omega) (by simp))
    have hws : wa.heap.size ≤ w5.heap.size := hk5.1
    replace HT := Aside0.mk hT5
    clear hk5 hm hT5
    have c0 := (blk_cell HB0.out 0).trans rfl
    have c1 := (blk_cell HB0.out 1).trans rfl
    have z0 := blk_frozen HB0.out 0
    have z1 := blk_frozen HB0.out 1
    simp at c0 c1
    go_wp2_with fail
    clear c0 c1 z0 z1
    replace HM := Aside0.mk (Kd.R_far (Kd.R_far HM.out (p := ⟨w.heap.size, 0, none⟩) (fun k hk => by show k ≠ w.heap.size; omega) (.int .i8 t.f0)) (p := ⟨w.heap.size, 1, none⟩) (fun k hk => by show k ≠ w.heap.size; omega) (.slice At t.f1.length ct))
    replace HT := Aside0.mk ((HT.out.far ⟨w.heap.size, 0, none⟩ (.int .i8 t.f0) (by show _ ≠ w.heap.size; omega) (Nat.le_refl _)).far ⟨w.heap.size, 1, none⟩ (.slice At t.f1.length ct) (by show _ ≠ w.heap.size; omega) (Nat.le_refl _))
    replace HB0 : Aside0 (((w5.setCell ⟨w.heap.size, 0, none⟩ (.int .i8 t.f0)).setCell ⟨w.heap.size, 1, none⟩ (.slice At t.f1.length ct)).heap[w.heap.size]? = some (.cells #[.int .i8 t.f0, .slice At t.f1.length ct] 35 (0, 0))) := .mk (blk_put (cs := #[.int .i8 t.f0, .slice none 0 0]) (blk_put HB0.out 0 _ rfl) 1 _ rfl)
    replace HB1 := Aside0.mk (blk_put_far (p := ⟨w.heap.size, 1, none⟩) (u := .slice At t.f1.length ct) (blk_put_far (p := ⟨w.heap.size, 0, none⟩) (u := .int .i8 t.f0) HB1.out (by show _ ≠ w.heap.size; omega)) (by show _ ≠ w.heap.size; omega))
    replace HB2 := Aside0.mk (blk_put_far (p := ⟨w.heap.size, 1, none⟩) (u := .slice At t.f1.length ct) (blk_put_far (p := ⟨w.heap.size, 0, none⟩) (u := .int .i8 t.f0) HB2.out (by show _ ≠ w.heap.size; omega)) (by show _ ≠ w.heap.size; omega))
    generalize (w5.setCell ⟨w.heap.size, 0, none⟩ (.int .i8 t.f0)).setCell ⟨w.heap.size, 1, none⟩ (.slice At t.f1.length ct) = w6 at *
    have hI : IsT w6 (.agg #[.int .i8 t.f0, .slice At t.f1.length ct]) t := by
      obtain ⟨A', c', he, hl, hr⟩ := Kd.R_reads HM.out
      injection he with e1 e2 e3
      subst e1 e3
      exact ⟨_, _, rfl, hl, hr⟩
    refine (Check_calls hI).mono ?_
    clear hI
    rintro e w7 ⟨rfl, hB⟩
    replace HM := Aside0.mk (Kd.R_below HM.out hB)
    replace HT := Aside0.mk (HT.out.after hB)
    replace HB0 := Aside0.mk (blk_below HB0.out hB)
    replace HB1 := Aside0.mk (blk_below HB1.out hB)
    replace HB2 := Aside0.mk (blk_below HB2.out hB)
    clear hB
    obtain ⟨ck, hck⟩ : ∃ ck, ck = checkI t := ⟨_, rfl⟩
    rw [← hck]
    have HC := Aside0.mk hck
    clear hck
    by_cases hc : ck = 0
    · subst hc
      go_wp2_with fail
      have d0 := (blk_cell HB0.out 0).trans rfl
      have d1 := (blk_cell HB0.out 1).trans rfl
      have d2 := (blk_cell HT.out.blk 1).trans rfl
      simp at d0 d1 d2
      refine wp_region_held_drew (S := fun w' => (w'.cell? ⟨w.heap.size, 0, none⟩ = some (.int .i8 t.f0) ∧ w'.cell? ⟨w.heap.size, 1, none⟩ = some (.slice At t.f1.length ct)) ∧ w'.cell? ⟨w.heap.size + 1 + 1 + 1, 1, none⟩ = some (.int .i64 (j : Int))) (by kernel_rfl) ⟨⟨d0, d1⟩, d2⟩ (fun hHeld => ?_)
      have hD := (Below.refl w7.heap.size w7).drew
      replace HM := Aside0.mk (Kd.R_below HM.out hD)
      replace HT := Aside0.mk (HT.out.after hD)
      replace HB0 := Aside0.mk (blk_below HB0.out hD)
      replace HB1 := Aside0.mk (blk_below HB1.out hD)
      replace HB2 := Aside0.mk (blk_below HB2.out hD)
      clear hD d0 d1 d2
      generalize w7.drew = w8 at *
      refine takeH (d := some 38) (v := ?_) 0 rfl rfl (by kernel_rfl) (by kernel_rfl) (by kernel_rfl) (fun _ _ _ h => post_put (d := 38) (by decide) h) (by rfl) ?_ hHeld ?_
      rotate_left
      · intro w hSw
        try dsimp only at hSw
        go_simp <;> with_reducible rfl
      try simp only [Act.put, List.setIfInBounds_toArray, List.set_cons_zero, List.set_cons_succ]
      refine takeH (d := some 39) (v := ?_) 1 rfl rfl (by kernel_rfl) (by kernel_rfl) (by kernel_rfl) (fun _ _ _ h => post_put (d := 39) (by decide) h) (by rfl) ?_ hHeld ?_
      rotate_left
      · intro w hSw
        try dsimp only at hSw
        go_simp <;> with_reducible rfl
      try simp only [Act.put, List.setIfInBounds_toArray, List.set_cons_zero, List.set_cons_succ]
      refine takeH (d := some 40) (v := ?_) 2 rfl rfl (by kernel_rfl) (by kernel_rfl) (by kernel_rfl) (fun _ _ _ h => post_put (d := 40) (by decide) h) (by rfl) ?_ hHeld ?_
      rotate_left
      · intro w hSw
        try dsimp only at hSw
        go_simp <;> with_reducible rfl
      try simp only [Act.put, List.setIfInBounds_toArray, List.set_cons_zero, List.set_cons_succ]
      refine takeH (d := some 41) (v := ?_) 3 rfl rfl (by kernel_rfl) (by kernel_rfl) (by kernel_rfl) (fun _ _ _ h => post_put (d := 41) (by decide) h) (by rfl) ?_ hHeld ?_
      rotate_left
      · intro w hSw
        try dsimp only at hSw
        go_simp <;> with_reducible rfl
      try simp only [Act.put, List.setIfInBounds_toArray, List.set_cons_zero, List.set_cons_succ]
      refine takeH (d := some 42) (v := ?_) 4 rfl rfl (by kernel_rfl) (by kernel_rfl) (by kernel_rfl) (fun _ _ _ h => post_put (d := 42) (by decide) h) (by rfl) ?_ hHeld ?_
      rotate_left
      · intro w hSw
        try dsimp only at hSw
        go_simp <;> with_reducible rfl
      try simp only [Act.put, List.setIfInBounds_toArray, List.set_cons_zero, List.set_cons_succ]
      refine wpAnyH_ready (rs := [5]) (by kernel_rfl) (by simp) ?_
      refine AllReadyH.cons rfl (fun K hK => ?_) AllReadyH.nil
      have d0 := (blk_cell HB0.out 0).trans rfl
      have y0 := blk_frozen HB0.out 0
      have d1 := (blk_cell HB0.out 1).trans rfl
      have y1 := blk_frozen HB0.out 1
      simp at d0 d1
      go_simp
      clear d0 y0 d1 y1
      replace HM := Aside0.mk (Kd.R_far (Kd.R_far HM.out (p := ⟨w.heap.size, 0, none⟩) (fun k hk => by show k ≠ w.heap.size; omega) (.int .i8 t.f0)) (p := ⟨w.heap.size, 1, none⟩) (fun k hk => by show k ≠ w.heap.size; omega) (.slice At t.f1.length ct))
      replace HT := Aside0.mk ((HT.out.far ⟨w.heap.size, 0, none⟩ (.int .i8 t.f0) (by show _ ≠ w.heap.size; omega) (Nat.le_refl _)).far ⟨w.heap.size, 1, none⟩ (.slice At t.f1.length ct) (by show _ ≠ w.heap.size; omega) (Nat.le_refl _))
      replace HB0 : Aside0 (((w8.setCell ⟨w.heap.size, 0, none⟩ (.int .i8 t.f0)).setCell ⟨w.heap.size, 1, none⟩ (.slice At t.f1.length ct)).heap[w.heap.size]? = some (.cells #[.int .i8 t.f0, .slice At t.f1.length ct] 35 (0, 0))) := .mk (blk_put (cs := #[.int .i8 t.f0, .slice At t.f1.length ct]) (blk_put HB0.out 0 _ rfl) 1 _ rfl)
      replace HB1 := Aside0.mk (blk_put_far (p := ⟨w.heap.size, 1, none⟩) (u := .slice At t.f1.length ct) (blk_put_far (p := ⟨w.heap.size, 0, none⟩) (u := .int .i8 t.f0) HB1.out (by show _ ≠ w.heap.size; omega)) (by show _ ≠ w.heap.size; omega))
      replace HB2 := Aside0.mk (blk_put_far (p := ⟨w.heap.size, 1, none⟩) (u := .slice At t.f1.length ct) (blk_put_far (p := ⟨w.heap.size, 0, none⟩) (u := .int .i8 t.f0) HB2.out (by show _ ≠ w.heap.size; omega)) (by show _ ≠ w.heap.size; omega))
      generalize (w8.setCell ⟨w.heap.size, 0, none⟩ (.int .i8 t.f0)).setCell ⟨w.heap.size, 1, none⟩ (.slice At t.f1.length ct) = w9 at *
      have d0 := (blk_cell HB0.out 0).trans rfl
      have d1 := (blk_cell HB0.out 1).trans rfl
      have d2 := (blk_cell HT.out.blk 1).trans rfl
      simp at d0 d1 d2
      refine hK.out _ _ ⟨⟨d0, d1⟩, d2⟩ (fun hHeld => ?_)
      clear hK K d0 d1 d2
      try simp only [Act.put, List.setIfInBounds_toArray, List.set_cons_zero, List.set_cons_succ]
      refine wpAnyH_ready (rs := [6]) (by kernel_rfl) (by simp) ?_
      refine AllReadyH.cons rfl (fun K hK => ?_) AllReadyH.nil
      have d0 := (blk_cell HB1.out 0).trans rfl
      have y0 := blk_frozen HB1.out 0
      simp at d0
      go_simp
      clear d0 y0
      replace HM := Aside0.mk (Kd.R_far HM.out (p := ⟨w.heap.size + 1, 0, none⟩) (fun k hk => by show k ≠ w.heap.size + 1; omega) (.int .i64 (j : Int)))
      replace HT := Aside0.mk (HT.out.far ⟨w.heap.size + 1, 0, none⟩ (.int .i64 (j : Int)) (by show _ ≠ w.heap.size + 1; omega) (by show _ ≤ w.heap.size + 1; omega))
      replace HB0 := Aside0.mk (blk_put_far (p := ⟨w.heap.size + 1, 0, none⟩) (u := .int .i64 (j : Int)) HB0.out (by show _ ≠ w.heap.size + 1; omega))
      replace HB2 := Aside0.mk (blk_put_far (p := ⟨w.heap.size + 1, 0, none⟩) (u := .int .i64 (j : Int)) HB2.out (by show _ ≠ w.heap.size + 1; omega))
      replace HB1 : Aside0 ((w9.setCell ⟨w.heap.size + 1, 0, none⟩ (.int .i64 (j : Int))).heap[w.heap.size + 1]? = some (.cells #[.int .i64 (j : Int)] 3 (0, 0))) := .mk (blk_put (cs := #[.int .i64 0]) HB1.out 0 _ rfl)
      generalize w9.setCell ⟨w.heap.size + 1, 0, none⟩ (.int .i64 (j : Int)) = w10 at *
      have d0 := (blk_cell HB0.out 0).trans rfl
      have d1 := (blk_cell HB0.out 1).trans rfl
      have d2 := (blk_cell HT.out.blk 1).trans rfl
      simp at d0 d1 d2
      refine hK.out _ _ ⟨⟨d0, d1⟩, d2⟩ (fun hHeld => ?_)
      clear hK K d0 d1 d2
      try simp only [Act.put, List.setIfInBounds_toArray, List.set_cons_zero, List.set_cons_succ]
      refine wpAnyH_ready (rs := [7]) (by kernel_rfl) (by simp) ?_
      refine AllReadyH.cons rfl (fun K hK => ?_) AllReadyH.nil
      have d0 := (blk_cell HB2.out 0).trans rfl
      have y0 := blk_frozen HB2.out 0
      simp at d0
      go_simp
      clear d0 y0
      replace HM := Aside0.mk (Kd.R_far HM.out (p := ⟨w.heap.size + 1 + 1, 0, none⟩) (fun k hk => by show k ≠ w.heap.size + 1 + 1; omega) (.nilIface))
      replace HT := Aside0.mk (HT.out.far ⟨w.heap.size + 1 + 1, 0, none⟩ .nilIface (by show _ ≠ w.heap.size + 1 + 1; omega) (by show _ ≤ w.heap.size + 1 + 1; omega))
      replace HB0 := Aside0.mk (blk_put_far (p := ⟨w.heap.size + 1 + 1, 0, none⟩) (u := .nilIface) HB0.out (by show _ ≠ w.heap.size + 1 + 1; omega))
      replace HB1 := Aside0.mk (blk_put_far (p := ⟨w.heap.size + 1 + 1, 0, none⟩) (u := .nilIface) HB1.out (by show _ ≠ w.heap.size + 1 + 1; omega))
      replace HB2 : Aside0 ((w10.setCell ⟨w.heap.size + 1 + 1, 0, none⟩ .nilIface).heap[w.heap.size + 1 + 1]? = some (.cells #[.nilIface] 24 (0, 0))) := .mk (blk_put (cs := #[.nilIface]) HB2.out 0 _ rfl)
      generalize w10.setCell ⟨w.heap.size + 1 + 1, 0, none⟩ .nilIface = w11 at *
      have d0 := (blk_cell HB0.out 0).trans rfl
      have d1 := (blk_cell HB0.out 1).trans rfl
      have d2 := (blk_cell HT.out.blk 1).trans rfl
      simp at d0 d1 d2
      refine hK.out _ _ ⟨⟨d0, d1⟩, d2⟩ (fun hHeld => ?_)
      clear hK K d0 d1 d2
      try simp only [Act.put, List.setIfInBounds_toArray, List.set_cons_zero, List.set_cons_succ]
      refine wpAnyH_done (by kernel_rfl) ?_ _
      go_wp2_with fail
      refine leaves_cons (f := 25) (args := #[.pointer (some ⟨w.heap.size, 0, none⟩), .pointer (some ⟨(w.heap.size + 1), 0, none⟩), .pointer (some ⟨(w.heap.size + 1 + 1), 0, none⟩)]) (by simp) (by simp [go_sem]) ?_
      refine (read_idle _ _ _ _).mono ?_
      rintro e u' w'' ⟨rfl, rfl, rfl⟩
      exact ⟨_, results_12 _ _ _ _ _ _ _ _ _ rfl rfl rfl HB0.out HB1.out HB2.out, HT.out.below, .inl ⟨HC.out.symm, _, j, rfl, Kd.R_mono HM.out (fun _ _ => trivial), hj, hu⟩⟩
    · have hc2 : (ck != 0) = true := by rw [bne_iff_ne]; exact hc
      obtain ⟨ad, hA, _, _, _, x3⟩ := word_at (Kd.C_below HT.out.words HT.out.below) 0 hlt _ (List.getElem?_eq_getElem hlt)
      subst hA
      have HX : Aside0 (((xs[0]?).getD z29).f3 = (xs[0]'hlt).f3) := .mk (by rw [List.getElem?_eq_getElem hlt]; rfl)
      generalize (xs[0]'hlt).f3 = P at *
      have hltI : (0 : Int) < (xs.length : Int) := by omega
      clear HM
      replace x3 : w7.cell? ⟨ad.block, ad.off + 3, none⟩ = some (.int .i64 P) := by simpa [Addr.add] using x3
      go_wp2_with fail
      have hD := below1 w7 #[.int .i64 ck, .int .i64 P, .string ⟨#[]⟩] 51
      have HQ := Aside0.mk (heap_alloc_new w7 (.cells #[.int .i64 ck, .int .i64 P, .string ⟨#[]⟩] 51))
      replace HB0 := Aside0.mk (blk_below HB0.out hD)
      replace HB1 := Aside0.mk (blk_below HB1.out hD)
      replace HB2 := Aside0.mk (blk_below HB2.out hD)
      have HBL := Aside0.mk (below_then HT.out.below HT.out.below.size hD)
      clear hD x3
      generalize w7.heap.size = q at *
      generalize w7.alloc (.cells #[.int .i64 ck, .int .i64 P, .string ⟨#[]⟩] 51) = w8 at *
      refine leaves_cons (f := 25) (args := #[.pointer (some ⟨w.heap.size, 0, none⟩), .pointer (some ⟨(w.heap.size + 1), 0, none⟩), .pointer (some ⟨(w.heap.size + 1 + 1), 0, none⟩)]) (by simp) (by simp [go_sem]) ?_
      refine (read_catch q w.heap.size (w.heap.size + 1) (w.heap.size + 1 + 1) _ _ _ _ _ HB0.out HB1.out HB2.out (by omega) (by omega) (by omega)).mono ?_
      rintro e u' w'' ⟨rfl, rfl, rfl⟩
      simp [Leaves, settle]
      refine ⟨.tuple #[.agg #[.int .i8 0, .slice none 0 0], .int .i64 0, .iface 49 (.pointer (some ⟨q, 0, none⟩))], ?_, ?_⟩
      · refine results_12 _ _ w.heap.size (w.heap.size + 1) (w.heap.size + 1 + 1) _ _ _ _ rfl rfl rfl (caught_0 HB0.out (by omega) (by omega)) (caught_1 HB1.out (by omega) (by omega)) (caught_2 HB2.out (by omega) (by omega))
      · refine ⟨caught_below HBL.out (Nat.le_refl _) (by omega) (by omega), .inr ⟨by show checkI t ≠ 0; rw [← HC.out]; exact hc, q, rfl, ?_⟩⟩
        show FaultAt51 _ _ (checkI t) _ _
        rw [HX.out, ← HC.out]
        exact caught_far HQ.out (obj_ne HQ.out HB0.out (by decide)) (obj_ne HQ.out HB1.out (by decide)) (obj_ne HQ.out HB2.out (by decide))
end Go.Proofs.Ytjmpejbciniceaa.X
