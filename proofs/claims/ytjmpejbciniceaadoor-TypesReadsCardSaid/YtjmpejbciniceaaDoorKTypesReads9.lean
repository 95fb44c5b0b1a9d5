/- Texts of this claim, joined: HRa, HRl, HRt. -/
import Derived.Test.YtjmpejbciniceaaDoorKTypesReads6
import Derived.Test.YtjmpejbciniceaaDoorKTypesReads7
import Derived.Test.YtjmpejbciniceaaDoorKTypesReads8
namespace Go.Proofs.YtjmpejbciniceaaDoor.X
open Go.RowKit Go.Proofs.YtjmpejbciniceaaDoorW.PrintWords Go.Proofs.YtjmpejbciniceaaDoorW.PrintLast Go.Proofs.YtjmpejbciniceaaDoorW.PrintMore
set_option linter.unusedVariables false
set_option linter.unusedSimpArgs false
def RPR (w0 : World) (g : Nat) (A : Option Addr) (c : Nat) (xs : List S37) (i0 : Nat) (w : World) (r : Except (List Tk) (S43 × List Tk)) (en : Ending) (w' : World) : Prop :=
  KeepBut w w' g none ∧ ∃ (t : S43) (v : Value), en = .returned (.agg #[.int .i8 t.f0, v]) ∧ k43.R 43 w' w.heap.size (fun _ => True) v t.f1 ∧ match r with
  | .ok x => t = x.1 ∧ ∃ i, RR w0 g A c xs i 0 0 ⟨#[]⟩ w' ∧ i0 ≤ i ∧ i ≤ xs.length ∧ x.2 = toks xs i
  | .error u => ∃ i j, u = toks xs j ∧ j ≤ xs.length ∧ i ≤ xs.length ∧ RR w0 g A c xs i 40 (wrAt xs j) (wrWd xs j) w'
def R0 (w0 : World) (g : Nat) (A : Option Addr) (c : Nat) (xs : List S37) (f : Nat) : Prop := ∀ j w, j ≤ xs.length → RR w0 g A c xs j 0 0 ⟨#[]⟩ w → 6 * (xs.length - j) + 5 ≤ f → Calls Tryd.prog 41 #[.pointer (some ⟨g, 0, none⟩)] w (RPR w0 g A c xs j w (parE f 0 (toks xs j)))
theorem isQ (xs : List S37) (i : Nat) : nextIs xs i 4 (⟨#[63]⟩ : ByteArray).toList ↔ headIs tkQ (toks xs i) = true := by
  rw [nextIs_iff, show ((4 : Int), (⟨#[63]⟩ : ByteArray).toList) = tkQ from by decide +kernel]
theorem isI (xs : List S37) (i : Nat) : nextIs xs i 3 (⟨#[105, 110, 116]⟩ : ByteArray).toList ↔ headIs tkI (toks xs i) = true := by
  rw [nextIs_iff, show ((3 : Int), (⟨#[105, 110, 116]⟩ : ByteArray).toList) = tkI from by decide +kernel]
theorem isB (xs : List S37) (i : Nat) : nextIs xs i 3 (⟨#[98, 111, 111, 108]⟩ : ByteArray).toList ↔ headIs tkB (toks xs i) = true := by
  rw [nextIs_iff, show ((3 : Int), (⟨#[98, 111, 111, 108]⟩ : ByteArray).toList) = tkB from by decide +kernel]
theorem isO (xs : List S37) (i : Nat) : nextIs xs i 4 (⟨#[40]⟩ : ByteArray).toList ↔ headIs tkO (toks xs i) = true := by
  rw [nextIs_iff, show ((4 : Int), (⟨#[40]⟩ : ByteArray).toList) = tkO from by decide +kernel]
theorem isC (xs : List S37) (i : Nat) : nextIs xs i 4 (⟨#[41]⟩ : ByteArray).toList ↔ headIs tkC (toks xs i) = true := by
  rw [nextIs_iff, show ((4 : Int), (⟨#[41]⟩ : ByteArray).toList) = tkC from by decide +kernel]
theorem isA (xs : List S37) (i : Nat) : nextIs xs i 4 (⟨#[45, 62]⟩ : ByteArray).toList ↔ headIs tkA (toks xs i) = true := by
  rw [nextIs_iff, show ((4 : Int), (⟨#[45, 62]⟩ : ByteArray).toList) = tkA from by decide +kernel]
theorem isM (xs : List S37) (i : Nat) : nextIs xs i 4 (⟨#[42]⟩ : ByteArray).toList ↔ headIs tkM (toks xs i) = true := by
  rw [nextIs_iff, show ((4 : Int), (⟨#[42]⟩ : ByteArray).toList) = tkM from by decide +kernel]
theorem isP (xs : List S37) (i : Nat) : nextIs xs i 4 (⟨#[43]⟩ : ByteArray).toList ↔ headIs tkP (toks xs i) = true := by
  rw [nextIs_iff, show ((4 : Int), (⟨#[43]⟩ : ByteArray).toList) = tkP from by decide +kernel]
set_option maxRecDepth 100000 in
set_option maxHeartbeats 6400000 in
theorem ratom_calls {w0 : World} {g : Nat} {A : Option Addr} {c : Nat} {xs : List S37} {i : Nat} {w : World} (h : RR w0 g A c xs i 0 0 ⟨#[]⟩ w) (hn : xs.length ≤ 200000) (hi : i ≤ xs.length) (f : Nat) (hf : 6 * (xs.length - i) + 2 ≤ f + 1) (IH : Aside0 (∀ f', f' ≤ f → R0 w0 g A c xs f')) (r : Except (List Tk) (S43 × List Tk)) (HE : Aside0 (parE (f + 1) 4 (toks xs i) = r)) :
    Calls Tryd.prog 134 #[.pointer (some ⟨g, 0, none⟩)] w (RPR w0 g A c xs i w r) := by
  have hgl := blk_lt h.blk
  have hB := below1 w #[.int .i8 0, .slice none 0 0] 43
  have HR := Aside0.mk (h.after hB)
  have HK := Aside0.mk (KeepBut.of_below hB g none)
  have HB := Aside0.mk (heap_alloc_new w (.cells #[.int .i8 0, .slice none 0 0] 43))
  clear h hB
  go_enter Tryd.func134, Tryd.ntmps134
  go_wp2_with fail
  generalize w.alloc (.cells #[.int .i8 0, .slice none 0 0] 43) = wa at *
  refine (psign_calls HR.out hn hi _).mono ?_
  rintro e w1 ⟨hK, ⟨-, hy, rfl, hR⟩ | ⟨hno, rfl, hR⟩⟩
  · have hr : Aside0 (r = .ok (⟨0, []⟩, toks xs (i + 1))) := .mk (by rw [← HE.out, parE_four, if_pos ((isQ _ _).1 hy), toks_tail])
    replace HK := Aside0.mk (HK.out.trans hK (.inl rfl))
    replace HB := Aside0.mk (hK.blk HB.out (by omega) (by simp))
    replace HR := Aside0.mk hR
    clear hK hR
    have hlt := nextIs_lt hy
    clear hy
    have k9 := blk_put (cs := #[.int .i8 0, .slice none 0 0]) (blk_put HB.out 0 (.int .i8 0) rfl) 1 (.slice none 0 0) rfl
    have HK9 := Aside0.mk (Go.Proofs.YtjmpejbciniceaaDoorW.PrintWords.keep_far (Go.Proofs.YtjmpejbciniceaaDoorW.PrintWords.keep_far HK.out (p := ⟨w.heap.size, 0, none⟩) (Nat.le_refl _) (.int .i8 0)) (p := ⟨w.heap.size, 1, none⟩) (Nat.le_refl _) (.slice none 0 0))
    have HR9 := Aside0.mk ((HR.out.far ⟨w.heap.size, 0, none⟩ (.int .i8 0) (by show g ≠ w.heap.size; omega) (by have := HR.out.low; show _ ≤ w.heap.size; omega)).far ⟨w.heap.size, 1, none⟩ (.slice none 0 0) (by show g ≠ w.heap.size; omega) (by have := HR.out.low; show _ ≤ w.heap.size; omega))
    have c0 := (blk_cell HB.out 0).trans rfl
    have c1 := (blk_cell HB.out 1).trans rfl
    have z0 := blk_frozen HB.out 0
    have z1 := blk_frozen HB.out 1
    simp at c0 c1
    have e0 := blk_cell k9 0
    have e1 := blk_cell k9 1
    simp at e0 e1
    clear k9
    go_wp2_with fail
    refine bodyPost_ret (v := .agg #[.int .i8 0, .slice none 0 0]) (by simp [results, Tryd.results134, go_sem, e0, e1]) rfl ⟨HK9.out, ⟨0, []⟩, .slice none 0 0, rfl, Kd.R_nil _ _ _ _ _, ?_⟩
    rw [hr.out]
    exact ⟨rfl, i + 1, HR9.out, by omega, by omega, rfl⟩
  have h1 : Aside0 (¬ headIs tkQ (toks xs i) = true) := .mk fun h => hno ⟨rfl, (isQ _ _).2 h⟩
  replace HK := Aside0.mk (HK.out.trans hK (.inl rfl))
  replace HB := Aside0.mk (hK.blk HB.out (by omega) (by simp))
  replace HR := Aside0.mk hR
  clear hK hR
  clear hno
  go_wp2_with fail
  refine (pkey_calls HR.out hn hi _).mono ?_
  rintro e w2 ⟨hK, ⟨-, hy, rfl, hR⟩ | ⟨hno, rfl, hR⟩⟩
  · have hr : Aside0 (r = .ok (⟨1, []⟩, toks xs (i + 1))) := .mk (by rw [← HE.out, parE_four, if_neg h1.out, if_pos ((isI _ _).1 hy), toks_tail])
    replace HK := Aside0.mk (HK.out.trans hK (.inl rfl))
    replace HB := Aside0.mk (hK.blk HB.out (by omega) (by simp))
    replace HR := Aside0.mk hR
    clear hK hR
    have hlt := nextIs_lt hy
    clear hy
    have k9 := blk_put (cs := #[.int .i8 1, .slice none 0 0]) (blk_put HB.out 0 (.int .i8 1) rfl) 1 (.slice none 0 0) rfl
    have HK9 := Aside0.mk (Go.Proofs.YtjmpejbciniceaaDoorW.PrintWords.keep_far (Go.Proofs.YtjmpejbciniceaaDoorW.PrintWords.keep_far HK.out (p := ⟨w.heap.size, 0, none⟩) (Nat.le_refl _) (.int .i8 1)) (p := ⟨w.heap.size, 1, none⟩) (Nat.le_refl _) (.slice none 0 0))
    have HR9 := Aside0.mk ((HR.out.far ⟨w.heap.size, 0, none⟩ (.int .i8 1) (by show g ≠ w.heap.size; omega) (by have := HR.out.low; show _ ≤ w.heap.size; omega)).far ⟨w.heap.size, 1, none⟩ (.slice none 0 0) (by show g ≠ w.heap.size; omega) (by have := HR.out.low; show _ ≤ w.heap.size; omega))
    have c0 := (blk_cell HB.out 0).trans rfl
    have c1 := (blk_cell HB.out 1).trans rfl
    have z0 := blk_frozen HB.out 0
    have z1 := blk_frozen HB.out 1
    simp at c0 c1
    have e0 := blk_cell k9 0
    have e1 := blk_cell k9 1
    simp at e0 e1
    clear k9
    go_wp2_with fail
    refine bodyPost_ret (v := .agg #[.int .i8 1, .slice none 0 0]) (by simp [results, Tryd.results134, go_sem, e0, e1]) rfl ⟨HK9.out, ⟨1, []⟩, .slice none 0 0, rfl, Kd.R_nil _ _ _ _ _, ?_⟩
    rw [hr.out]
    exact ⟨rfl, i + 1, HR9.out, by omega, by omega, rfl⟩
  have h2 : Aside0 (¬ headIs tkI (toks xs i) = true) := .mk fun h => hno ⟨rfl, (isI _ _).2 h⟩
  replace HK := Aside0.mk (HK.out.trans hK (.inl rfl))
  replace HB := Aside0.mk (hK.blk HB.out (by omega) (by simp))
  replace HR := Aside0.mk hR
  clear hK hR
  clear hno
  go_wp2_with fail
  refine (pkey_calls HR.out hn hi _).mono ?_
  rintro e w3 ⟨hK, ⟨-, hy, rfl, hR⟩ | ⟨hno, rfl, hR⟩⟩
  · have hr : Aside0 (r = .ok (⟨2, []⟩, toks xs (i + 1))) := .mk (by rw [← HE.out, parE_four, if_neg h1.out, if_neg h2.out, if_pos ((isB _ _).1 hy), toks_tail])
    replace HK := Aside0.mk (HK.out.trans hK (.inl rfl))
    replace HB := Aside0.mk (hK.blk HB.out (by omega) (by simp))
    replace HR := Aside0.mk hR
    clear hK hR
    have hlt := nextIs_lt hy
    clear hy
    have k9 := blk_put (cs := #[.int .i8 2, .slice none 0 0]) (blk_put HB.out 0 (.int .i8 2) rfl) 1 (.slice none 0 0) rfl
    have HK9 := Aside0.mk (Go.Proofs.YtjmpejbciniceaaDoorW.PrintWords.keep_far (Go.Proofs.YtjmpejbciniceaaDoorW.PrintWords.keep_far HK.out (p := ⟨w.heap.size, 0, none⟩) (Nat.le_refl _) (.int .i8 2)) (p := ⟨w.heap.size, 1, none⟩) (Nat.le_refl _) (.slice none 0 0))
    have HR9 := Aside0.mk ((HR.out.far ⟨w.heap.size, 0, none⟩ (.int .i8 2) (by show g ≠ w.heap.size; omega) (by have := HR.out.low; show _ ≤ w.heap.size; omega)).far ⟨w.heap.size, 1, none⟩ (.slice none 0 0) (by show g ≠ w.heap.size; omega) (by have := HR.out.low; show _ ≤ w.heap.size; omega))
    have c0 := (blk_cell HB.out 0).trans rfl
    have c1 := (blk_cell HB.out 1).trans rfl
    have z0 := blk_frozen HB.out 0
    have z1 := blk_frozen HB.out 1
    simp at c0 c1
    have e0 := blk_cell k9 0
    have e1 := blk_cell k9 1
    simp at e0 e1
    clear k9
    go_wp2_with fail
    refine bodyPost_ret (v := .agg #[.int .i8 2, .slice none 0 0]) (by simp [results, Tryd.results134, go_sem, e0, e1]) rfl ⟨HK9.out, ⟨2, []⟩, .slice none 0 0, rfl, Kd.R_nil _ _ _ _ _, ?_⟩
    rw [hr.out]
    exact ⟨rfl, i + 1, HR9.out, by omega, by omega, rfl⟩
  have h3 : Aside0 (¬ headIs tkB (toks xs i) = true) := .mk fun h => hno ⟨rfl, (isB _ _).2 h⟩
  replace HK := Aside0.mk (HK.out.trans hK (.inl rfl))
  replace HB := Aside0.mk (hK.blk HB.out (by omega) (by simp))
  replace HR := Aside0.mk hR
  clear hK hR
  clear hno
  go_wp2_with fail
  refine (psign_calls HR.out hn hi _).mono ?_
  rintro e w4 ⟨hK, ⟨-, hy, rfl, hR⟩ | ⟨hno, rfl, hR⟩⟩
  · have hr : Aside0 (r = closeE (parE f 0 (toks xs (i + 1)))) := .mk (by rw [← HE.out, parE_four, if_neg h1.out, if_neg h2.out, if_neg h3.out, if_pos ((isO _ _).1 hy), toks_tail])
    replace HK := Aside0.mk (HK.out.trans hK (.inl rfl))
    replace HB := Aside0.mk (hK.blk HB.out (by omega) (by simp))
    replace HR := Aside0.mk hR
    clear hK hR
    have hlt := nextIs_lt hy
    clear hy
    go_wp2_with fail
    refine (IH.out f (Nat.le_refl _) (i + 1) _ (by omega) HR.out (by omega)).mono ?_
    rintro e w5 ⟨hK, t, v, rfl, hm, hp⟩
    have hwl := hK.1
    have hwz : w.heap.size < w4.heap.size := blk_lt HB.out
    have hg4 : g < w4.heap.size := blk_lt HR.out.blk
    obtain ⟨At, ct, rfl⟩ := Kd.R_slice hm
    have HM := Aside0.mk (R_apart (base := w.heap.size) hm (by omega) hg4 hwz)
    have HP := Aside0.mk hp
    replace HK := Aside0.mk (HK.out.trans hK (.inl rfl))
    replace HB := Aside0.mk (hK.blk HB.out (by omega) (by simp))
    clear hK hm hp HR
    have hB := below1 w5 #[.int .i8 t.f0, .slice At t.f1.length ct] 43
    have K3 := Aside0.mk (heap_alloc_new w5 (.cells #[.int .i8 t.f0, .slice At t.f1.length ct] 43))
    go_wp2_with fail
    have hws : w.heap.size < w5.heap.size := by omega
    replace HM := Aside0.mk (Kd.R_below HM.out hB)
    replace HK := Aside0.mk (HK.out.trans (KeepBut.of_below hB g none) (.inl rfl))
    replace HB := Aside0.mk (blk_below HB.out hB)
    have HA5 : Aside0 (∀ (i : Nat) (e p : Int) (s : ByteArray), RR w0 g A c xs i e p s w5 → RR w0 g A c xs i e p s (w5.alloc (.cells #[.int .i8 t.f0, .slice At t.f1.length ct] 43))) := .mk fun _ _ _ _ h => h.after hB
    clear hB
    generalize w5.alloc (.cells #[.int .i8 t.f0, .slice At t.f1.length ct] 43) = wb at *
    have hgp : g < w5.heap.size := by omega
    clear hwl
    generalize w5.heap.size = pb at *
    obtain ⟨x, hx⟩ : ∃ x, x = parE f 0 (toks xs (i + 1)) := ⟨_, rfl⟩
    rw [← hx] at hr HP
    clear hx
    cases x with
    | ok y =>
      obtain ⟨a, u⟩ := y
      obtain ⟨ht, i', hR, hle, hle2, hu⟩ := HP.out
      replace hu : u = toks xs i' := hu
      replace ht : t = a := ht
      subst hu ht
      have HR := Aside0.mk (HA5.out _ _ _ _ hR)
      clear hR HP HA5
      refine (rwant_calls HR.out hn hle2 _).mono ?_
      rintro e w6 ⟨rfl, hK, h3⟩
      replace HM := Aside0.mk (Kd.R_keep HM.out hK (fun k hk => hk.1))
      replace K3 := Aside0.mk (hK.blk K3.out (by omega) (by simp))
      replace HB := Aside0.mk (hK.blk HB.out (by omega) (by simp))
      replace HK := Aside0.mk (HK.out.trans hK (.inl rfl))
      clear hK
      rcases h3 with ⟨hne, -⟩ | ⟨-, hy, hR⟩ | ⟨-, hno, hR⟩
      · exact absurd rfl hne
      · have hy2 := nextIs_lt hy
        replace hr : Aside0 (r = .ok (t, toks xs (i' + 1))) := .mk (by rw [hr.out]; show (if headIs tkC (toks xs i') = true then _ else _) = _; rw [if_pos ((isC _ _).1 hy), toks_tail])
        replace HR := Aside0.mk hR
        clear hy hR
        have hpq : w.heap.size ≠ pb := by omega
        have k9 := blk_put (cs := #[.int .i8 t.f0, .slice none 0 0]) (blk_put HB.out 0 (.int .i8 t.f0) rfl) 1 (.slice At t.f1.length ct) rfl
        have HK9 := Aside0.mk (Go.Proofs.YtjmpejbciniceaaDoorW.PrintWords.keep_far (Go.Proofs.YtjmpejbciniceaaDoorW.PrintWords.keep_far HK.out (p := ⟨w.heap.size, 0, none⟩) (Nat.le_refl _) (.int .i8 t.f0)) (p := ⟨w.heap.size, 1, none⟩) (Nat.le_refl _) (.slice At t.f1.length ct))
        have HR9 := Aside0.mk ((HR.out.far ⟨w.heap.size, 0, none⟩ (.int .i8 t.f0) (by show g ≠ w.heap.size; omega) (by have := HR.out.low; show _ ≤ w.heap.size; omega)).far ⟨w.heap.size, 1, none⟩ (.slice At t.f1.length ct) (by show g ≠ w.heap.size; omega) (by have := HR.out.low; show _ ≤ w.heap.size; omega))
        have HM9 := Aside0.mk (Kd.R_mono (Kd.R_far (Kd.R_far HM.out (p := ⟨w.heap.size, 0, none⟩) (fun k hk => by show k ≠ w.heap.size; exact hk.2) (.int .i8 t.f0)) (p := ⟨w.heap.size, 1, none⟩) (fun k hk => by show k ≠ w.heap.size; exact hk.2) (.slice At t.f1.length ct)) (fun _ _ => trivial))
        have c0 := (blk_cell HB.out 0).trans rfl
        have c1 := (blk_cell HB.out 1).trans rfl
        have z0 := blk_frozen HB.out 0
        have z1 := blk_frozen HB.out 1
        have d0 := (blk_cell K3.out 0).trans rfl
        have d1 := (blk_cell K3.out 1).trans rfl
        simp at c0 c1 d0 d1
        have e0 := blk_cell k9 0
        have e1 := blk_cell k9 1
        simp at e0 e1
        clear k9
        go_wp2_with fail
        refine bodyPost_ret (v := .agg #[.int .i8 t.f0, .slice At t.f1.length ct]) (by simp [results, Tryd.results134, go_sem, e0, e1]) rfl ⟨HK9.out, t, .slice At t.f1.length ct, rfl, HM9.out, ?_⟩
        rw [hr.out]
        exact ⟨rfl, i' + 1, HR9.out, by omega, by omega, rfl⟩
      · replace hr : Aside0 (r = .error (toks xs i')) := .mk (by rw [hr.out]; show (if headIs tkC (toks xs i') = true then _ else _) = _; rw [if_neg fun h => hno ((isC _ _).2 h)])
        replace HR := Aside0.mk hR
        clear hno hR
        have hpq : w.heap.size ≠ pb := by omega
        have k9 := blk_put (cs := #[.int .i8 t.f0, .slice none 0 0]) (blk_put HB.out 0 (.int .i8 t.f0) rfl) 1 (.slice At t.f1.length ct) rfl
        have HK9 := Aside0.mk (Go.Proofs.YtjmpejbciniceaaDoorW.PrintWords.keep_far (Go.Proofs.YtjmpejbciniceaaDoorW.PrintWords.keep_far HK.out (p := ⟨w.heap.size, 0, none⟩) (Nat.le_refl _) (.int .i8 t.f0)) (p := ⟨w.heap.size, 1, none⟩) (Nat.le_refl _) (.slice At t.f1.length ct))
        have HR9 := Aside0.mk ((HR.out.far ⟨w.heap.size, 0, none⟩ (.int .i8 t.f0) (by show g ≠ w.heap.size; omega) (by have := HR.out.low; show _ ≤ w.heap.size; omega)).far ⟨w.heap.size, 1, none⟩ (.slice At t.f1.length ct) (by show g ≠ w.heap.size; omega) (by have := HR.out.low; show _ ≤ w.heap.size; omega))
        have HM9 := Aside0.mk (Kd.R_mono (Kd.R_far (Kd.R_far HM.out (p := ⟨w.heap.size, 0, none⟩) (fun k hk => by show k ≠ w.heap.size; exact hk.2) (.int .i8 t.f0)) (p := ⟨w.heap.size, 1, none⟩) (fun k hk => by show k ≠ w.heap.size; exact hk.2) (.slice At t.f1.length ct)) (fun _ _ => trivial))
        have c0 := (blk_cell HB.out 0).trans rfl
        have c1 := (blk_cell HB.out 1).trans rfl
        have z0 := blk_frozen HB.out 0
        have z1 := blk_frozen HB.out 1
        have d0 := (blk_cell K3.out 0).trans rfl
        have d1 := (blk_cell K3.out 1).trans rfl
        simp at c0 c1 d0 d1
        have e0 := blk_cell k9 0
        have e1 := blk_cell k9 1
        simp at e0 e1
        clear k9
        go_wp2_with fail
        refine bodyPost_ret (v := .agg #[.int .i8 t.f0, .slice At t.f1.length ct]) (by simp [results, Tryd.results134, go_sem, e0, e1]) rfl ⟨HK9.out, t, .slice At t.f1.length ct, rfl, HM9.out, ?_⟩
        rw [hr.out]
        exact ⟨i', i', rfl, hle2, hle2, HR9.out⟩
    | error u =>
      obtain ⟨i', j', hu, hj, hi', hR⟩ := HP.out
      have HR := Aside0.mk (HA5.out _ _ _ _ hR)
      clear hR HP HA5
      refine (rwant_calls HR.out hn hi' _).mono ?_
      rintro e w6 ⟨rfl, hK, h3⟩
      replace HM := Aside0.mk (Kd.R_keep HM.out hK (fun k hk => hk.1))
      replace K3 := Aside0.mk (hK.blk K3.out (by omega) (by simp))
      replace HB := Aside0.mk (hK.blk HB.out (by omega) (by simp))
      replace HK := Aside0.mk (HK.out.trans hK (.inl rfl))
      clear hK
      rcases h3 with ⟨-, hR⟩ | ⟨h0, -⟩ | ⟨h0, -⟩
      · replace hr : Aside0 (r = .error u) := .mk (by rw [hr.out]; rfl)
        replace HR := Aside0.mk hR
        clear hR
        have hpq : w.heap.size ≠ pb := by omega
        have k9 := blk_put (cs := #[.int .i8 t.f0, .slice none 0 0]) (blk_put HB.out 0 (.int .i8 t.f0) rfl) 1 (.slice At t.f1.length ct) rfl
        have HK9 := Aside0.mk (Go.Proofs.YtjmpejbciniceaaDoorW.PrintWords.keep_far (Go.Proofs.YtjmpejbciniceaaDoorW.PrintWords.keep_far HK.out (p := ⟨w.heap.size, 0, none⟩) (Nat.le_refl _) (.int .i8 t.f0)) (p := ⟨w.heap.size, 1, none⟩) (Nat.le_refl _) (.slice At t.f1.length ct))
        have HR9 := Aside0.mk ((HR.out.far ⟨w.heap.size, 0, none⟩ (.int .i8 t.f0) (by show g ≠ w.heap.size; omega) (by have := HR.out.low; show _ ≤ w.heap.size; omega)).far ⟨w.heap.size, 1, none⟩ (.slice At t.f1.length ct) (by show g ≠ w.heap.size; omega) (by have := HR.out.low; show _ ≤ w.heap.size; omega))
        have HM9 := Aside0.mk (Kd.R_mono (Kd.R_far (Kd.R_far HM.out (p := ⟨w.heap.size, 0, none⟩) (fun k hk => by show k ≠ w.heap.size; exact hk.2) (.int .i8 t.f0)) (p := ⟨w.heap.size, 1, none⟩) (fun k hk => by show k ≠ w.heap.size; exact hk.2) (.slice At t.f1.length ct)) (fun _ _ => trivial))
        have c0 := (blk_cell HB.out 0).trans rfl
        have c1 := (blk_cell HB.out 1).trans rfl
        have z0 := blk_frozen HB.out 0
        have z1 := blk_frozen HB.out 1
        have d0 := (blk_cell K3.out 0).trans rfl
        have d1 := (blk_cell K3.out 1).trans rfl
        simp at c0 c1 d0 d1
        have e0 := blk_cell k9 0
        have e1 := blk_cell k9 1
        simp at e0 e1
        clear k9
        go_wp2_with fail
        refine bodyPost_ret (v := .agg #[.int .i8 t.f0, .slice At t.f1.length ct]) (by simp [results, Tryd.results134, go_sem, e0, e1]) rfl ⟨HK9.out, t, .slice At t.f1.length ct, rfl, HM9.out, ?_⟩
        rw [hr.out]
        exact ⟨i', j', hu, hj, hi', HR9.out⟩
      · exact absurd h0 (by decide)
      · exact absurd h0 (by decide)
  · have hr : Aside0 (r = .error (toks xs i)) := .mk (by rw [← HE.out, parE_four, if_neg h1.out, if_neg h2.out, if_neg h3.out, if_neg fun h => hno ⟨rfl, (isO _ _).2 h⟩])
    replace HK := Aside0.mk (HK.out.trans hK (.inl rfl))
    replace HB := Aside0.mk (hK.blk HB.out (by omega) (by simp))
    replace HR := Aside0.mk hR
    clear hK hR
    clear hno
    go_wp2_with fail
    refine (rwrong_calls HR.out hn hi).mono ?_
    rintro e w5 ⟨rfl, hK, ⟨hne, -⟩ | ⟨-, hR⟩⟩
    · exact absurd rfl hne
    replace HK := Aside0.mk (HK.out.trans hK (.inl rfl))
    replace HB := Aside0.mk (hK.blk HB.out (by omega) (by simp))
    replace HR := Aside0.mk hR
    clear hK hR
    have k9 := blk_put (cs := #[.int .i8 0, .slice none 0 0]) (blk_put HB.out 0 (.int .i8 0) rfl) 1 (.slice none 0 0) rfl
    have HK9 := Aside0.mk (Go.Proofs.YtjmpejbciniceaaDoorW.PrintWords.keep_far (Go.Proofs.YtjmpejbciniceaaDoorW.PrintWords.keep_far HK.out (p := ⟨w.heap.size, 0, none⟩) (Nat.le_refl _) (.int .i8 0)) (p := ⟨w.heap.size, 1, none⟩) (Nat.le_refl _) (.slice none 0 0))
    have HR9 := Aside0.mk ((HR.out.far ⟨w.heap.size, 0, none⟩ (.int .i8 0) (by show g ≠ w.heap.size; omega) (by have := HR.out.low; show _ ≤ w.heap.size; omega)).far ⟨w.heap.size, 1, none⟩ (.slice none 0 0) (by show g ≠ w.heap.size; omega) (by have := HR.out.low; show _ ≤ w.heap.size; omega))
    have c0 := (blk_cell HB.out 0).trans rfl
    have c1 := (blk_cell HB.out 1).trans rfl
    have z0 := blk_frozen HB.out 0
    have z1 := blk_frozen HB.out 1
    simp at c0 c1
    have e0 := blk_cell k9 0
    have e1 := blk_cell k9 1
    simp at e0 e1
    clear k9
    go_wp2_with fail
    refine bodyPost_ret (v := .agg #[.int .i8 0, .slice none 0 0]) (by simp [results, Tryd.results134, go_sem, e0, e1]) rfl ⟨HK9.out, ⟨0, []⟩, .slice none 0 0, rfl, Kd.R_nil _ _ _ _ _, ?_⟩
    rw [hr.out]
    exact ⟨i, i, rfl, hi, hi, HR9.out⟩
end Go.Proofs.YtjmpejbciniceaaDoor.X
namespace Go.Proofs.YtjmpejbciniceaaDoor.X
open Go.RowKit Go.Proofs.YtjmpejbciniceaaDoorW.PrintWords Go.Proofs.YtjmpejbciniceaaDoorW.PrintLast Go.Proofs.YtjmpejbciniceaaDoorW.PrintMore
set_option linter.unusedVariables false
set_option linter.unusedSimpArgs false
set_option maxHeartbeats 800000 in
theorem OfR_calls {k : Int} {a b : S43} {Aa Ab : Option Addr} {ca cb : Nat} {w : World} {base : Nat} {ok : Nat → Prop} (ha : k43.R 43 w base ok (.slice Aa a.f1.length ca) a.f1) (hb : k43.R 43 w base ok (.slice Ab b.f1.length cb) b.f1) (hbase : base ≤ w.heap.size) (hok : ∀ q, w.heap.size ≤ q → ok q) :
    Calls Tryd.prog 30 #[.int .i8 k, .agg #[.int .i8 a.f0, .slice Aa a.f1.length ca], .agg #[.int .i8 b.f0, .slice Ab b.f1.length cb]] w fun e w' => ∃ A c, e = .returned (.agg #[.int .i8 k, .slice A 2 c]) ∧ k43.R 43 w' base ok (.slice A 2 c) [a, b] ∧ Below w.heap.size w w' := by
  have hB3 : Below w.heap.size w (((w.alloc (.cells #[.int .i8 a.f0, .slice Aa a.f1.length ca] 43)).alloc (.cells #[.int .i8 b.f0, .slice Ab b.f1.length cb] 43)).alloc (.cells #[.int .i8 k, .slice (some ⟨w.heap.size + 1 + 1 + 1, 0, none⟩) 2 2] 43)) :=
    (((Below.refl _ _).alloc (Nat.le_refl _) _).alloc (by simp) _).alloc (by simp; omega) _
  have hB4 := hB3.alloc hB3.size (.cells #[.int .i8 a.f0, .slice Aa a.f1.length ca, .int .i8 b.f0, .slice Ab b.f1.length cb] 43)
  have hsz : (((w.alloc (.cells #[.int .i8 a.f0, .slice Aa a.f1.length ca] 43)).alloc (.cells #[.int .i8 b.f0, .slice Ab b.f1.length cb] 43)).alloc (.cells #[.int .i8 k, .slice (some ⟨w.heap.size + 1 + 1 + 1, 0, none⟩) 2 2] 43)).heap.size = w.heap.size + 1 + 1 + 1 := by simp
  have hT := R_pair (base := base) (ok := ok) (a := a) (b := b) (by have := hB3.size; omega) (hok _ (by have := hB3.size; omega)) (Kd.R_below ha hB3) (Kd.R_below hb hB3)
  rw [hsz] at hT
  have HT := Aside0.mk hT
  have HB4 := Aside0.mk hB4
  clear hT hB4 hB3 hsz ha hb
  go_enter Tryd.func30, Tryd.ntmps30
  go_wp2
  exact bodyPost_ret (v := .agg #[.int .i8 k, .slice (some ⟨w.heap.size + 1 + 1 + 1, 0, none⟩) 2 2]) (by simp [results, Tryd.results30, go_sem]) rfl ⟨_, _, rfl, HT.out, HB4.out⟩
set_option maxRecDepth 100000 in
set_option maxHeartbeats 6400000 in
theorem rprod_calls {w0 : World} {g : Nat} {A : Option Addr} {c : Nat} {xs : List S37} {i : Nat} {w : World} (h : RR w0 g A c xs i 0 0 ⟨#[]⟩ w) (hn : xs.length ≤ 200000) (hi : i ≤ xs.length) (f : Nat) (hf : 6 * (xs.length - i) + 3 ≤ f + 1) (IH : Aside0 (∀ f', f' ≤ f → ∀ j w, j ≤ xs.length → RR w0 g A c xs j 0 0 ⟨#[]⟩ w → 6 * (xs.length - j) + 2 ≤ f' → Calls Tryd.prog 134 #[.pointer (some ⟨g, 0, none⟩)] w (RPR w0 g A c xs j w (parE f' 4 (toks xs j))))) (r : Except (List Tk) (S43 × List Tk)) (HE : Aside0 (parE (f + 1) 3 (toks xs i) = r)) :
    Calls Tryd.prog 116 #[.pointer (some ⟨g, 0, none⟩)] w (RPR w0 g A c xs i w r) := by
  have hgl := blk_lt h.blk
  have hB := below1 w #[.int .i8 0, .slice none 0 0] 43
  have HR := Aside0.mk (h.after hB)
  have HK := Aside0.mk (KeepBut.of_below hB g none)
  have HB := Aside0.mk (heap_alloc_new w (.cells #[.int .i8 0, .slice none 0 0] 43))
  clear h hB
  go_enter Tryd.func116, Tryd.ntmps116
  go_wp2_with fail
  generalize w.alloc (.cells #[.int .i8 0, .slice none 0 0] 43) = wa at *
  refine (IH.out f (Nat.le_refl _) i _ hi HR.out (by omega)).mono ?_
  rintro e w5 ⟨hK, a, v, rfl, hm, hp⟩
  have hwl := hK.1
  have hwz : w.heap.size < wa.heap.size := blk_lt HB.out
  have hg4 : g < wa.heap.size := blk_lt HR.out.blk
  obtain ⟨Aa, ca, rfl⟩ := Kd.R_slice hm
  have HM := Aside0.mk (R_apart3 (q := w5.heap.size) hm (by omega : w.heap.size ≤ wa.heap.size) hg4 hwz (.inr (Nat.le_refl _)))
  replace HK := Aside0.mk (HK.out.trans hK (.inl rfl))
  replace HB := Aside0.mk (hK.blk HB.out (by omega) (by simp))
  have HP : Aside0 (∃ j, j ≤ xs.length ∧ ((i ≤ j ∧ RR w0 g A c xs j 0 0 ⟨#[]⟩ w5 ∧ lopE f 3 a (toks xs j) = r) ∨ (∃ j', r = .error (toks xs j') ∧ j' ≤ xs.length ∧ RR w0 g A c xs j 40 (wrAt xs j') (wrWd xs j') w5))) := .mk (by
    have he := HE.out
    rw [parE_left f 3 (by simp)] at he
    revert hp he
    cases parE f 4 (toks xs i) with
    | ok y =>
      obtain ⟨b, u⟩ := y
      rintro ⟨hb, j, hR, hij, hj, hu⟩ he
      replace hb : a = b := hb
      replace hu : u = toks xs j := hu
      subst hb hu
      exact ⟨j, hj, .inl ⟨hij, hR, he⟩⟩
    | error u =>
      rintro ⟨j, j', hu, hj', hj, hR⟩ he
      subst hu
      exact ⟨j, hj, .inr ⟨j', he.symm, hj', hR⟩⟩)
  clear hK hm hp HR HE
  have hB := below1 w5 #[.int .i8 a.f0, .slice Aa a.f1.length ca] 43
  have HB3 := Aside0.mk (heap_alloc_new w5 (.cells #[.int .i8 a.f0, .slice Aa a.f1.length ca] 43))
  go_wp2_with fail
  have hws : w.heap.size < w5.heap.size := by omega
  have hgp : g < w5.heap.size := by omega
  replace HM := Aside0.mk (Kd.R_below HM.out hB)
  replace HK := Aside0.mk (HK.out.trans (KeepBut.of_below hB g none) (.inl rfl))
  replace HB := Aside0.mk (blk_below HB.out hB)
  have HP2 : Aside0 (∃ j, j ≤ xs.length ∧ ((i ≤ j ∧ RR w0 g A c xs j 0 0 ⟨#[]⟩ (w5.alloc (.cells #[.int .i8 a.f0, .slice Aa a.f1.length ca] 43)) ∧ lopE f 3 a (toks xs j) = r) ∨ (∃ j', r = .error (toks xs j') ∧ j' ≤ xs.length ∧ RR w0 g A c xs j 40 (wrAt xs j') (wrWd xs j') (w5.alloc (.cells #[.int .i8 a.f0, .slice Aa a.f1.length ca] 43))))) := .mk (by
    obtain ⟨j, hj, ⟨h1, h2, h3⟩ | ⟨j', h1, h2, h3⟩⟩ := HP.out
    · exact ⟨j, hj, .inl ⟨h1, h2.after hB, h3⟩⟩
    · exact ⟨j, hj, .inr ⟨j', h1, h2, h3.after hB⟩⟩)
  clear hB HP hwl
  generalize w5.alloc (.cells #[.int .i8 a.f0, .slice Aa a.f1.length ca] 43) = wb at *
  generalize w5.heap.size = pb at *
  go_loopg [] f (fun k wr => ∃ j a Aa ca, j ≤ xs.length ∧ KeepBut w wr g none ∧ wr.heap[w.heap.size]? = some (.cells #[.int .i8 0, .slice none 0 0] 43 (0, 0)) ∧ wr.heap[pb]? = some (.cells #[.int .i8 a.f0, .slice Aa a.f1.length ca] 43 (0, 0)) ∧ k43.R 43 wr w.heap.size (fun b => b ≠ g ∧ b ≠ w.heap.size ∧ b ≠ pb) (.slice Aa a.f1.length ca) a.f1 ∧ ((i ≤ j ∧ RR w0 g A c xs j 0 0 ⟨#[]⟩ wr ∧ lopE k 3 a (toks xs j) = r ∧ 6 * (xs.length - j) + 1 ≤ k ∧ k ≤ f) ∨ (∃ j', r = .error (toks xs j') ∧ j' ≤ xs.length ∧ RR w0 g A c xs j 40 (wrAt xs j') (wrWd xs j') wr)))
  case atStart =>
    obtain ⟨j, hj, ⟨h1, h2, h3⟩ | ⟨j', h1, h2, h3⟩⟩ := HP2.out
    · exact ⟨j, a, Aa, ca, hj, HK.out, HB.out, HB3.out, HM.out, .inl ⟨h1, h2, h3, by omega, Nat.le_refl _⟩⟩
    · exact ⟨j, a, Aa, ca, hj, HK.out, HB.out, HB3.out, HM.out, .inr ⟨j', h1, h2, h3⟩⟩
  case round =>
    clear HM HK HB HB3 HP2
    obtain ⟨j, a, Aa, ca, hj, hK, hB, hB3, hM, hrun | ⟨j', hr, hj', hR⟩⟩ := hrel
    · obtain ⟨hij, hR, hP, hk1, hkf⟩ := hrun
      obtain ⟨m, rfl⟩ : ∃ m, gk = m + 1 := ⟨gk - 1, by omega⟩
      have HK := Aside0.mk hK
      have HB := Aside0.mk hB
      have HB3 := Aside0.mk hB3
      have HM := Aside0.mk hM
      have HP := Aside0.mk hP
      have HR := Aside0.mk hR
      have hpl := blk_lt hB3
      clear hK hB hB3 hM hP hR
      go_wp2_with fail
      refine (psign_calls HR.out hn hj _).mono ?_
      rintro e v1 ⟨hK, ⟨-, hy, rfl, hR⟩ | ⟨hno, rfl, hR⟩⟩
      · have hjt := nextIs_lt hy
        replace HP := Aside0.mk ((lopE_yes m 3 a _ ((isM _ _).1 hy)).symm.trans HP.out)
        rw [toks_tail] at HP
        replace HM := Aside0.mk (Kd.R_keep HM.out hK (fun k hk => hk.1))
        replace HB3 := Aside0.mk (hK.blk HB3.out (by omega) (by simp))
        replace HB := Aside0.mk (hK.blk HB.out (by omega) (by simp))
        replace HK := Aside0.mk (HK.out.trans hK (.inl rfl))
        clear hK
        replace HR := Aside0.mk hR
        clear hy hR
        go_wp2_with fail
        have hpl1 := blk_lt HB3.out
        have hgl1 := blk_lt HR.out.blk
        refine (IH.out m (by omega) (j + 1) _ (by omega) HR.out (by omega)).mono ?_
        rintro e v2 ⟨hK, b, vb, rfl, hm, hp⟩
        obtain ⟨Ab, cb, rfl⟩ := Kd.R_slice hm
        have hbz : w.heap.size < v1.heap.size := by have := blk_lt HB.out; omega
        have HMB := Aside0.mk (R_apart3 (base := w.heap.size) (q := pb) hm (by omega) hgl1 hbz (.inl hpl1))
        have hv12 := hK.1
        replace HM := Aside0.mk (Kd.R_keep HM.out hK (fun k hk => hk.1))
        replace HB3 := Aside0.mk (hK.blk HB3.out (by omega) (by simp))
        replace HB := Aside0.mk (hK.blk HB.out (by omega) (by simp))
        replace HK := Aside0.mk (HK.out.trans hK (.inl rfl))
        clear hK
        have HP3 : Aside0 (∃ j2, j2 ≤ xs.length ∧ ((j + 1 ≤ j2 ∧ RR w0 g A c xs j2 0 0 ⟨#[]⟩ v2 ∧ lopE m 3 ⟨4, [a, b]⟩ (toks xs j2) = r) ∨ (∃ j', r = .error (toks xs j') ∧ j' ≤ xs.length ∧ RR w0 g A c xs j2 40 (wrAt xs j') (wrWd xs j') v2))) := .mk (by
          have he := HP.out
          revert hp he
          show (match parE m 4 (toks xs (j + 1)) with | .ok x => _ | .error u => _) → nextE m 3 a (parE m 4 (toks xs (j + 1))) = r → _
          cases parE m 4 (toks xs (j + 1)) with
          | ok y =>
            obtain ⟨b', u⟩ := y
            rintro ⟨hb, j2, hR, hij2, hj2, hu⟩ he
            replace hb : b = b' := hb
            replace hu : u = toks xs j2 := hu
            subst hb hu
            exact ⟨j2, hj2, .inl ⟨hij2, hR, he⟩⟩
          | error u =>
            rintro ⟨j2, j', hu, hj', hj2, hR⟩ he
            subst hu
            exact ⟨j2, hj2, .inr ⟨j', he.symm, hj', hR⟩⟩)
        clear hm hp HR HP
        have hB := below1 v2 #[.int .i8 b.f0, .slice Ab b.f1.length cb] 43
        have K4 := Aside0.mk (heap_alloc_new v2 (.cells #[.int .i8 b.f0, .slice Ab b.f1.length cb] 43))
        have d0 := (blk_cell (blk_below HB3.out hB) 0).trans rfl
        have d1 := (blk_cell (blk_below HB3.out hB) 1).trans rfl
        simp at d0 d1
        go_wp2_with fail
        clear d0 d1
        replace HM := Aside0.mk (Kd.R_below HM.out hB)
        replace HMB := Aside0.mk (Kd.R_below HMB.out hB)
        replace HK := Aside0.mk (HK.out.trans (KeepBut.of_below hB g none) (.inl rfl))
        replace HB := Aside0.mk (blk_below HB.out hB)
        replace HB3 := Aside0.mk (blk_below HB3.out hB)
        have HA := Aside0.mk (fun (i : Nat) (e p : Int) (s : ByteArray) (h : RR w0 g A c xs i e p s v2) => h.after hB)
        clear hB K4
        generalize v2.alloc (.cells #[.int .i8 b.f0, .slice Ab b.f1.length cb] 43) = v3 at *
        have hpl3 := blk_lt HB3.out
        refine (OfR_calls HM.out HMB.out (by have := HK.out.1; omega) (fun q hq => ⟨by omega, by have := blk_lt HB.out; omega, by omega⟩)).mono ?_
        rintro e v4 ⟨An, cn, rfl, hm, hB⟩
        have HN := Aside0.mk hm
        replace HK := Aside0.mk (HK.out.trans (KeepBut.of_below hB g none) (.inl rfl))
        replace HB := Aside0.mk (blk_below HB.out hB)
        replace HB3 := Aside0.mk (blk_below HB3.out hB)
        have HA2 := Aside0.mk (fun (i : Nat) (e p : Int) (s : ByteArray) (h : RR w0 g A c xs i e p s v3) => h.after hB)
        clear hm hB HM HMB
        have c0 := (blk_cell HB3.out 0).trans rfl
        have c1 := (blk_cell HB3.out 1).trans rfl
        have z0 := blk_frozen HB3.out 0
        have z1 := blk_frozen HB3.out 1
        simp at c0 c1
        go_wp2_with fail
        clear c0 c1 z0 z1
        go_roundg m
        case rel =>
          have q1 := keep_far (keep_far HK.out ⟨pb, 0, none⟩ (.int .i8 4) (by show w.heap.size ≤ pb; omega)) ⟨pb, 1, none⟩ (.slice An 2 cn) (by show w.heap.size ≤ pb; omega)
          have q2 := blk_put_far (p := ⟨pb, 1, none⟩) (u := .slice An 2 cn) (blk_put_far (p := ⟨pb, 0, none⟩) (u := .int .i8 4) HB.out (by show w.heap.size ≠ pb; omega)) (by show w.heap.size ≠ pb; omega)
          have q3 := blk_put (cs := #[.int .i8 4, .slice Aa a.f1.length ca]) (blk_put HB3.out 0 (.int .i8 4) rfl) 1 (.slice An 2 cn) rfl
          have q4 := Kd.R_far (Kd.R_far HN.out (p := ⟨pb, 0, none⟩) (fun b hk => by show b ≠ pb; exact hk.2.2) (.int .i8 4)) (p := ⟨pb, 1, none⟩) (fun b hk => by show b ≠ pb; exact hk.2.2) (.slice An 2 cn)
          have q5 : ∀ (i : Nat) (e p : Int) (s : ByteArray), RR w0 g A c xs i e p s v2 → RR w0 g A c xs i e p s ((v4.setCell ⟨pb, 0, none⟩ (.int .i8 4)).setCell ⟨pb, 1, none⟩ (.slice An 2 cn)) := fun i e p s h =>
            have h2 := HA2.out _ _ _ _ (HA.out _ _ _ _ h)
            (h2.far ⟨pb, 0, none⟩ (.int .i8 4) (by show g ≠ pb; omega) (by have := h2.low; show _ ≤ pb; omega)).far ⟨pb, 1, none⟩ (.slice An 2 cn) (by show g ≠ pb; omega) (by have := h2.low; show _ ≤ pb; omega)
          obtain ⟨j2, hj2, ⟨h1, h2, h3⟩ | ⟨j', h1, h2, h3⟩⟩ := HP3.out
          · exact ⟨j2, ⟨4, [a, b]⟩, An, cn, hj2, q1, q2, q3, q4, .inl ⟨by omega, q5 _ _ _ _ h2, h3, by omega, by omega⟩⟩
          · exact ⟨j2, ⟨4, [a, b]⟩, An, cn, hj2, q1, q2, q3, q4, .inr ⟨j', h1, h2, q5 _ _ _ _ h3⟩⟩
        case measure => omega
      · have hr : Aside0 (r = .ok (a, toks xs j)) := .mk (by rw [← HP.out, lopE_no m 3 a _ fun h => hno ⟨rfl, (isM _ _).2 h⟩])
        replace HM := Aside0.mk (Kd.R_keep HM.out hK (fun k hk => hk.1))
        replace HB3 := Aside0.mk (hK.blk HB3.out (by omega) (by simp))
        replace HB := Aside0.mk (hK.blk HB.out (by omega) (by simp))
        replace HK := Aside0.mk (HK.out.trans hK (.inl rfl))
        clear hK
        replace HR := Aside0.mk hR
        clear hno hR
        have k9 := blk_put (cs := #[.int .i8 a.f0, .slice none 0 0]) (blk_put HB.out 0 (.int .i8 a.f0) rfl) 1 (.slice Aa a.f1.length ca) rfl
        have HK9 := Aside0.mk (keep_far (keep_far HK.out ⟨w.heap.size, 0, none⟩ (.int .i8 a.f0) (Nat.le_refl _)) ⟨w.heap.size, 1, none⟩ (.slice Aa a.f1.length ca) (Nat.le_refl _))
        have HR9 := Aside0.mk ((HR.out.far ⟨w.heap.size, 0, none⟩ (.int .i8 a.f0) (by show g ≠ w.heap.size; omega) (by have := HR.out.low; show _ ≤ w.heap.size; omega)).far ⟨w.heap.size, 1, none⟩ (.slice Aa a.f1.length ca) (by show g ≠ w.heap.size; omega) (by have := HR.out.low; show _ ≤ w.heap.size; omega))
        have HM9 := Aside0.mk (Kd.R_mono (Kd.R_far (Kd.R_far HM.out (p := ⟨w.heap.size, 0, none⟩) (fun k hk => by show k ≠ w.heap.size; exact hk.2.1) (.int .i8 a.f0)) (p := ⟨w.heap.size, 1, none⟩) (fun k hk => by show k ≠ w.heap.size; exact hk.2.1) (.slice Aa a.f1.length ca)) (fun _ _ => trivial))
        have c0 := (blk_cell HB.out 0).trans rfl
        have c1 := (blk_cell HB.out 1).trans rfl
        have z0 := blk_frozen HB.out 0
        have z1 := blk_frozen HB.out 1
        have d0 := (blk_cell HB3.out 0).trans rfl
        have d1 := (blk_cell HB3.out 1).trans rfl
        simp at c0 c1 d0 d1
        have e0 := blk_cell k9 0
        have e1 := blk_cell k9 1
        simp at e0 e1
        clear k9
        go_wp2_with fail
        refine bodyPost_ret (v := .agg #[.int .i8 a.f0, .slice Aa a.f1.length ca]) (by simp [results, Tryd.results116, go_sem, e0, e1]) rfl ⟨HK9.out, a, .slice Aa a.f1.length ca, rfl, HM9.out, ?_⟩
        rw [hr.out]
        exact ⟨rfl, j, HR9.out, hij, hj, rfl⟩
    · have HK := Aside0.mk hK
      have HB := Aside0.mk hB
      have HB3 := Aside0.mk hB3
      have HM := Aside0.mk hM
      have HR := Aside0.mk hR
      have hr := Aside0.mk hr
      have hpl := blk_lt hB3
      clear hK hB hB3 hM hR
      go_wp2_with fail
      refine (psign_calls HR.out hn hj _).mono ?_
      rintro e v1 ⟨hK, ⟨h0, -⟩ | ⟨-, rfl, hR⟩⟩
      · exact absurd h0 (by decide)
      replace HM := Aside0.mk (Kd.R_keep HM.out hK (fun k hk => hk.1))
      replace HB3 := Aside0.mk (hK.blk HB3.out (by omega) (by simp))
      replace HB := Aside0.mk (hK.blk HB.out (by omega) (by simp))
      replace HK := Aside0.mk (HK.out.trans hK (.inl rfl))
      clear hK
      replace HR := Aside0.mk hR
      clear hR
      have k9 := blk_put (cs := #[.int .i8 a.f0, .slice none 0 0]) (blk_put HB.out 0 (.int .i8 a.f0) rfl) 1 (.slice Aa a.f1.length ca) rfl
      have HK9 := Aside0.mk (keep_far (keep_far HK.out ⟨w.heap.size, 0, none⟩ (.int .i8 a.f0) (Nat.le_refl _)) ⟨w.heap.size, 1, none⟩ (.slice Aa a.f1.length ca) (Nat.le_refl _))
      have HR9 := Aside0.mk ((HR.out.far ⟨w.heap.size, 0, none⟩ (.int .i8 a.f0) (by show g ≠ w.heap.size; omega) (by have := HR.out.low; show _ ≤ w.heap.size; omega)).far ⟨w.heap.size, 1, none⟩ (.slice Aa a.f1.length ca) (by show g ≠ w.heap.size; omega) (by have := HR.out.low; show _ ≤ w.heap.size; omega))
      have HM9 := Aside0.mk (Kd.R_mono (Kd.R_far (Kd.R_far HM.out (p := ⟨w.heap.size, 0, none⟩) (fun k hk => by show k ≠ w.heap.size; exact hk.2.1) (.int .i8 a.f0)) (p := ⟨w.heap.size, 1, none⟩) (fun k hk => by show k ≠ w.heap.size; exact hk.2.1) (.slice Aa a.f1.length ca)) (fun _ _ => trivial))
      have c0 := (blk_cell HB.out 0).trans rfl
      have c1 := (blk_cell HB.out 1).trans rfl
      have z0 := blk_frozen HB.out 0
      have z1 := blk_frozen HB.out 1
      have d0 := (blk_cell HB3.out 0).trans rfl
      have d1 := (blk_cell HB3.out 1).trans rfl
      simp at c0 c1 d0 d1
      have e0 := blk_cell k9 0
      have e1 := blk_cell k9 1
      simp at e0 e1
      clear k9
      go_wp2_with fail
      refine bodyPost_ret (v := .agg #[.int .i8 a.f0, .slice Aa a.f1.length ca]) (by simp [results, Tryd.results116, go_sem, e0, e1]) rfl ⟨HK9.out, a, .slice Aa a.f1.length ca, rfl, HM9.out, ?_⟩
      rw [hr.out]
      exact ⟨j, j', rfl, hj', hj, HR9.out⟩
set_option maxRecDepth 100000 in
set_option maxHeartbeats 6400000 in
theorem rsum_calls {w0 : World} {g : Nat} {A : Option Addr} {c : Nat} {xs : List S37} {i : Nat} {w : World} (h : RR w0 g A c xs i 0 0 ⟨#[]⟩ w) (hn : xs.length ≤ 200000) (hi : i ≤ xs.length) (f : Nat) (hf : 6 * (xs.length - i) + 4 ≤ f + 1) (IH : Aside0 (∀ f', f' ≤ f → ∀ j w, j ≤ xs.length → RR w0 g A c xs j 0 0 ⟨#[]⟩ w → 6 * (xs.length - j) + 3 ≤ f' → Calls Tryd.prog 116 #[.pointer (some ⟨g, 0, none⟩)] w (RPR w0 g A c xs j w (parE f' 3 (toks xs j))))) (r : Except (List Tk) (S43 × List Tk)) (HE : Aside0 (parE (f + 1) 2 (toks xs i) = r)) :
    Calls Tryd.prog 84 #[.pointer (some ⟨g, 0, none⟩)] w (RPR w0 g A c xs i w r) := by
  have hgl := blk_lt h.blk
  have hB := below1 w #[.int .i8 0, .slice none 0 0] 43
  have HR := Aside0.mk (h.after hB)
  have HK := Aside0.mk (KeepBut.of_below hB g none)
  have HB := Aside0.mk (heap_alloc_new w (.cells #[.int .i8 0, .slice none 0 0] 43))
  clear h hB
  go_enter Tryd.func84, Tryd.ntmps84
  go_wp2_with fail
  generalize w.alloc (.cells #[.int .i8 0, .slice none 0 0] 43) = wa at *
  refine (IH.out f (Nat.le_refl _) i _ hi HR.out (by omega)).mono ?_
  rintro e w5 ⟨hK, a, v, rfl, hm, hp⟩
  have hwl := hK.1
  have hwz : w.heap.size < wa.heap.size := blk_lt HB.out
  have hg4 : g < wa.heap.size := blk_lt HR.out.blk
  obtain ⟨Aa, ca, rfl⟩ := Kd.R_slice hm
  have HM := Aside0.mk (R_apart3 (q := w5.heap.size) hm (by omega : w.heap.size ≤ wa.heap.size) hg4 hwz (.inr (Nat.le_refl _)))
  replace HK := Aside0.mk (HK.out.trans hK (.inl rfl))
  replace HB := Aside0.mk (hK.blk HB.out (by omega) (by simp))
  have HP : Aside0 (∃ j, j ≤ xs.length ∧ ((i ≤ j ∧ RR w0 g A c xs j 0 0 ⟨#[]⟩ w5 ∧ lopE f 2 a (toks xs j) = r) ∨ (∃ j', r = .error (toks xs j') ∧ j' ≤ xs.length ∧ RR w0 g A c xs j 40 (wrAt xs j') (wrWd xs j') w5))) := .mk (by
    have he := HE.out
    rw [parE_left f 2 (by simp)] at he
    revert hp he
    cases parE f 3 (toks xs i) with
    | ok y =>
      obtain ⟨b, u⟩ := y
      rintro ⟨hb, j, hR, hij, hj, hu⟩ he
      replace hb : a = b := hb
      replace hu : u = toks xs j := hu
      subst hb hu
      exact ⟨j, hj, .inl ⟨hij, hR, he⟩⟩
    | error u =>
      rintro ⟨j, j', hu, hj', hj, hR⟩ he
      subst hu
      exact ⟨j, hj, .inr ⟨j', he.symm, hj', hR⟩⟩)
  clear hK hm hp HR HE
  have hB := below1 w5 #[.int .i8 a.f0, .slice Aa a.f1.length ca] 43
  have HB3 := Aside0.mk (heap_alloc_new w5 (.cells #[.int .i8 a.f0, .slice Aa a.f1.length ca] 43))
  go_wp2_with fail
  have hws : w.heap.size < w5.heap.size := by omega
  have hgp : g < w5.heap.size := by omega
  replace HM := Aside0.mk (Kd.R_below HM.out hB)
  replace HK := Aside0.mk (HK.out.trans (KeepBut.of_below hB g none) (.inl rfl))
  replace HB := Aside0.mk (blk_below HB.out hB)
  have HP2 : Aside0 (∃ j, j ≤ xs.length ∧ ((i ≤ j ∧ RR w0 g A c xs j 0 0 ⟨#[]⟩ (w5.alloc (.cells #[.int .i8 a.f0, .slice Aa a.f1.length ca] 43)) ∧ lopE f 2 a (toks xs j) = r) ∨ (∃ j', r = .error (toks xs j') ∧ j' ≤ xs.length ∧ RR w0 g A c xs j 40 (wrAt xs j') (wrWd xs j') (w5.alloc (.cells #[.int .i8 a.f0, .slice Aa a.f1.length ca] 43))))) := .mk (by
    obtain ⟨j, hj, ⟨h1, h2, h3⟩ | ⟨j', h1, h2, h3⟩⟩ := HP.out
    · exact ⟨j, hj, .inl ⟨h1, h2.after hB, h3⟩⟩
    · exact ⟨j, hj, .inr ⟨j', h1, h2, h3.after hB⟩⟩)
  clear hB HP hwl
  generalize w5.alloc (.cells #[.int .i8 a.f0, .slice Aa a.f1.length ca] 43) = wb at *
  generalize w5.heap.size = pb at *
  go_loopg [] f (fun k wr => ∃ j a Aa ca, j ≤ xs.length ∧ KeepBut w wr g none ∧ wr.heap[w.heap.size]? = some (.cells #[.int .i8 0, .slice none 0 0] 43 (0, 0)) ∧ wr.heap[pb]? = some (.cells #[.int .i8 a.f0, .slice Aa a.f1.length ca] 43 (0, 0)) ∧ k43.R 43 wr w.heap.size (fun b => b ≠ g ∧ b ≠ w.heap.size ∧ b ≠ pb) (.slice Aa a.f1.length ca) a.f1 ∧ ((i ≤ j ∧ RR w0 g A c xs j 0 0 ⟨#[]⟩ wr ∧ lopE k 2 a (toks xs j) = r ∧ 6 * (xs.length - j) + 1 ≤ k ∧ k ≤ f) ∨ (∃ j', r = .error (toks xs j') ∧ j' ≤ xs.length ∧ RR w0 g A c xs j 40 (wrAt xs j') (wrWd xs j') wr)))
  case atStart =>
    obtain ⟨j, hj, ⟨h1, h2, h3⟩ | ⟨j', h1, h2, h3⟩⟩ := HP2.out
    · exact ⟨j, a, Aa, ca, hj, HK.out, HB.out, HB3.out, HM.out, .inl ⟨h1, h2, h3, by omega, Nat.le_refl _⟩⟩
    · exact ⟨j, a, Aa, ca, hj, HK.out, HB.out, HB3.out, HM.out, .inr ⟨j', h1, h2, h3⟩⟩
  case round =>
    clear HM HK HB HB3 HP2
    obtain ⟨j, a, Aa, ca, hj, hK, hB, hB3, hM, hrun | ⟨j', hr, hj', hR⟩⟩ := hrel
    · obtain ⟨hij, hR, hP, hk1, hkf⟩ := hrun
      obtain ⟨m, rfl⟩ : ∃ m, gk = m + 1 := ⟨gk - 1, by omega⟩
      have HK := Aside0.mk hK
      have HB := Aside0.mk hB
      have HB3 := Aside0.mk hB3
      have HM := Aside0.mk hM
      have HP := Aside0.mk hP
      have HR := Aside0.mk hR
      have hpl := blk_lt hB3
      clear hK hB hB3 hM hP hR
      go_wp2_with fail
      refine (psign_calls HR.out hn hj _).mono ?_
      rintro e v1 ⟨hK, ⟨-, hy, rfl, hR⟩ | ⟨hno, rfl, hR⟩⟩
      · have hjt := nextIs_lt hy
        replace HP := Aside0.mk ((lopE_yes m 2 a _ ((isP _ _).1 hy)).symm.trans HP.out)
        rw [toks_tail] at HP
        replace HM := Aside0.mk (Kd.R_keep HM.out hK (fun k hk => hk.1))
        replace HB3 := Aside0.mk (hK.blk HB3.out (by omega) (by simp))
        replace HB := Aside0.mk (hK.blk HB.out (by omega) (by simp))
        replace HK := Aside0.mk (HK.out.trans hK (.inl rfl))
        clear hK
        replace HR := Aside0.mk hR
        clear hy hR
        go_wp2_with fail
        have hpl1 := blk_lt HB3.out
        have hgl1 := blk_lt HR.out.blk
        refine (IH.out m (by omega) (j + 1) _ (by omega) HR.out (by omega)).mono ?_
        rintro e v2 ⟨hK, b, vb, rfl, hm, hp⟩
        obtain ⟨Ab, cb, rfl⟩ := Kd.R_slice hm
        have hbz : w.heap.size < v1.heap.size := by have := blk_lt HB.out; omega
        have HMB := Aside0.mk (R_apart3 (base := w.heap.size) (q := pb) hm (by omega) hgl1 hbz (.inl hpl1))
        have hv12 := hK.1
        replace HM := Aside0.mk (Kd.R_keep HM.out hK (fun k hk => hk.1))
        replace HB3 := Aside0.mk (hK.blk HB3.out (by omega) (by simp))
        replace HB := Aside0.mk (hK.blk HB.out (by omega) (by simp))
        replace HK := Aside0.mk (HK.out.trans hK (.inl rfl))
        clear hK
        have HP3 : Aside0 (∃ j2, j2 ≤ xs.length ∧ ((j + 1 ≤ j2 ∧ RR w0 g A c xs j2 0 0 ⟨#[]⟩ v2 ∧ lopE m 2 ⟨5, [a, b]⟩ (toks xs j2) = r) ∨ (∃ j', r = .error (toks xs j') ∧ j' ≤ xs.length ∧ RR w0 g A c xs j2 40 (wrAt xs j') (wrWd xs j') v2))) := .mk (by
          have he := HP.out
          revert hp he
          show (match parE m 3 (toks xs (j + 1)) with | .ok x => _ | .error u => _) → nextE m 2 a (parE m 3 (toks xs (j + 1))) = r → _
          cases parE m 3 (toks xs (j + 1)) with
          | ok y =>
            obtain ⟨b', u⟩ := y
            rintro ⟨hb, j2, hR, hij2, hj2, hu⟩ he
            replace hb : b = b' := hb
            replace hu : u = toks xs j2 := hu
            subst hb hu
            exact ⟨j2, hj2, .inl ⟨hij2, hR, he⟩⟩
          | error u =>
            rintro ⟨j2, j', hu, hj', hj2, hR⟩ he
            subst hu
            exact ⟨j2, hj2, .inr ⟨j', he.symm, hj', hR⟩⟩)
        clear hm hp HR HP
        have hB := below1 v2 #[.int .i8 b.f0, .slice Ab b.f1.length cb] 43
        have K4 := Aside0.mk (heap_alloc_new v2 (.cells #[.int .i8 b.f0, .slice Ab b.f1.length cb] 43))
        have d0 := (blk_cell (blk_below HB3.out hB) 0).trans rfl
        have d1 := (blk_cell (blk_below HB3.out hB) 1).trans rfl
        simp at d0 d1
        go_wp2_with fail
        clear d0 d1
        replace HM := Aside0.mk (Kd.R_below HM.out hB)
        replace HMB := Aside0.mk (Kd.R_below HMB.out hB)
        replace HK := Aside0.mk (HK.out.trans (KeepBut.of_below hB g none) (.inl rfl))
        replace HB := Aside0.mk (blk_below HB.out hB)
        replace HB3 := Aside0.mk (blk_below HB3.out hB)
        have HA := Aside0.mk (fun (i : Nat) (e p : Int) (s : ByteArray) (h : RR w0 g A c xs i e p s v2) => h.after hB)
        clear hB K4
        generalize v2.alloc (.cells #[.int .i8 b.f0, .slice Ab b.f1.length cb] 43) = v3 at *
        have hpl3 := blk_lt HB3.out
        refine (OfR_calls HM.out HMB.out (by have := HK.out.1; omega) (fun q hq => ⟨by omega, by have := blk_lt HB.out; omega, by omega⟩)).mono ?_
        rintro e v4 ⟨An, cn, rfl, hm, hB⟩
        have HN := Aside0.mk hm
        replace HK := Aside0.mk (HK.out.trans (KeepBut.of_below hB g none) (.inl rfl))
        replace HB := Aside0.mk (blk_below HB.out hB)
        replace HB3 := Aside0.mk (blk_below HB3.out hB)
        have HA2 := Aside0.mk (fun (i : Nat) (e p : Int) (s : ByteArray) (h : RR w0 g A c xs i e p s v3) => h.after hB)
        clear hm hB HM HMB
        have c0 := (blk_cell HB3.out 0).trans rfl
        have c1 := (blk_cell HB3.out 1).trans rfl
        have z0 := blk_frozen HB3.out 0
        have z1 := blk_frozen HB3.out 1
        simp at c0 c1
        go_wp2_with fail
        clear c0 c1 z0 z1
        go_roundg m
        case rel =>
          have q1 := keep_far (keep_far HK.out ⟨pb, 0, none⟩ (.int .i8 5) (by show w.heap.size ≤ pb; omega)) ⟨pb, 1, none⟩ (.slice An 2 cn) (by show w.heap.size ≤ pb; omega)
          have q2 := blk_put_far (p := ⟨pb, 1, none⟩) (u := .slice An 2 cn) (blk_put_far (p := ⟨pb, 0, none⟩) (u := .int .i8 5) HB.out (by show w.heap.size ≠ pb; omega)) (by show w.heap.size ≠ pb; omega)
          have q3 := blk_put (cs := #[.int .i8 5, .slice Aa a.f1.length ca]) (blk_put HB3.out 0 (.int .i8 5) rfl) 1 (.slice An 2 cn) rfl
          have q4 := Kd.R_far (Kd.R_far HN.out (p := ⟨pb, 0, none⟩) (fun b hk => by show b ≠ pb; exact hk.2.2) (.int .i8 5)) (p := ⟨pb, 1, none⟩) (fun b hk => by show b ≠ pb; exact hk.2.2) (.slice An 2 cn)
          have q5 : ∀ (i : Nat) (e p : Int) (s : ByteArray), RR w0 g A c xs i e p s v2 → RR w0 g A c xs i e p s ((v4.setCell ⟨pb, 0, none⟩ (.int .i8 5)).setCell ⟨pb, 1, none⟩ (.slice An 2 cn)) := fun i e p s h =>
            have h2 := HA2.out _ _ _ _ (HA.out _ _ _ _ h)
            (h2.far ⟨pb, 0, none⟩ (.int .i8 5) (by show g ≠ pb; omega) (by have := h2.low; show _ ≤ pb; omega)).far ⟨pb, 1, none⟩ (.slice An 2 cn) (by show g ≠ pb; omega) (by have := h2.low; show _ ≤ pb; omega)
          obtain ⟨j2, hj2, ⟨h1, h2, h3⟩ | ⟨j', h1, h2, h3⟩⟩ := HP3.out
          · exact ⟨j2, ⟨5, [a, b]⟩, An, cn, hj2, q1, q2, q3, q4, .inl ⟨by omega, q5 _ _ _ _ h2, h3, by omega, by omega⟩⟩
          · exact ⟨j2, ⟨5, [a, b]⟩, An, cn, hj2, q1, q2, q3, q4, .inr ⟨j', h1, h2, q5 _ _ _ _ h3⟩⟩
        case measure => omega
      · have hr : Aside0 (r = .ok (a, toks xs j)) := .mk (by rw [← HP.out, lopE_no m 2 a _ fun h => hno ⟨rfl, (isP _ _).2 h⟩])
        replace HM := Aside0.mk (Kd.R_keep HM.out hK (fun k hk => hk.1))
        replace HB3 := Aside0.mk (hK.blk HB3.out (by omega) (by simp))
        replace HB := Aside0.mk (hK.blk HB.out (by omega) (by simp))
        replace HK := Aside0.mk (HK.out.trans hK (.inl rfl))
        clear hK
        replace HR := Aside0.mk hR
        clear hno hR
        have k9 := blk_put (cs := #[.int .i8 a.f0, .slice none 0 0]) (blk_put HB.out 0 (.int .i8 a.f0) rfl) 1 (.slice Aa a.f1.length ca) rfl
        have HK9 := Aside0.mk (keep_far (keep_far HK.out ⟨w.heap.size, 0, none⟩ (.int .i8 a.f0) (Nat.le_refl _)) ⟨w.heap.size, 1, none⟩ (.slice Aa a.f1.length ca) (Nat.le_refl _))
        have HR9 := Aside0.mk ((HR.out.far ⟨w.heap.size, 0, none⟩ (.int .i8 a.f0) (by show g ≠ w.heap.size; omega) (by have := HR.out.low; show _ ≤ w.heap.size; omega)).far ⟨w.heap.size, 1, none⟩ (.slice Aa a.f1.length ca) (by show g ≠ w.heap.size; omega) (by have := HR.out.low; show _ ≤ w.heap.size; omega))
        have HM9 := Aside0.mk (Kd.R_mono (Kd.R_far (Kd.R_far HM.out (p := ⟨w.heap.size, 0, none⟩) (fun k hk => by show k ≠ w.heap.size; exact hk.2.1) (.int .i8 a.f0)) (p := ⟨w.heap.size, 1, none⟩) (fun k hk => by show k ≠ w.heap.size; exact hk.2.1) (.slice Aa a.f1.length ca)) (fun _ _ => trivial))
        have c0 := (blk_cell HB.out 0).trans rfl
        have c1 := (blk_cell HB.out 1).trans rfl
        have z0 := blk_frozen HB.out 0
        have z1 := blk_frozen HB.out 1
        have d0 := (blk_cell HB3.out 0).trans rfl
        have d1 := (blk_cell HB3.out 1).trans rfl
        simp at c0 c1 d0 d1
        have e0 := blk_cell k9 0
        have e1 := blk_cell k9 1
        simp at e0 e1
        clear k9
        go_wp2_with fail
        refine bodyPost_ret (v := .agg #[.int .i8 a.f0, .slice Aa a.f1.length ca]) (by simp [results, Tryd.results84, go_sem, e0, e1]) rfl ⟨HK9.out, a, .slice Aa a.f1.length ca, rfl, HM9.out, ?_⟩
        rw [hr.out]
        exact ⟨rfl, j, HR9.out, hij, hj, rfl⟩
    · have HK := Aside0.mk hK
      have HB := Aside0.mk hB
      have HB3 := Aside0.mk hB3
      have HM := Aside0.mk hM
      have HR := Aside0.mk hR
      have hr := Aside0.mk hr
      have hpl := blk_lt hB3
      clear hK hB hB3 hM hR
      go_wp2_with fail
      refine (psign_calls HR.out hn hj _).mono ?_
      rintro e v1 ⟨hK, ⟨h0, -⟩ | ⟨-, rfl, hR⟩⟩
      · exact absurd h0 (by decide)
      replace HM := Aside0.mk (Kd.R_keep HM.out hK (fun k hk => hk.1))
      replace HB3 := Aside0.mk (hK.blk HB3.out (by omega) (by simp))
      replace HB := Aside0.mk (hK.blk HB.out (by omega) (by simp))
      replace HK := Aside0.mk (HK.out.trans hK (.inl rfl))
      clear hK
      replace HR := Aside0.mk hR
      clear hR
      have k9 := blk_put (cs := #[.int .i8 a.f0, .slice none 0 0]) (blk_put HB.out 0 (.int .i8 a.f0) rfl) 1 (.slice Aa a.f1.length ca) rfl
      have HK9 := Aside0.mk (keep_far (keep_far HK.out ⟨w.heap.size, 0, none⟩ (.int .i8 a.f0) (Nat.le_refl _)) ⟨w.heap.size, 1, none⟩ (.slice Aa a.f1.length ca) (Nat.le_refl _))
      have HR9 := Aside0.mk ((HR.out.far ⟨w.heap.size, 0, none⟩ (.int .i8 a.f0) (by show g ≠ w.heap.size; omega) (by have := HR.out.low; show _ ≤ w.heap.size; omega)).far ⟨w.heap.size, 1, none⟩ (.slice Aa a.f1.length ca) (by show g ≠ w.heap.size; omega) (by have := HR.out.low; show _ ≤ w.heap.size; omega))
      have HM9 := Aside0.mk (Kd.R_mono (Kd.R_far (Kd.R_far HM.out (p := ⟨w.heap.size, 0, none⟩) (fun k hk => by show k ≠ w.heap.size; exact hk.2.1) (.int .i8 a.f0)) (p := ⟨w.heap.size, 1, none⟩) (fun k hk => by show k ≠ w.heap.size; exact hk.2.1) (.slice Aa a.f1.length ca)) (fun _ _ => trivial))
      have c0 := (blk_cell HB.out 0).trans rfl
      have c1 := (blk_cell HB.out 1).trans rfl
      have z0 := blk_frozen HB.out 0
      have z1 := blk_frozen HB.out 1
      have d0 := (blk_cell HB3.out 0).trans rfl
      have d1 := (blk_cell HB3.out 1).trans rfl
      simp at c0 c1 d0 d1
      have e0 := blk_cell k9 0
      have e1 := blk_cell k9 1
      simp at e0 e1
      clear k9
      go_wp2_with fail
      refine bodyPost_ret (v := .agg #[.int .i8 a.f0, .slice Aa a.f1.length ca]) (by simp [results, Tryd.results84, go_sem, e0, e1]) rfl ⟨HK9.out, a, .slice Aa a.f1.length ca, rfl, HM9.out, ?_⟩
      rw [hr.out]
      exact ⟨j, j', rfl, hj', hj, HR9.out⟩
end Go.Proofs.YtjmpejbciniceaaDoor.X
namespace Go.Proofs.YtjmpejbciniceaaDoor.X
open Go.RowKit Go.Proofs.YtjmpejbciniceaaDoorW.PrintWords Go.Proofs.YtjmpejbciniceaaDoorW.PrintLast Go.Proofs.YtjmpejbciniceaaDoorW.PrintMore
set_option linter.unusedVariables false
set_option linter.unusedSimpArgs false
set_option maxRecDepth 100000 in
set_option maxHeartbeats 6400000 in
theorem rtype_calls {w0 : World} {g : Nat} {A : Option Addr} {c : Nat} {xs : List S37} {i : Nat} {w : World} (h : RR w0 g A c xs i 0 0 ⟨#[]⟩ w) (hn : xs.length ≤ 200000) (hi : i ≤ xs.length) (f : Nat) (hf : 6 * (xs.length - i) + 5 ≤ f + 1) (IH : Aside0 (∀ j w, j ≤ xs.length → RR w0 g A c xs j 0 0 ⟨#[]⟩ w → 6 * (xs.length - j) + 4 ≤ f → Calls Tryd.prog 84 #[.pointer (some ⟨g, 0, none⟩)] w (RPR w0 g A c xs j w (parE f 2 (toks xs j))))) (IH0 : Aside0 (R0 w0 g A c xs f)) (r : Except (List Tk) (S43 × List Tk)) (HE : Aside0 (parE (f + 1) 0 (toks xs i) = r)) :
    Calls Tryd.prog 41 #[.pointer (some ⟨g, 0, none⟩)] w (RPR w0 g A c xs i w r) := by
  have hgl := blk_lt h.blk
  have hB := below1 w #[.int .i8 0, .slice none 0 0] 43
  have HR := Aside0.mk (h.after hB)
  have HK := Aside0.mk (KeepBut.of_below hB g none)
  have HB := Aside0.mk (heap_alloc_new w (.cells #[.int .i8 0, .slice none 0 0] 43))
  clear h hB
  go_enter Tryd.func41, Tryd.ntmps41
  go_wp2_with fail
  generalize w.alloc (.cells #[.int .i8 0, .slice none 0 0] 43) = wa at *
  refine (IH.out i _ hi HR.out (by omega)).mono ?_
  rintro e w5 ⟨hK, a, v, rfl, hm, hp⟩
  have hwl := hK.1
  have hwz : w.heap.size < wa.heap.size := blk_lt HB.out
  have hg4 : g < wa.heap.size := blk_lt HR.out.blk
  obtain ⟨Aa, ca, rfl⟩ := Kd.R_slice hm
  have HM := Aside0.mk (R_apart3 (q := w5.heap.size) hm (by omega : w.heap.size ≤ wa.heap.size) hg4 hwz (.inr (Nat.le_refl _)))
  replace HK := Aside0.mk (HK.out.trans hK (.inl rfl))
  replace HB := Aside0.mk (hK.blk HB.out (by omega) (by simp))
  have HP : Aside0 (∃ j, j ≤ xs.length ∧ ((i ≤ j ∧ RR w0 g A c xs j 0 0 ⟨#[]⟩ w5 ∧ arrowE f (.ok (a, toks xs j)) = r) ∨ (∃ j', r = .error (toks xs j') ∧ j' ≤ xs.length ∧ RR w0 g A c xs j 40 (wrAt xs j') (wrWd xs j') w5))) := .mk (by
    have he : arrowE f (parE f 2 (toks xs i)) = r := by rw [← HE.out, parE_zero]; rfl
    revert hp he
    cases parE f 2 (toks xs i) with
    | ok y =>
      obtain ⟨b, u⟩ := y
      rintro ⟨hb, j, hR, hij, hj, hu⟩ he
      replace hb : a = b := hb
      replace hu : u = toks xs j := hu
      subst hb hu
      exact ⟨j, hj, .inl ⟨hij, hR, he⟩⟩
    | error u =>
      rintro ⟨j, j', hu, hj', hj, hR⟩ he
      subst hu
      exact ⟨j, hj, .inr ⟨j', he.symm, hj', hR⟩⟩)
  clear hK hm hp HR HE
  have hB := below1 w5 #[.int .i8 a.f0, .slice Aa a.f1.length ca] 43
  have HB3 := Aside0.mk (heap_alloc_new w5 (.cells #[.int .i8 a.f0, .slice Aa a.f1.length ca] 43))
  go_wp2_with fail
  have hws : w.heap.size < w5.heap.size := by omega
  have hgp : g < w5.heap.size := by omega
  replace HM := Aside0.mk (Kd.R_below HM.out hB)
  replace HK := Aside0.mk (HK.out.trans (KeepBut.of_below hB g none) (.inl rfl))
  replace HB := Aside0.mk (blk_below HB.out hB)
  have HP2 : Aside0 (∃ j, j ≤ xs.length ∧ ((i ≤ j ∧ RR w0 g A c xs j 0 0 ⟨#[]⟩ (w5.alloc (.cells #[.int .i8 a.f0, .slice Aa a.f1.length ca] 43)) ∧ arrowE f (.ok (a, toks xs j)) = r) ∨ (∃ j', r = .error (toks xs j') ∧ j' ≤ xs.length ∧ RR w0 g A c xs j 40 (wrAt xs j') (wrWd xs j') (w5.alloc (.cells #[.int .i8 a.f0, .slice Aa a.f1.length ca] 43))))) := .mk (by
    obtain ⟨j, hj, ⟨h1, h2, h3⟩ | ⟨j', h1, h2, h3⟩⟩ := HP.out
    · exact ⟨j, hj, .inl ⟨h1, h2.after hB, h3⟩⟩
    · exact ⟨j, hj, .inr ⟨j', h1, h2, h3.after hB⟩⟩)
  clear hB HP hwl
  generalize w5.alloc (.cells #[.int .i8 a.f0, .slice Aa a.f1.length ca] 43) = wb at *
  generalize w5.heap.size = pb at *
  have hpl := blk_lt HB3.out
  obtain ⟨j, hj, hrun | ⟨j', hr, hj', hR⟩⟩ := HP2.out
  · obtain ⟨hij, hR, hP⟩ := hrun
    have HP := Aside0.mk hP
    have HR := Aside0.mk hR
    clear hP hR HP2
    refine (psign_calls HR.out hn hj _).mono ?_
    rintro e v1 ⟨hK, ⟨-, hy, rfl, hR⟩ | ⟨hno, rfl, hR⟩⟩
    · have hjt := nextIs_lt hy
      replace HP := Aside0.mk ((arrow_yes f a _ ((isA _ _).1 hy)).symm.trans HP.out)
      rw [toks_tail] at HP
      replace HM := Aside0.mk (Kd.R_keep HM.out hK (fun k hk => hk.1))
      replace HB3 := Aside0.mk (hK.blk HB3.out (by omega) (by simp))
      replace HB := Aside0.mk (hK.blk HB.out (by omega) (by simp))
      replace HK := Aside0.mk (HK.out.trans hK (.inl rfl))
      clear hK
      replace HR := Aside0.mk hR
      clear hy hR
      go_wp2_with fail
      have hpl1 := blk_lt HB3.out
      have hgl1 := blk_lt HR.out.blk
      refine (IH0.out (j + 1) _ (by omega) HR.out (by omega)).mono ?_
      rintro e v2 ⟨hK, b, vb, rfl, hm, hp⟩
      obtain ⟨Ab, cb, rfl⟩ := Kd.R_slice hm
      have hbz : w.heap.size < v1.heap.size := by have := blk_lt HB.out; omega
      have HMB := Aside0.mk (R_apart3 (base := w.heap.size) (q := pb) hm (by omega) hgl1 hbz (.inl hpl1))
      have hv12 := hK.1
      replace HM := Aside0.mk (Kd.R_keep HM.out hK (fun k hk => hk.1))
      replace HB3 := Aside0.mk (hK.blk HB3.out (by omega) (by simp))
      replace HB := Aside0.mk (hK.blk HB.out (by omega) (by simp))
      replace HK := Aside0.mk (HK.out.trans hK (.inl rfl))
      clear hK
      have HP3 : Aside0 (∃ j2, j2 ≤ xs.length ∧ ((j + 1 ≤ j2 ∧ RR w0 g A c xs j2 0 0 ⟨#[]⟩ v2 ∧ r = .ok (⟨3, [a, b]⟩, toks xs j2)) ∨ (∃ j', r = .error (toks xs j') ∧ j' ≤ xs.length ∧ RR w0 g A c xs j2 40 (wrAt xs j') (wrWd xs j') v2))) := .mk (by
        have he := HP.out
        revert hp he
        cases parE f 0 (toks xs (j + 1)) with
        | ok y =>
          obtain ⟨b', u⟩ := y
          rintro ⟨hb, j2, hR, hij2, hj2, hu⟩ he
          replace hb : b = b' := hb
          replace hu : u = toks xs j2 := hu
          subst hb hu
          exact ⟨j2, hj2, .inl ⟨hij2, hR, he.symm⟩⟩
        | error u =>
          rintro ⟨j2, j', hu, hj', hj2, hR⟩ he
          subst hu
          exact ⟨j2, hj2, .inr ⟨j', he.symm, hj', hR⟩⟩)
      clear hm hp HR HP
      have hB := below1 v2 #[.int .i8 b.f0, .slice Ab b.f1.length cb] 43
      have K4 := Aside0.mk (heap_alloc_new v2 (.cells #[.int .i8 b.f0, .slice Ab b.f1.length cb] 43))
      have d0 := (blk_cell (blk_below HB3.out hB) 0).trans rfl
      have d1 := (blk_cell (blk_below HB3.out hB) 1).trans rfl
      simp at d0 d1
      go_wp2_with fail
      clear d0 d1
      replace HM := Aside0.mk (Kd.R_below HM.out hB)
      replace HMB := Aside0.mk (Kd.R_below HMB.out hB)
      replace HK := Aside0.mk (HK.out.trans (KeepBut.of_below hB g none) (.inl rfl))
      replace HB := Aside0.mk (blk_below HB.out hB)
      replace HB3 := Aside0.mk (blk_below HB3.out hB)
      have HA := Aside0.mk (fun (i : Nat) (e p : Int) (s : ByteArray) (h : RR w0 g A c xs i e p s v2) => h.after hB)
      clear hB K4
      generalize v2.alloc (.cells #[.int .i8 b.f0, .slice Ab b.f1.length cb] 43) = v3 at *
      refine (OfR_calls HM.out HMB.out (by have := HK.out.1; omega) (fun q hq => ⟨by have := blk_lt HB3.out; omega, by have := blk_lt HB.out; omega, by have := blk_lt HB3.out; omega⟩)).mono ?_
      rintro e wz ⟨An, cn, rfl, hm, hB⟩
      replace HM := Aside0.mk hm
      replace HK := Aside0.mk (HK.out.trans (KeepBut.of_below hB g none) (.inl rfl))
      replace HB := Aside0.mk (blk_below HB.out hB)
      replace HB3 := Aside0.mk (blk_below HB3.out hB)
      have HA2 := Aside0.mk (fun (i : Nat) (e p : Int) (s : ByteArray) (h : RR w0 g A c xs i e p s v3) => h.after hB)
      clear hm hB HMB
      have k9 := blk_put (cs := #[.int .i8 3, .slice none 0 0]) (blk_put HB.out 0 (.int .i8 3) rfl) 1 (.slice An 2 cn) rfl
      have HK9 := Aside0.mk (keep_far (keep_far HK.out ⟨w.heap.size, 0, none⟩ (.int .i8 3) (Nat.le_refl _)) ⟨w.heap.size, 1, none⟩ (.slice An 2 cn) (Nat.le_refl _))
      have HR9 : Aside0 (∀ (i : Nat) (e p : Int) (s : ByteArray), RR w0 g A c xs i e p s wz → RR w0 g A c xs i e p s ((wz.setCell ⟨w.heap.size, 0, none⟩ (.int .i8 3)).setCell ⟨w.heap.size, 1, none⟩ (.slice An 2 cn))) := .mk fun i e p s h => (h.far ⟨w.heap.size, 0, none⟩ (.int .i8 3) (by show g ≠ w.heap.size; omega) (by have := h.low; show _ ≤ w.heap.size; omega)).far ⟨w.heap.size, 1, none⟩ (.slice An 2 cn) (by show g ≠ w.heap.size; omega) (by have := h.low; show _ ≤ w.heap.size; omega)
      have HM9 := Aside0.mk (Kd.R_mono (Kd.R_far (Kd.R_far HM.out (p := ⟨w.heap.size, 0, none⟩) (fun k hk => by show k ≠ w.heap.size; exact hk.2.1) (.int .i8 3)) (p := ⟨w.heap.size, 1, none⟩) (fun k hk => by show k ≠ w.heap.size; exact hk.2.1) (.slice An 2 cn)) (fun _ _ => trivial))
      have c0 := (blk_cell HB.out 0).trans rfl
      have c1 := (blk_cell HB.out 1).trans rfl
      have z0 := blk_frozen HB.out 0
      have z1 := blk_frozen HB.out 1
      simp at c0 c1
      have e0 := blk_cell k9 0
      have e1 := blk_cell k9 1
      simp at e0 e1
      clear k9
      go_wp2_with fail
      refine bodyPost_ret (v := .agg #[.int .i8 3, .slice An 2 cn]) (by simp [results, Tryd.results41, go_sem, e0, e1]) rfl ⟨HK9.out, ⟨3, [a, b]⟩, .slice An 2 cn, rfl, HM9.out, ?_⟩
      obtain ⟨j2, hj2, ⟨h1, h2, h3⟩ | ⟨j', h1, h2, h3⟩⟩ := HP3.out
      · rw [h3]
        exact ⟨rfl, j2, HR9.out _ _ _ _ (HA2.out _ _ _ _ (HA.out _ _ _ _ h2)), by omega, hj2, rfl⟩
      · rw [h1]
        exact ⟨j2, j', rfl, h2, hj2, HR9.out _ _ _ _ (HA2.out _ _ _ _ (HA.out _ _ _ _ h3))⟩
    · have hr : Aside0 (r = .ok (a, toks xs j)) := .mk (by rw [← HP.out, arrow_no f a _ fun h => hno ⟨rfl, (isA _ _).2 h⟩])
      replace HM := Aside0.mk (Kd.R_keep HM.out hK (fun k hk => hk.1))
      replace HB3 := Aside0.mk (hK.blk HB3.out (by omega) (by simp))
      replace HB := Aside0.mk (hK.blk HB.out (by omega) (by simp))
      replace HK := Aside0.mk (HK.out.trans hK (.inl rfl))
      clear hK
      replace HR := Aside0.mk hR
      clear hno hR
      obtain ⟨wz, hwz2⟩ : ∃ wz, wz = v1 := ⟨_, rfl⟩
      subst hwz2
      have d0 := (blk_cell HB3.out 0).trans rfl
      have d1 := (blk_cell HB3.out 1).trans rfl
      simp at d0 d1
      have k9 := blk_put (cs := #[.int .i8 a.f0, .slice none 0 0]) (blk_put HB.out 0 (.int .i8 a.f0) rfl) 1 (.slice Aa a.f1.length ca) rfl
      have HK9 := Aside0.mk (keep_far (keep_far HK.out ⟨w.heap.size, 0, none⟩ (.int .i8 a.f0) (Nat.le_refl _)) ⟨w.heap.size, 1, none⟩ (.slice Aa a.f1.length ca) (Nat.le_refl _))
      have HR9 : Aside0 (∀ (i : Nat) (e p : Int) (s : ByteArray), RR w0 g A c xs i e p s wz → RR w0 g A c xs i e p s ((wz.setCell ⟨w.heap.size, 0, none⟩ (.int .i8 a.f0)).setCell ⟨w.heap.size, 1, none⟩ (.slice Aa a.f1.length ca))) := .mk fun i e p s h => (h.far ⟨w.heap.size, 0, none⟩ (.int .i8 a.f0) (by show g ≠ w.heap.size; omega) (by have := h.low; show _ ≤ w.heap.size; omega)).far ⟨w.heap.size, 1, none⟩ (.slice Aa a.f1.length ca) (by show g ≠ w.heap.size; omega) (by have := h.low; show _ ≤ w.heap.size; omega)
      have HM9 := Aside0.mk (Kd.R_mono (Kd.R_far (Kd.R_far HM.out (p := ⟨w.heap.size, 0, none⟩) (fun k hk => by show k ≠ w.heap.size; exact hk.2.1) (.int .i8 a.f0)) (p := ⟨w.heap.size, 1, none⟩) (fun k hk => by show k ≠ w.heap.size; exact hk.2.1) (.slice Aa a.f1.length ca)) (fun _ _ => trivial))
      have c0 := (blk_cell HB.out 0).trans rfl
      have c1 := (blk_cell HB.out 1).trans rfl
      have z0 := blk_frozen HB.out 0
      have z1 := blk_frozen HB.out 1
      simp at c0 c1
      have e0 := blk_cell k9 0
      have e1 := blk_cell k9 1
      simp at e0 e1
      clear k9
      go_wp2_with fail
      refine bodyPost_ret (v := .agg #[.int .i8 a.f0, .slice Aa a.f1.length ca]) (by simp [results, Tryd.results41, go_sem, e0, e1]) rfl ⟨HK9.out, a, .slice Aa a.f1.length ca, rfl, HM9.out, ?_⟩
      rw [hr.out]
      exact ⟨rfl, j, HR9.out _ _ _ _ HR.out, hij, hj, rfl⟩
  · have HR := Aside0.mk hR
    have hr := Aside0.mk hr
    clear hR HP2
    refine (psign_calls HR.out hn hj _).mono ?_
    rintro e v1 ⟨hK, ⟨h0, -⟩ | ⟨-, rfl, hR⟩⟩
    · exact absurd h0 (by decide)
    replace HM := Aside0.mk (Kd.R_keep HM.out hK (fun k hk => hk.1))
    replace HB3 := Aside0.mk (hK.blk HB3.out (by omega) (by simp))
    replace HB := Aside0.mk (hK.blk HB.out (by omega) (by simp))
    replace HK := Aside0.mk (HK.out.trans hK (.inl rfl))
    clear hK
    replace HR := Aside0.mk hR
    clear hR
    obtain ⟨wz, hwz2⟩ : ∃ wz, wz = v1 := ⟨_, rfl⟩
    subst hwz2
    have d0 := (blk_cell HB3.out 0).trans rfl
    have d1 := (blk_cell HB3.out 1).trans rfl
    simp at d0 d1
    have k9 := blk_put (cs := #[.int .i8 a.f0, .slice none 0 0]) (blk_put HB.out 0 (.int .i8 a.f0) rfl) 1 (.slice Aa a.f1.length ca) rfl
    have HK9 := Aside0.mk (keep_far (keep_far HK.out ⟨w.heap.size, 0, none⟩ (.int .i8 a.f0) (Nat.le_refl _)) ⟨w.heap.size, 1, none⟩ (.slice Aa a.f1.length ca) (Nat.le_refl _))
    have HR9 : Aside0 (∀ (i : Nat) (e p : Int) (s : ByteArray), RR w0 g A c xs i e p s wz → RR w0 g A c xs i e p s ((wz.setCell ⟨w.heap.size, 0, none⟩ (.int .i8 a.f0)).setCell ⟨w.heap.size, 1, none⟩ (.slice Aa a.f1.length ca))) := .mk fun i e p s h => (h.far ⟨w.heap.size, 0, none⟩ (.int .i8 a.f0) (by show g ≠ w.heap.size; omega) (by have := h.low; show _ ≤ w.heap.size; omega)).far ⟨w.heap.size, 1, none⟩ (.slice Aa a.f1.length ca) (by show g ≠ w.heap.size; omega) (by have := h.low; show _ ≤ w.heap.size; omega)
    have HM9 := Aside0.mk (Kd.R_mono (Kd.R_far (Kd.R_far HM.out (p := ⟨w.heap.size, 0, none⟩) (fun k hk => by show k ≠ w.heap.size; exact hk.2.1) (.int .i8 a.f0)) (p := ⟨w.heap.size, 1, none⟩) (fun k hk => by show k ≠ w.heap.size; exact hk.2.1) (.slice Aa a.f1.length ca)) (fun _ _ => trivial))
    have c0 := (blk_cell HB.out 0).trans rfl
    have c1 := (blk_cell HB.out 1).trans rfl
    have z0 := blk_frozen HB.out 0
    have z1 := blk_frozen HB.out 1
    simp at c0 c1
    have e0 := blk_cell k9 0
    have e1 := blk_cell k9 1
    simp at e0 e1
    clear k9
    go_wp2_with fail
    refine bodyPost_ret (v := .agg #[.int .i8 a.f0, .slice Aa a.f1.length ca]) (by simp [results, Tryd.results41, go_sem, e0, e1]) rfl ⟨HK9.out, a, .slice Aa a.f1.length ca, rfl, HM9.out, ?_⟩
    rw [hr.out]
    exact ⟨j, j', rfl, hj', hj, HR9.out _ _ _ _ HR.out⟩
def RC (F L B : Nat) (w0 : World) (g : Nat) (A : Option Addr) (c : Nat) (xs : List S37) (f : Nat) : Prop := ∀ j w, j ≤ xs.length → RR w0 g A c xs j 0 0 ⟨#[]⟩ w → 6 * (xs.length - j) + B ≤ f → Calls Tryd.prog F #[.pointer (some ⟨g, 0, none⟩)] w (RPR w0 g A c xs j w (parE f L (toks xs j)))
theorem rall (w0 : World) (g : Nat) (A : Option Addr) (c : Nat) (xs : List S37) (hn : xs.length ≤ 200000) (F : Nat) : ∀ f, f < F → RC 134 4 2 w0 g A c xs f ∧ RC 116 3 3 w0 g A c xs f ∧ RC 84 2 4 w0 g A c xs f ∧ R0 w0 g A c xs f := by
  induction F with
  | zero => exact fun f h => absurd h (Nat.not_lt_zero _)
  | succ F IH =>
    intro f hf
    cases f with
    | zero => exact ⟨fun _ _ _ _ h => by omega, fun _ _ _ _ h => by omega, fun _ _ _ _ h => by omega, fun _ _ _ _ h => by omega⟩
    | succ f =>
      refine ⟨fun j w hj h hb => ?_, fun j w hj h hb => ?_, fun j w hj h hb => ?_, fun j w hj h hb => ?_⟩
      · exact ratom_calls h hn hj f hb (.mk fun f' hf' => (IH f' (by omega)).2.2.2) _ (.mk rfl)
      · exact rprod_calls h hn hj f hb (.mk fun f' hf' => (IH f' (by omega)).1) _ (.mk rfl)
      · exact rsum_calls h hn hj f hb (.mk fun f' hf' => (IH f' (by omega)).2.1) _ (.mk rfl)
      · exact rtype_calls h hn hj f hb (.mk (IH f (by omega)).2.2.1) (.mk (IH f (by omega)).2.2.2) _ (.mk rfl)
theorem r0_all (w0 : World) (g : Nat) (A : Option Addr) (c : Nat) (xs : List S37) (hn : xs.length ≤ 200000) (f : Nat) : R0 w0 g A c xs f := (rall w0 g A c xs hn (f + 1) f (Nat.lt_succ_self f)).2.2.2
end Go.Proofs.YtjmpejbciniceaaDoor.X
