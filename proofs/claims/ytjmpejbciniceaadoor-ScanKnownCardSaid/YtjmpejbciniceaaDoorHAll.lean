/- The contract of scan.All. -/
import Derived.Test.YtjmpejbciniceaaDoorHWordAll
import Derived.Test.YtjmpejbciniceaaDoorPureScanA
namespace Go.Proofs.YtjmpejbciniceaaDoor.X
open Go.RowKit Go.Proofs.YtjmpejbciniceaaDoorW.PrintWords Go.Proofs.YtjmpejbciniceaaDoorW.PrintLast Go.Proofs.YtjmpejbciniceaaDoorW.PrintMore
set_option linter.unusedVariables false
set_option linter.unusedSimpArgs false

def wv (x : SWord) : S37 := ⟨x.kind, bytesS x.text, (x.num : Int), (x.pos : Int)⟩
def endV (n : Nat) : S37 := ⟨0, ⟨#[]⟩, 0, (n : Int)⟩
def AllPost (N : Nat) (w : World) (r : Except (Int × Nat × List UInt8) (List SWord)) (en : Ending) (w' : World) : Prop :=
  match r with
  | .error (e, p, t) => ∃ q, en = .returned (.tuple #[.slice none 0 0, .iface 60 (.pointer (some ⟨q, 0, none⟩))]) ∧ FaultAt w' q e p (bytesS t) ∧ w.heap.size ≤ q ∧ Below w.heap.size w w'
  | .ok ws => ∃ v, en = .returned (.tuple #[v, .nilIface]) ∧ k37.R 37 w' w.heap.size (fun _ => True) v (ws.map wv ++ [endV N]) ∧ Below w.heap.size w w'
def scanAll (s : ByteArray) : Except (Int × Nat × List UInt8) (List SWord) := if 65536 < s.size then .error (3, 0, []) else scanA s.size s.data.toList
theorem preS_error {ws : List SWord} {e : Int × Nat × List UInt8} : preS ws (.error e) = .error e := rfl
theorem skipTo_drop (s : ByteArray) (a : Nat) (ha : a ≤ s.size) : s.data.toList.drop (skipTo s a) = skipR (s.data.toList.drop a) false ∧ skipTo s a ≤ s.size := by
  have h := skip_drop (s.data.toList.drop a)
  have hl := skip_len (s.data.toList.drop a) false
  rw [List.length_drop] at h hl
  have e : s.data.toList.length = s.size := by simp
  rw [List.drop_drop, e] at h
  rw [e] at hl
  unfold skipTo
  refine ⟨?_, by omega⟩
  rw [← h]
  congr 1
  rw [h]
  omega
def placeOf (g : Nat) (w : World) : Nat := match w.cell? ⟨g, 1, none⟩ with
  | some v => (intOf v).toNat
  | none => 0
set_option maxRecDepth 100000 in
set_option maxHeartbeats 3200000 in
theorem all_calls (s : ByteArray) (w : World) : Calls Tryd.prog 7 #[.string s] w (AllPost s.size w (scanAll s)) := by
  obtain ⟨r, hr⟩ : ∃ r, r = scanAll s := ⟨_, rfl⟩
  rw [← hr]
  unfold scanAll at hr
  by_cases hs : 65536 < s.size
  · rw [if_pos hs] at hr
    have HE := Aside0.mk hr
    clear hr
    go_enter Tryd.func7, Tryd.ntmps7
    go_wp2_with fail
    go_ret2
    rw [HE.out]
    exact ⟨w.heap.size, rfl, heap_alloc_new w _, Nat.le_refl _, (Below.refl _ _).alloc (Nat.le_refl _) _⟩
  · rw [if_neg hs] at hr
    have HE := Aside0.mk hr
    clear hr
    go_enter Tryd.func7, Tryd.ntmps7
    go_wp2_with fail
    have HR : Aside0 (Rd w w.heap.size s (0 : Nat) (.slice none 0 0) (([] : List SWord).map wv) (w.alloc (.cells #[.string s, .int .i64 0, .slice none 0 0] 65))) := .mk ⟨heap_alloc_new w _, Kd.R_nil _ _ _ _ _, Nat.le_refl _, (Below.refl _ _).alloc (Nat.le_refl _) _⟩
    generalize w.alloc (.cells #[.string s, .int .i64 0, .slice none 0 0] 65) = wb at *
    have hss : s.size ≤ 65536 := by omega
    refine (skip_calls w w.heap.size s 0 _ _ _ HR.out (Nat.zero_le _) hss).mono ?_
    rintro e w2 ⟨rfl, hR2⟩
    have HR2 := Aside0.mk hR2
    clear hR2
    have hq := skipTo_drop s 0 (Nat.zero_le _)
    have HK : Aside0 (preS [] (scanA s.size (s.data.toList.drop (skipTo s 0))) = r ∧ skipTo s 0 ≤ s.size ∧ skipR (s.data.toList.drop (skipTo s 0)) false = s.data.toList.drop (skipTo s 0)) := .mk (by
      rw [hq.1, scanA_skip, skip_idem, List.drop_zero, pre_nil]
      exact ⟨HE.out.symm, hq.2, rfl⟩)
    clear hq
    go_wp2_with fail
    go_loopw [5] (fun i wr => ∃ (a : Nat) (v : Value) (ws : List SWord), Rd w w.heap.size s a v (ws.map wv) wr ∧ a ≤ s.size ∧ ws.length ≤ a ∧ skipR (s.data.toList.drop a) false = s.data.toList.drop a ∧ preS ws (scanA s.size (s.data.toList.drop a)) = r) (fun i wr => s.size - placeOf w.heap.size wr)
    case atStart => exact ⟨skipTo s 0, _, [], HR2.out, HK.out.2.1, Nat.zero_le _, HK.out.2.2, HK.out.1⟩
    case round =>
      obtain ⟨a, v, ws, hR, ha, hwl, hst, hpre⟩ := hrel
      have HR := Aside0.mk hR
      have HPRE := Aside0.mk hpre
      have HST := Aside0.mk hst
      clear hR hpre hst
      have e0 := (blk_cell HR.out.blk 0).trans rfl
      have e1 := (blk_cell HR.out.blk 1).trans rfl
      simp at e0 e1
      have HPL : Aside0 (placeOf w.heap.size wr = a) := .mk (by unfold placeOf; rw [e1]; simp [intOf])
      by_cases hlt : a < s.size
      · go_wp2_with fail
        clear e0 e1
        have hd := drop_at s a hlt
        have hc : startU (s[a]'hlt) := skip_start _ _ _ _ ((HST.out.trans hd))
        have hstep := scanA_step (N := s.size) (m := s.data.toList.drop (a + 1)) hc
        rw [← hd] at hstep
        have HSTEP := Aside0.mk hstep
        have HPFX := Aside0.mk (fun (k : Int) (t : List UInt8) (n : Nat) (h : wordR (s.data.toList.drop a) = .word k t n) => word_prefix h)
        clear hc hstep hd
        refine (word_calls HR.out hlt hss (by simp; omega)).mono ?_
        obtain ⟨x, hx⟩ : ∃ x, x = wordR (s.data.toList.drop a) := ⟨_, rfl⟩
        rw [← hx]
        have HX := Aside0.mk hx
        clear hx
        cases x with
        | fault e t =>
          rintro _ w3 ⟨p, rfl, h1, h2, h3⟩
          have H1 := Aside0.mk h1
          have H3 := Aside0.mk h3
          have H2 := Aside0.mk h2
          clear h1 h2 h3
          go_wp2_with fail
          go_ret2
          have hq := HPRE.out
          rw [HSTEP.out, ← HX.out] at hq
          simp only [preS] at hq
          rw [← hq, show s.size - (s.data.toList.drop a).length = a from by simp; omega]
          exact ⟨p, rfl, H1.out, Nat.le_trans HR.out.below.size H2.out, below_then HR.out.below HR.out.below.size H3.out⟩
        | word k t n =>
          rintro _ w3 ⟨rfl, v3, h3⟩
          have hq := HPRE.out
          rw [HSTEP.out, ← HX.out] at hq
          simp only [pre_pre] at hq
          rw [show s.size - (s.data.toList.drop a).length = a from by simp; omega, List.drop_drop] at hq
          obtain ⟨m, hm, hne⟩ := HPFX.out k t n HX.out.symm
          have h0 : 0 < t.length := List.length_pos_iff.2 hne
          have hle : a + t.length ≤ s.size := by
            have := congrArg List.length hm
            rw [List.length_append, List.length_drop] at this
            simp at this
            omega
          have HQ := Aside0.mk hq
          have H3 := Aside0.mk h3
          clear hq h3 hm hne
          go_wp2_with fail
          refine (skip_calls w w.heap.size s (a + t.length) _ _ _ H3.out hle hss).mono ?_
          rintro e w4 ⟨rfl, hR4⟩
          have HR4 := Aside0.mk hR4
          clear hR4
          have hq := skipTo_drop s (a + t.length) hle
          have hge : a + t.length ≤ skipTo s (a + t.length) := by
            have := skip_len (s.data.toList.drop (a + t.length)) false
            unfold skipTo
            simp at this
            omega
          have HK : Aside0 (preS (ws ++ [⟨k, t, n, a⟩]) (scanA s.size (s.data.toList.drop (skipTo s (a + t.length)))) = r ∧ skipTo s (a + t.length) ≤ s.size ∧ skipR (s.data.toList.drop (skipTo s (a + t.length))) false = s.data.toList.drop (skipTo s (a + t.length))) := .mk (by
            rw [hq.1, scanA_skip, skip_idem]
            exact ⟨HQ.out, hq.2, rfl⟩)
          clear hq
          have HPL4 : Aside0 (placeOf w.heap.size w4 = skipTo s (a + t.length)) := .mk (by
            have e1 := (blk_cell HR4.out.blk 1).trans rfl
            simp at e1
            unfold placeOf; rw [e1]; simp [intOf])
          go_wp2_with fail
          go_roundw
          case rel => exact ⟨skipTo s (a + t.length), v3, ws ++ [⟨k, t, n, a⟩], by rw [List.map_append]; exact HR4.out, HK.out.2.1, by simp; omega, HK.out.2.2, HK.out.1⟩
          case measure => rw [HPL.out, HPL4.out]; omega
      · have e2 := (blk_cell HR.out.blk 2).trans rfl
        have e2 : wr.cell? ⟨w.heap.size, 2, none⟩ = some v := by simpa using e2
        obtain rfl : a = s.size := by omega
        have HOK : Aside0 (r = .ok ws) := .mk (by
          rw [← HPRE.out, List.drop_eq_nil_of_le (by simp), scanA_nil]
          simp [preS])
        have HG := Aside0.mk (blk_lt HR.out.blk)
        have hwl2 : (ws.map wv).length ≤ 65536 := by rw [List.length_map]; omega
        clear HPRE HST HK HR2 HE e0
        go_wp2_with (at_builtin; refine Kd.R_append k37 (w0 := w) w.heap.size rfl (.tmp 35) (.tmp 39) 22 37 (.agg #[.int .i8 0, .string ⟨#[]⟩, .int .i64 0, .int .i64 0]) 40 rfl Tryd.underlying22 info37 rfl (by decide) (by decide) v (ws.map wv) (endV s.size) [.int .i8 0, .string ⟨#[]⟩, .int .i64 0, .int .i64 (s.size : Int)] (fun b => b ≠ w.heap.size) (fun _ => False) rfl rfl (k37_mkM _ _ _ (endV s.size)) (fun b hb => hb.elim) (fun b hb => by have := HG.out; omega) HR.out.row HR.out.below HR.out.below.size (by omega) ?_; intro v4 w4 hr4 hb4 hg4 hat4; have HR4 := Aside0.mk hr4; have HB4 := Aside0.mk hb4; clear hr4 hb4 hg4 hat4)
        go_ret2
        rw [HOK.out]
        exact ⟨v4, rfl, Kd.R_mono HR4.out (fun _ _ => trivial), HB4.out⟩
end Go.Proofs.YtjmpejbciniceaaDoor.X
