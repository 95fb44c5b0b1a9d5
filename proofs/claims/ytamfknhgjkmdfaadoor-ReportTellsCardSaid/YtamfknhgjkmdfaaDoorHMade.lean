/- The law's (Err).made by its contract: an error, and what report.Fault tells of it. -/
import Derived.Test.YtamfknhgjkmdfaaDoorHMade1
import Derived.Test.YtamfknhgjkmdfaaDoorHAs36
import Derived.Test.YtamfknhgjkmdfaaDoorHRefD
namespace Go.Proofs.YtamfknhgjkmdfaaDoor.X
open Go.RowKit Go.Proofs.YtamfknhgjkmdfaaDoorW.PrintWords Go.Proofs.YtamfknhgjkmdfaaDoorW.PrintLast Go.Proofs.YtamfknhgjkmdfaaDoorW.PrintMore
set_option linter.unusedVariables false
set_option linter.unusedSimpArgs false
/-- An error and its text: report.Fault tells just that, in whatever world comes after. -/
def MadePost (s : ByteArray) (w : World) (en : Ending) (w' : World) : Prop := ∃ err want, en = .returned (.tuple #[err, .string want]) ∧ Below w.heap.size w w' ∧
  ∀ w2, Below w'.heap.size w' w2 → Calls Tryd.prog 6 #[.string s, err] w2 fun en w3 => en = .returned (.string want) ∧ Below w2.heap.size w2 w3
set_option maxRecDepth 100000 in
set_option maxHeartbeats 3200000 in
theorem made_calls (s word text : ByteArray) (kind code at_ : Int) (w : World) (hs : s.size ≤ 4000000000) (hwd : word.size ≤ 4000000000) (h0 : -9223372036854775808 ≤ code) (h1 : code ≤ 9223372036854775807) (hE : Env w) :
    Calls Tryd.prog 13 #[.agg #[.int .i64 kind, .int .i64 code, .int .i64 at_, .string word, .string text], .string s] w (MadePost s w) := by
  have hB0 := rbelow2 w #[.int .i64 kind, .int .i64 code, .int .i64 at_, .string word, .string text] #[.int .i64 code, .int .i64 at_, .string word] 45 36
  have KE := Aside0.mk (blk_alloc (heap_alloc_new w (.cells #[.int .i64 kind, .int .i64 code, .int .i64 at_, .string word, .string text] 45)) (.cells #[.int .i64 code, .int .i64 at_, .string word] 36))
  have KF := Aside0.mk (rnew2 w (.cells #[.int .i64 kind, .int .i64 code, .int .i64 at_, .string word, .string text] 45) #[.int .i64 code, .int .i64 at_, .string word] 36)
  have HB := Aside0.mk hB0
  have HE := Aside0.mk (hE.below hB0)
  clear hB0 hE
  go_enter Tryd.func13, Tryd.ntmps13
  go_wp2_with fail
  generalize ((w.alloc (.cells #[.int .i64 kind, .int .i64 code, .int .i64 at_, .string word, .string text] 45)).alloc (.cells #[.int .i64 code, .int .i64 at_, .string word] 36)) = wa at *
  refine (rfault_calls s word code at_ wa hs hwd h0 h1 HE.out).mono ?_
  rintro en w1 ⟨rfl, hB⟩
  replace KE := Aside0.mk (blk_below KE.out hB)
  replace KF := Aside0.mk (blk_below KF.out hB)
  replace HB := Aside0.mk (below_then HB.out HB.out.size hB)
  replace HE := Aside0.mk (HE.out.below hB)
  clear hB
  have e0 := (blk_cell KE.out 0).trans rfl
  have e4 := (blk_cell KE.out 4).trans rfl
  have f0 := (blk_cell KF.out 0).trans rfl
  simp at e0 e4 f0
  go_wp2_with fail
  · refine bodyPost_ret (results_list (rs := [.tmp 4, .tmp 5]) rfl (by simp) (.tmp (.tmp .nil))) rfl ?_
    exact ⟨_, _, rfl, HB.out, fun w2 hb => fault_nil s w2⟩
  · refine bodyPost_ret (results_list (rs := [.tmp 4, .tmp 5]) rfl (by simp) (.tmp (.tmp .nil))) rfl ?_
    exact ⟨_, _, rfl, HB.out, fun w2 hb => fault_at s word 34 _ (w.heap.size + 1) code at_ w2 hs hwd h0 h1 (HE.out.below hb) (fun w' hb' => as_ptr _ w' ((HE.out.below hb).below hb').err) (blk_below KF.out hb)⟩
  · refine wp_region_held_drew (S := fun w' => w'.cell? ⟨w.heap.size, 4, none⟩ = some (.string text) ∧ w'.cell? ⟨w.heap.size + 1, 0, none⟩ = some (.int .i64 code)) (by kernel_rfl) ⟨e4, f0⟩ (fun hHeld => ?_)
    have hD := (Below.refl w1.heap.size w1).drew
    replace HE := Aside0.mk (HE.out.below hD)
    replace HB := Aside0.mk (below_then HB.out HB.out.size hD)
    replace KF := Aside0.mk (blk_below KF.out hD)
    clear hD e0 e4 f0 KE
    generalize w1.drew = w2 at *
    refine tK 29 0 hHeld ?_
    refine tK 30 1 hHeld ?_
    refine tK 31 2 hHeld ?_
    refine tK 32 3 hHeld ?_
    refine tK 33 4 hHeld ?_
    refine cK 34 5 (rwords_calls code w2 h0 h1 HE.out) ?_
    rintro en w3 ⟨rfl, hB⟩
    refine ⟨_, rfl, ⟨pwc hB hHeld.1, pwc hB hHeld.2⟩, fun hHeld => nA ?_⟩
    replace HB := Aside0.mk (below_then HB.out HB.out.size hB)
    replace HE := Aside0.mk (HE.out.below hB)
    replace KF := Aside0.mk (blk_below KF.out hB)
    clear hB
    refine tK 4 6 hHeld ?_
    refine tK 5 7 hHeld ?_
    refine wpAnyH_done (by kernel_rfl) ?_ _
    go_wp2_with fail
    refine bodyPost_ret (results_list (rs := [.tmp 4, .tmp 5]) rfl (by simp) (.tmp (.tmp .nil))) rfl ?_
    exact ⟨_, _, rfl, HB.out, fun w2 hb => fault_errno s code w2 h0 h1 (HE.out.below hb)⟩
  · refine wp_region_held_drew (S := fun w' => w'.cell? ⟨w.heap.size, 4, none⟩ = some (.string text) ∧ w'.cell? ⟨w.heap.size + 1, 0, none⟩ = some (.int .i64 code)) (by kernel_rfl) ⟨e4, f0⟩ (fun hHeld => ?_)
    have hD := (Below.refl w1.heap.size w1).drew
    replace HE := Aside0.mk (HE.out.below hD)
    replace HB := Aside0.mk (below_then HB.out HB.out.size hD)
    replace KF := Aside0.mk (blk_below KF.out hD)
    clear hD e0 e4 f0 KE
    generalize w1.drew = w2 at *
    refine tK 37 0 hHeld ?_
    refine tK 38 1 hHeld ?_
    refine tK 40 3 hHeld ?_
    refine tK 41 4 hHeld ?_
    refine cK 39 2 (new_calls text w2) ?_
    rintro en w3 ⟨rfl, hw3⟩
    have hB : Below w2.heap.size w2 w3 := by rw [hw3]; exact (Below.refl _ _).alloc (Nat.le_refl _) _
    have KT : Aside0 (w3.heap[w2.heap.size]? = some (.cells #[.string text] 85 (0, 0))) := .mk (by rw [hw3]; exact heap_alloc_new _ _)
    refine ⟨_, rfl, ⟨pwc hB hHeld.1, pwc hB hHeld.2⟩, fun hHeld => nA ?_⟩
    replace HB := Aside0.mk (below_then HB.out HB.out.size hB)
    replace HE := Aside0.mk (HE.out.below hB)
    clear hB hw3
    refine tK 4 5 hHeld ?_
    refine tK 5 6 hHeld ?_
    refine wpAnyH_done (by kernel_rfl) ?_ _
    go_wp2_with fail
    refine bodyPost_ret (results_list (rs := [.tmp 4, .tmp 5]) rfl (by simp) (.tmp (.tmp .nil))) rfl ?_
    exact ⟨_, _, rfl, HB.out, fun w4 hb => fault_text s text w2.heap.size w4 (HE.out.below hb) (blk_below KT.out hb)⟩
  · refine bodyPost_ret (results_list (rs := [.tmp 4, .tmp 5]) rfl (by simp) (.tmp (.tmp .nil))) rfl ?_
    exact ⟨_, _, rfl, HB.out, fun w2 hb => fault_at s word 66 _ (w.heap.size + 1) code at_ w2 hs hwd h0 h1 (HE.out.below hb) (fun w' hb' => to16F 66 _ _ w' ((HE.out.below hb).below hb').err (fun w'' t b old _ hb h1 h2 => as33F_two text ⟨#[105, 110, 110, 101, 114]⟩ (some ⟨w.heap.size + 1, 0, none⟩) t b old w'' hb h1 h2)) (blk_below KF.out hb)⟩
  · refine wp_region_held_drew (S := fun w' => w'.cell? ⟨w.heap.size, 4, none⟩ = some (.string text) ∧ w'.cell? ⟨w.heap.size + 1, 0, none⟩ = some (.int .i64 code)) (by kernel_rfl) ⟨e4, f0⟩ (fun hHeld => ?_)
    have hD := (Below.refl w1.heap.size w1).drew
    replace HE := Aside0.mk (HE.out.below hD)
    replace HB := Aside0.mk (below_then HB.out HB.out.size hD)
    replace KF := Aside0.mk (blk_below KF.out hD)
    clear hD e0 e4 f0 KE
    generalize w1.drew = w2 at *
    refine tK 54 0 hHeld ?_
    refine tK 55 1 hHeld ?_
    refine tK 56 2 hHeld ?_
    refine tK 57 3 hHeld ?_
    refine tK 58 4 hHeld ?_
    refine tK 59 5 hHeld ?_
    refine tK 60 6 hHeld ?_
    refine tK 61 7 hHeld ?_
    refine tK 62 8 hHeld ?_
    refine cK 63 9 (rwords_calls code w2 h0 h1 HE.out) ?_
    rintro en w3 ⟨rfl, hB⟩
    refine ⟨_, rfl, ⟨pwc hB hHeld.1, pwc hB hHeld.2⟩, fun hHeld => nA ?_⟩
    replace HB := Aside0.mk (below_then HB.out HB.out.size hB)
    replace HE := Aside0.mk (HE.out.below hB)
    replace KF := Aside0.mk (blk_below KF.out hB)
    clear hB
    refine tK 4 10 hHeld ?_
    refine tK 5 11 hHeld ?_
    refine wpAnyH_done (by kernel_rfl) ?_ _
    go_wp2_with fail
    refine bodyPost_ret (results_list (rs := [.tmp 4, .tmp 5]) rfl (by simp) (.tmp (.tmp .nil))) rfl ?_
    exact ⟨_, _, rfl, HB.out, fun w2 hb => fault_num s 66 _ code w2 h0 h1 (HE.out.below hb) (fun w' hb' => one_no text code w' ((HE.out.below hb).below hb').err) (fun w' hb' => to16N 66 _ code w' ((HE.out.below hb).below hb').err (fun w'' t b old _ hb h1 h2 => as33N_one text code t b old w'' hb h1 h2))⟩
  · refine bodyPost_ret (results_list (rs := [.tmp 4, .tmp 5]) rfl (by simp) (.tmp (.tmp .nil))) rfl ?_
    exact ⟨_, _, rfl, HB.out, fun w2 hb => fault_nilp s w2 (HE.out.below hb)⟩
  · refine wp_region_held_drew (S := fun w' => w'.cell? ⟨w.heap.size, 4, none⟩ = some (.string text) ∧ w'.cell? ⟨w.heap.size + 1, 0, none⟩ = some (.int .i64 code)) (by kernel_rfl) ⟨e4, f0⟩ (fun hHeld => ?_)
    have hD := (Below.refl w1.heap.size w1).drew
    replace HE := Aside0.mk (HE.out.below hD)
    replace HB := Aside0.mk (below_then HB.out HB.out.size hD)
    replace KF := Aside0.mk (blk_below KF.out hD)
    clear hD e0 e4 f0 KE
    generalize w1.drew = w2 at *
    refine tK 68 0 hHeld ?_
    refine tK 69 1 hHeld ?_
    refine tK 71 3 hHeld ?_
    refine tK 72 4 hHeld ?_
    refine tK 73 5 hHeld ?_
    refine tK 74 6 hHeld ?_
    refine tK 77 9 hHeld ?_
    refine cK 70 2 (new_calls text w2) ?_
    rintro en w3 ⟨rfl, hw3⟩
    have hB : Below w2.heap.size w2 w3 := by rw [hw3]; exact (Below.refl _ _).alloc (Nat.le_refl _) _
    refine ⟨_, rfl, ⟨pwc hB hHeld.1, pwc hB hHeld.2⟩, fun hHeld => nA ?_⟩
    replace HB := Aside0.mk (below_then HB.out HB.out.size hB)
    replace HE := Aside0.mk (HE.out.below hB)
    replace KF := Aside0.mk (blk_below KF.out hB)
    clear hB hw3
    refine wpAnyH_ready (rs := [7]) (by kernel_rfl) (by simp) ?_
    refine AllReadyH.cons rfl (fun K hK => ?_) AllReadyH.nil
    go_simp
    have hB : Below w3.heap.size w3 (w3.alloc (.cells #[.iface 83 (.pointer (some ⟨w2.heap.size, 0, none⟩)), .iface 22 (.int .i64 code), .iface 34 (.pointer (some ⟨w.heap.size + 1, 0, none⟩))] 47)) := (Below.refl _ _).alloc (Nat.le_refl _) _
    have hS := heap_alloc_new w3 (.cells #[.iface 83 (.pointer (some ⟨w2.heap.size, 0, none⟩)), .iface 22 (.int .i64 code), .iface 34 (.pointer (some ⟨w.heap.size + 1, 0, none⟩))] 47)
    refine hK.out _ _ ⟨pwc hB hHeld.1, pwc hB hHeld.2⟩ (fun hHeld => nA ?_)
    clear hK K
    replace HB := Aside0.mk (below_then HB.out HB.out.size hB)
    replace HE := Aside0.mk (HE.out.below hB)
    replace KF := Aside0.mk (blk_below KF.out hB)
    clear hB
    refine cK 76 8 (join_calls w3.heap.size _ _ code _ ((blk_cell hS 0).trans rfl) ((blk_cell hS 1).trans rfl) ((blk_cell hS 2).trans rfl)) ?_
    rintro en w4 ⟨J, m, cap, rfl, hB, j0, m0, m1, m2⟩
    have HJ := Aside0.mk (And.intro j0 (And.intro m0 (And.intro m1 m2)))
    refine ⟨_, rfl, ⟨pwc hB hHeld.1, pwc hB hHeld.2⟩, fun hHeld => nA ?_⟩
    replace HB := Aside0.mk (below_then HB.out HB.out.size hB)
    replace HE := Aside0.mk (HE.out.below hB)
    replace KF := Aside0.mk (blk_below KF.out hB)
    clear hB hS j0 m0 m1 m2
    refine tK 4 10 hHeld ?_
    refine tK 5 11 hHeld ?_
    refine wpAnyH_done (by kernel_rfl) ?_ _
    go_wp2_with fail
    refine bodyPost_ret (results_list (rs := [.tmp 4, .tmp 5]) rfl (by simp) (.tmp (.tmp .nil))) rfl ?_
    exact ⟨_, _, rfl, HB.out, fun w5 hb => fault_at s word 87 _ (w.heap.size + 1) code at_ w5 hs hwd h0 h1 (HE.out.below hb) (fun w' hb' => to16F 87 _ _ w' ((HE.out.below hb).below hb').err (fun w'' t b old hb2 hb3 ht hf =>
      have k : ∀ {a : Addr} {v : Value}, w4.cell? a = some v → w''.cell? a = some v := fun h => pwc (below_then (below_then hb hb.size hb') (below_then hb hb.size hb').size hb2) h
      as33F_join ⟨w2.heap.size, 0, none⟩ code _ J m cap t b old w'' hb3 ht hf (k HJ.out.1) (k HJ.out.2.1) (k HJ.out.2.2.1) (k HJ.out.2.2.2))) (blk_below KF.out hb)⟩
end Go.Proofs.YtamfknhgjkmdfaaDoor.X
