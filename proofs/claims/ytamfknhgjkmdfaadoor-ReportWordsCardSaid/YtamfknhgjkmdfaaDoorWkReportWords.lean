/- The walk of the law ReportWords: it returns true. -/
import Derived.Test.YtamfknhgjkmdfaaDoorHFaultN
import Derived.Test.YtamfknhgjkmdfaaDoorHRefB
import Derived.Test.YtamfknhgjkmdfaaDoorHWakes
namespace Go.Proofs.YtamfknhgjkmdfaaDoor.X
open Go.RowKit Go.Proofs.YtamfknhgjkmdfaaDoorW.PrintWords Go.Proofs.YtamfknhgjkmdfaaDoorW.PrintLast Go.Proofs.YtamfknhgjkmdfaaDoorW.PrintMore
set_option linter.unusedVariables false
set_option linter.unusedSimpArgs false
theorem fault_zero (q : Nat) (n : Int) (w : World) (h0 : -9223372036854775808 ≤ n) (h1 : n ≤ 9223372036854775807) (hE : Env w) (hq : w.heap[q]? = some (.cells #[.int .i64 n, .int .i64 0, .string ⟨#[]⟩] 36 (0, 0))) :
    Calls Tryd.prog 6 #[.string ⟨#[]⟩, .iface 34 (.pointer (some ⟨q, 0, none⟩))] w fun e w' => e = .returned (.string ⟨(49 :: 58 :: 49 :: 58 :: 32 :: wordsB n).toArray⟩) ∧ Below w.heap.size w w' := by
  refine (fault_at ⟨#[]⟩ ⟨#[]⟩ 34 _ q n 0 w (by decide) (by decide) h0 h1 hE (fun w' hb => as_ptr q w' (hE.below hb).err) hq).mono ?_
  rintro e w' ⟨rfl, hb⟩
  refine ⟨?_, hb⟩
  have : faultB [] n (atN 0 0) [] = 49 :: 58 :: 49 :: 58 :: 32 :: wordsB n := by
    unfold faultB
    have hp : placeB [] (atN 0 0) = [49, 58, 49] := by
      unfold placeB
      rw [show whereP (List.take (atN 0 0) []) = (1, 1) by decide]
      simp only
      rw [itoa_one 1 (by decide)]
      rfl
    rw [if_pos rfl, hp, joinB2]
    rfl
  show Ending.returned (.string ⟨(faultB [] n (atN 0 0) []).toArray⟩) = _
  rw [this]
set_option maxRecDepth 100000 in
set_option maxHeartbeats 3200000 in
theorem reportwords_walk (w : World) (hE : Env w) : Calls Tryd.prog 3 #[] w fun e w' => e = .returned (.bool true) ∧ Below w.heap.size w w' := by
  have HE0 := Aside0.mk hE
  clear hE
  go_enter Tryd.func3, Tryd.ntmps3
  go_wp2_with fail
  go_loopw [1] (fun i wr => ∃ n : Int, i = .int .i64 n ∧ -2 ≤ n ∧ n ≤ 300 ∧ Below w.heap.size w wr) (fun i _ => (300 - intOf i).toNat)
  case atStart => exact ⟨-2, rfl, by decide, by decide, Below.refl _ _⟩
  case round =>
    obtain ⟨n, rfl, hn0, hn1, hb⟩ := hrel
    have HB := Aside0.mk hb
    have HE := Aside0.mk (HE0.out.below hb)
    clear hb
    by_cases hlt : n < 300
    · have hcat : Aside0 ((⟨#[49, 58, 49, 58, 32]⟩ : ByteArray) ++ ⟨(wordsB n).toArray⟩ = ⟨(49 :: 58 :: 49 :: 58 :: 32 :: wordsB n).toArray⟩) := .mk (by
        rw [show (⟨#[49, 58, 49, 58, 32]⟩ : ByteArray) = ⟨[49, 58, 49, 58, 32].toArray⟩ from rfl, bytes_app]; rfl)
      have hwl := words_len n (by omega) (by omega)
      have HF := Aside0.mk (fun q W (hEW : Env W) hq => fault_zero q n W (by omega) (by omega) hEW hq)
      have HO := Aside0.mk (fun W (hEW : Env W) => out_calls ⟨#[]⟩ ⟨#[]⟩ n 0 0 0 false false (.slice none 0 0) W (by decide) (by decide) (by omega) (by omega) (by decide) (by decide) (by decide) hEW rfl)
      have HQ := Aside0.mk (fun W (hEW : Env W) => rout_calls ⟨#[]⟩ ⟨#[]⟩ n 0 0 0 false false (.slice none 0 0) W (by decide) (by decide) (by omega) (by omega) (by decide) (by decide) (by decide) hEW rfl)
      have HN := Aside0.mk (fun W (hEW : Env W) => fault_errno ⟨#[]⟩ n W (by omega) (by omega) hEW)
      have HW := Aside0.mk (fun W (hEW : Env W) => rwords_calls n W (by omega) (by omega) hEW)
      generalize wordsB n = wd at *
      generalize outB (⟨#[]⟩ : ByteArray).data.toList (⟨#[]⟩ : ByteArray).size n 0 (⟨#[]⟩ : ByteArray).data.toList 0 false = ob at *
      go_wp2_with fail
      refine (HN.out wr HE.out).mono ?_
      rintro en w1 ⟨rfl, hB⟩
      replace HE := Aside0.mk (HE.out.below hB)
      replace HB := Aside0.mk (below_then HB.out HB.out.size hB)
      clear hB
      go_wp2_with fail
      refine (HW.out w1 HE.out).mono ?_
      rintro en w2 ⟨rfl, hB⟩
      replace HE := Aside0.mk (HE.out.below hB)
      replace HB := Aside0.mk (below_then HB.out HB.out.size hB)
      clear hB
      go_wp2_with fail
      refine (HO.out w2 HE.out).mono ?_
      rintro en w3 ⟨rfl, hB⟩
      replace HE := Aside0.mk (HE.out.below hB)
      replace HB := Aside0.mk (below_then HB.out HB.out.size hB)
      clear hB
      go_wp2_with fail
      refine (HQ.out w3 HE.out).mono ?_
      rintro en w4 ⟨rfl, hB⟩
      replace HE := Aside0.mk (HE.out.below hB)
      replace HB := Aside0.mk (below_then HB.out HB.out.size hB)
      clear hB
      go_wp2_with fail
      have hB : Below w4.heap.size w4 (w4.alloc (.cells #[.int .i64 n, .int .i64 0, .string ⟨#[]⟩] 36)) := (Below.refl _ _).alloc (Nat.le_refl _) _
      have hq := heap_alloc_new w4 (.cells #[.int .i64 n, .int .i64 0, .string ⟨#[]⟩] 36)
      replace HE := Aside0.mk (HE.out.below hB)
      replace HB := Aside0.mk (below_then HB.out HB.out.size hB)
      clear hB
      generalize w4.alloc (.cells #[.int .i64 n, .int .i64 0, .string ⟨#[]⟩] 36) = w5 at *
      refine (HF.out w4.heap.size w5 HE.out hq).mono ?_
      rintro en w6 ⟨rfl, hB⟩
      replace HE := Aside0.mk (HE.out.below hB)
      replace HB := Aside0.mk (below_then HB.out HB.out.size hB)
      clear hB
      clear hq
      go_wp2_with fail
      refine (HW.out w6 HE.out).mono ?_
      rintro en w7 ⟨rfl, hB⟩
      replace HE := Aside0.mk (HE.out.below hB)
      replace HB := Aside0.mk (below_then HB.out HB.out.size hB)
      clear hB
      have q0 : ¬ (9223372036854775807 < 5 + wd.length) := by omega
      have hc2 := hcat.out
      go_wp2_with fail
      exact ⟨⟨n + 1, by first | rfl | simp, by omega, by omega, HB.out⟩, by first | (simp [intOf]; done) | (simp [intOf]; omega)⟩
    · go_wp2_with fail
      refine (wakes_calls wr HE.out).mono ?_
      rintro en w1 ⟨rfl, hB⟩
      go_wp2_with fail
      go_ret
      exact ⟨rfl, below_then HB.out HB.out.size hB⟩
end Go.Proofs.YtamfknhgjkmdfaaDoor.X
