/- Hand texts of round 1, parted: HOf. -/
import Derived.Test.YtamhdpllmhafhaaHIs
import Derived.Test.YtamhdpllmhafhaaX0
namespace Go.Proofs.Ytamhdpllmhafhaa.X
open Go.RowKit Go.Proofs.YtamhdpllmhafhaaW.PrintWords Go.Proofs.YtamhdpllmhafhaaW.PrintLast Go.Proofs.YtamhdpllmhafhaaW.PrintMore
set_option linter.unusedVariables false
set_option linter.unusedSimpArgs false


/-! ### a type of two parts -/
theorem C_two {w : World} {g : Nat} {a b : S26} {Aa Ab : Option Addr} {ca cb : Nat} {cap : Nat} {t : TypeId}
    (hb : w.heap[g]? = some (.cells #[.int .i8 a.f0, .slice Aa a.f1.length ca, .int .i8 b.f0, .slice Ab b.f1.length cb] t (0, 0))) (ha1 : a.f1.length ≤ ca) (hb1 : b.f1.length ≤ cb)
    (hca : Kd.C k26 w Aa a.f1.length a.f1) (hcb : Kd.C k26 w Ab b.f1.length b.f1) : Kd.C k26 w (some ⟨g, 0, none⟩) 2 [a, b] := by
  have hc := blk_cell hb
  refine ⟨rfl, by omega, fun _ => ⟨_, rfl, fun j p hj => ?_⟩⟩
  match j, hj with
  | 0, hj =>
    obtain rfl : a = p := by simpa using hj
    refine ⟨_, rfl, k26_mk w a ha1 hca, fun i u hu => ?_⟩
    match i, hu with
    | 0, hu => simpa [Addr.add] using (hc 0).trans hu
    | 1, hu => simpa [Addr.add] using (hc 1).trans hu
  | 1, hj =>
    obtain rfl : b = p := by simpa using hj
    refine ⟨_, rfl, k26_mk w b hb1 hcb, fun i u hu => ?_⟩
    match i, hu with
    | 0, hu => simpa [Addr.add, k26, Kd.fix] using (hc 2).trans hu
    | 1, hu => simpa [Addr.add, k26, Kd.fix] using (hc 3).trans hu
set_option maxHeartbeats 800000 in
theorem Of_calls {k : Int} {a b : S26} {va vb : Value} {w : World} (ha : IsT w va a) (hb : IsT w vb b) :
    Calls Try.prog 29 #[.int .i8 k, va, vb] w fun e w' => ∃ v, e = .returned v ∧ IsT w' v ⟨k, [a, b]⟩ ∧ Below w.heap.size w w' := by
  obtain ⟨Aa, ca, rfl, ha1, ha2⟩ := ha
  obtain ⟨Ab, cb, rfl, hb1, hb2⟩ := hb
  have HA := Aside0.mk ha2
  have HB := Aside0.mk hb2
  clear ha2 hb2
  have hB4 : Below w.heap.size w ((((w.alloc (.cells #[.int .i8 a.f0, .slice Aa a.f1.length ca] 26)).alloc (.cells #[.int .i8 b.f0, .slice Ab b.f1.length cb] 26)).alloc (.cells #[.int .i8 k, .slice (some ⟨w.heap.size + 1 + 1 + 1, 0, none⟩) 2 2] 26)).alloc (.cells #[.int .i8 a.f0, .slice Aa a.f1.length ca, .int .i8 b.f0, .slice Ab b.f1.length cb] 26)) :=
    ((((Below.refl _ _).alloc (Nat.le_refl _) _).alloc (by simp) _).alloc (by simp; omega) _).alloc (by simp; omega) _
  have hb4 := heap_alloc_new (((w.alloc (.cells #[.int .i8 a.f0, .slice Aa a.f1.length ca] 26)).alloc (.cells #[.int .i8 b.f0, .slice Ab b.f1.length cb] 26)).alloc (.cells #[.int .i8 k, .slice (some ⟨w.heap.size + 1 + 1 + 1, 0, none⟩) 2 2] 26)) (.cells #[.int .i8 a.f0, .slice Aa a.f1.length ca, .int .i8 b.f0, .slice Ab b.f1.length cb] 26)
  have hT := C_two (cap := 0) hb4 ha1 hb1 (Kd.C_below HA.out hB4) (Kd.C_below HB.out hB4)
  have HT := Aside0.mk hT
  have HB4 := Aside0.mk hB4
  clear hT hB4 hb4 HA HB
  go_enter Try.func29, Try.ntmps29
  go_wp2
  refine bodyPost_ret (v := .agg #[.int .i8 k, .slice (some ⟨w.heap.size + 1 + 1 + 1, 0, none⟩) 2 2]) (by simp [results, Try.results29, go_sem]) rfl ⟨_, rfl, ⟨_, _, rfl, by simp, ?_⟩, HB4.out⟩
  simpa using HT.out
end Go.Proofs.Ytamhdpllmhafhaa.X
