/- (api.Errno).Error and report.words by their contracts. -/
import Derived.Test.YtamfknhgjkmdfaaDoorHEnv
namespace Go.Proofs.YtamfknhgjkmdfaaDoor.X
open Go.RowKit Go.Proofs.YtamfknhgjkmdfaaDoorW.PrintWords Go.Proofs.YtamfknhgjkmdfaaDoorW.PrintLast Go.Proofs.YtamfknhgjkmdfaaDoorW.PrintMore
set_option linter.unusedVariables false
set_option linter.unusedSimpArgs false
/-- A number of an error, as its own text. -/
def errB (e : Int) : List UInt8 := [101, 114, 114, 111, 114, 32] ++ Lib.itoa e
/-- A number in words. -/
def wordsB (e : Int) : List UInt8 :=
  if e == 3 then [116, 111, 111, 32, 108, 111, 110, 103] else
  if e == 5 then [116, 104, 101, 114, 101, 32, 105, 115, 32, 110, 111, 110, 101] else
  if e == 4 then [110, 111, 32, 114, 111, 111, 109] else
  if e == 10 then [110, 111, 32, 119, 111, 114, 100] else
  if e == 20 then [110, 111, 32, 116, 121, 112, 101] else
  if e == 30 then [110, 111, 32, 116, 101, 114, 109] else
  if e == 31 then [116, 111, 111, 32, 100, 101, 101, 112] else
  if e == 32 then [116, 111, 111, 32, 98, 105, 103] else
  if e == 40 then [116, 104, 105, 115, 32, 99, 97, 110, 39, 116, 32, 115, 116, 97, 110, 100, 32, 104, 101, 114, 101] else
  if e == 41 then [97, 110, 32, 117, 110, 107, 110, 111, 119, 110, 32, 110, 97, 109, 101] else
  if e == 90 then [116, 104, 105, 115, 32, 99, 97, 110, 39, 116, 32, 98, 101, 32, 117, 115, 101, 100, 32, 115, 111] else
  if e == 91 then [116, 121, 112, 101, 115, 32, 116, 104, 97, 116, 32, 100, 111, 32, 110, 111, 116, 32, 97, 103, 114, 101, 101] else
  if e == 110 then [97, 110, 32, 117, 110, 107, 110, 111, 119, 110, 32, 116, 121, 112, 101] else
  if e == 130 then [97, 32, 99, 97, 115, 116, 32, 116, 104, 97, 116, 32, 105, 115, 32, 110, 111, 110, 101] else
  if e == 230 then [100, 101, 102, 105, 110, 105, 116, 105, 111, 110, 115, 32, 116, 104, 97, 116, 32, 109, 97, 107, 101, 32, 110, 111, 32, 112, 114, 111, 103, 114, 97, 109] else
  if e == 231 then [105, 116, 32, 105, 115, 32, 116, 104, 101, 114, 101, 32, 97, 108, 114, 101, 97, 100, 121] else
  if e == 280 then [110, 111, 32, 115, 99, 114, 105, 112, 116] else
  errB e
set_option maxRecDepth 100000 in
theorem error_calls (e : Int) (w : World) (h0 : -9223372036854775808 ≤ e) (h1 : e ≤ 9223372036854775807) (hE : Env w) :
    Calls Tryd.prog 21 #[.int .i64 e] w fun en w' => en = .returned (.string ⟨(errB e).toArray⟩) ∧ Below w.heap.size w w' := by
  have HL := itoa_len e h0 h1
  have q0 : ¬ (9223372036854775807 < 6 + (Lib.itoa e).length) := by omega
  go_enter Tryd.func21, Tryd.ntmps21
  go_wp2_with fail
  refine (itoa_calls e w h0 h1 hE).mono ?_
  rintro en w' ⟨rfl, hb⟩
  go_wp2_with fail
  go_ret
  refine ⟨?_, hb⟩
  show Ending.returned (.string _) = _
  rw [show ((⟨#[101, 114, 114, 111, 114, 32]⟩ : ByteArray)) = ⟨[101, 114, 114, 111, 114, 32].toArray⟩ from rfl, bytes_app]
  rfl
set_option maxRecDepth 100000 in
set_option maxHeartbeats 3200000 in
theorem words_calls (e : Int) (w : World) (h0 : -9223372036854775808 ≤ e) (h1 : e ≤ 9223372036854775807) (hE : Env w) :
    Calls Tryd.prog 19 #[.int .i64 e] w fun en w' => en = .returned (.string ⟨(wordsB e).toArray⟩) ∧ Below w.heap.size w w' := by
  have HE := Aside0.mk hE
  clear hE
  go_enter Tryd.func19, Tryd.ntmps19
  go_wp2_with fail
  rotate_right
  · refine (error_calls e w h0 h1 HE.out).mono ?_
    rintro en w' ⟨rfl, hb⟩
    go_wp2_with fail
    go_ret
    refine ⟨?_, hb⟩
    show Ending.returned (.string _) = _
    unfold wordsB
    simp only [*, if_true, if_false, Bool.false_eq_true]
  all_goals
    go_ret
    refine ⟨?_, Below.refl _ _⟩
    show Ending.returned (.string _) = _
    unfold wordsB
    simp only [*, if_true, if_false, Bool.false_eq_true]
end Go.Proofs.YtamfknhgjkmdfaaDoor.X
