/- The document's Words, Digits, number by their contracts. -/
import Derived.Test.YtamfknhgjkmdfaaDoorHWords
import Derived.Lib.ItoaMem
namespace Go.Proofs.YtamfknhgjkmdfaaDoor.X
open Go.RowKit Go.Proofs.YtamfknhgjkmdfaaDoorW.PrintWords Go.Proofs.YtamfknhgjkmdfaaDoorW.PrintLast Go.Proofs.YtamfknhgjkmdfaaDoorW.PrintMore
set_option linter.unusedVariables false
set_option linter.unusedSimpArgs false
set_option maxRecDepth 100000 in
set_option maxHeartbeats 3200000 in
theorem rwords_calls (e : Int) (w : World) (h0 : -9223372036854775808 ≤ e) (h1 : e ≤ 9223372036854775807) (hE : Env w) :
    Calls Tryd.prog 7 #[.int .i64 e] w fun en w' => en = .returned (.string ⟨(wordsB e).toArray⟩) ∧ Below w.heap.size w w' := by
  have HE := Aside0.mk hE
  clear hE
  go_enter Tryd.func7, Tryd.ntmps7
  go_wp2_with fail
  rotate_right
  · refine (error_calls e w h0 h1 HE.out).mono ?_
    rintro en w' ⟨rfl, hb⟩
    go_wp2_with fail
    go_ret
    refine ⟨?_, hb⟩
    show Ending.returned (.string _) = _
    unfold wordsB
    simp only [*, if_true, if_false, Bool.false_eq_true]
  all_goals
    go_ret
    refine ⟨?_, Below.refl _ _⟩
    show Ending.returned (.string _) = _
    unfold wordsB
    simp only [*, if_true, if_false, Bool.false_eq_true]
theorem enc_digit (d : Nat) (h : d < 10) : Utf8.encode (48 + (d : Int)) = ⟨#[UInt8.ofNat (48 + d)]⟩ := by
  have hk : d = 0 ∨ d = 1 ∨ d = 2 ∨ d = 3 ∨ d = 4 ∨ d = 5 ∨ d = 6 ∨ d = 7 ∨ d = 8 ∨ d = 9 := by omega
  rcases hk with rfl | rfl | rfl | rfl | rfl | rfl | rfl | rfl | rfl | rfl <;> rfl
set_option maxRecDepth 100000 in
set_option maxHeartbeats 3200000 in
theorem digits_calls (N : Nat) (w : World) (h : N ≤ 9223372036854775807) :
    Calls Tryd.prog 36 #[.int .i64 (N : Int)] w fun en w' => en = .returned (.string ⟨(Lib.decDigits N).toArray⟩) ∧ Below w.heap.size w w' := by
  have hlen := dec_len 18 N (by omega)
  go_enter Tryd.func36, Tryd.ntmps36
  go_wp2_with fail
  go_loopw [0, 3] (fun nv sv wr => ∃ (m : Nat) (t : ByteArray), nv = .int .i64 m ∧ sv = .string t ∧ m ≤ 9223372036854775807 ∧ Lib.decDigits N = Lib.decDigits m ++ t.data.toList ∧ Below w.heap.size w wr) (fun nv _ _ => (intOf nv).toNat)
  case atStart => exact ⟨N, ⟨#[]⟩, rfl, rfl, h, by simp, Below.refl _ _⟩
  case round =>
    obtain ⟨m, t, rfl, rfl, hm, hd, hB⟩ := hrel
    have htl : t.size ≤ 19 := by
      have := congrArg List.length hd
      simp at this
      omega
    have HD := Aside0.mk hd
    have HB := Aside0.mk hB
    clear hd hB hlen
    by_cases h9 : m < 10
    · have hn : ¬ ((9 : Int) < (m : Int)) := by omega
      have he := enc_digit m h9
      have HC := Aside0.mk (Lib.decDigits_one h9)
      generalize UInt8.ofNat (48 + m) = c at he HC
      have q0 : ¬ (9223372036854775807 < 1 + t.size) := by omega
      go_wp2_with fail
      go_ret
      refine ⟨?_, HB.out⟩
      rw [HD.out, HC.out]
      show Ending.returned (.string _) = _
      congr 2
    · have hn : ((9 : Int) < (m : Int)) := by omega
      have he := enc_digit (m % 10) (by omega)
      rw [show ((m % 10 : Nat) : Int) = (m : Int) % 10 from rfl] at he
      have HC : Aside0 (Lib.decDigits m = Lib.decDigits (m / 10) ++ [UInt8.ofNat (48 + m % 10)]) := .mk (by rw [Lib.decDigits, dif_neg h9])
      generalize UInt8.ofNat (48 + m % 10) = c at he HC
      have q0 : ¬ (9223372036854775807 < 1 + t.size) := by omega
      go_wp2_with fail
      refine ⟨⟨m / 10, (⟨#[c]⟩ : ByteArray) ++ t, by simp, by simp, by omega, ?_, HB.out⟩, by simp [intOf]; omega⟩
      rw [HD.out, HC.out, List.append_assoc]
      simp [ByteArray.data_append]
set_option maxRecDepth 100000 in
set_option maxHeartbeats 3200000 in
theorem number_calls (n : Int) (w : World) (h0 : -9223372036854775808 ≤ n) (h1 : n ≤ 9223372036854775807) :
    Calls Tryd.prog 23 #[.int .i64 n] w fun en w' => en = .returned (.string ⟨(Lib.itoa n).toArray⟩) ∧ Below w.heap.size w w' := by
  by_cases hm : n = -9223372036854775808
  · subst hm
    go_enter Tryd.func23, Tryd.ntmps23
    go_wp2_with fail
    go_ret
    refine ⟨?_, Below.refl _ _⟩
    have : Lib.itoa (-9223372036854775808) = [45, 57, 50, 50, 51, 51, 55, 50, 48, 51, 54, 56, 53, 52, 55, 55, 53, 56, 48, 56] := by
      rw [show (-9223372036854775808 : Int) = -((9223372036854775808 : Nat) : Int) from rfl, Lib.itoa_neg _ (by decide)]
      simp [Lib.decDigits]
    rw [this]
    rfl
  · have he : (n == -9223372036854775808) = false := by simpa using hm
    by_cases hn : n < 0
    · obtain ⟨m, rfl⟩ : ∃ m : Nat, n = -(m : Int) := ⟨n.natAbs, by omega⟩
      have hit : Aside0 (Lib.itoa (-(m : Int)) = 45 :: Lib.decDigits m) := .mk (Lib.itoa_neg m (by omega))
      have hl := dec_len 18 m (by omega)
      have q0 : ¬ (9223372036854775807 < 1 + (Lib.decDigits m).length) := by omega
      go_enter Tryd.func23, Tryd.ntmps23
      go_wp2_with fail
      refine (digits_calls m w (by omega)).mono ?_
      rintro en w' ⟨rfl, hb⟩
      go_wp2_with fail
      go_ret
      refine ⟨?_, hb⟩
      rw [hit.out]
      show Ending.returned (.string _) = _
      rw [show ((⟨#[45]⟩ : ByteArray)) = ⟨[45].toArray⟩ from rfl, bytes_app]
      rfl
    · obtain ⟨m, rfl⟩ : ∃ m : Nat, n = (m : Int) := ⟨n.toNat, by omega⟩
      have hit : Aside0 (Lib.itoa (m : Int) = Lib.decDigits m) := .mk (Lib.itoa_nonneg m)
      go_enter Tryd.func23, Tryd.ntmps23
      go_wp2_with fail
      refine (digits_calls m w (by omega)).mono ?_
      rintro en w' ⟨rfl, hb⟩
      go_wp2_with fail
      go_ret
      exact ⟨by rw [hit.out]; rfl, hb⟩
end Go.Proofs.YtamfknhgjkmdfaaDoor.X
