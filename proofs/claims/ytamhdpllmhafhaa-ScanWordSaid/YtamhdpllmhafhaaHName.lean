/- The contract of scan.Name: whether a text is one name. -/
import Derived.Test.YtamhdpllmhafhaaX4
import Derived.Lib.ConvBytes
import Derived.Outline
namespace Go.Proofs.Ytamhdpllmhafhaa.X
open Go.RowKit Go.Proofs.YtamhdpllmhafhaaW.PrintWords Go.Proofs.YtamhdpllmhafhaaW.PrintLast Go.Proofs.YtamhdpllmhafhaaW.PrintMore
set_option linter.unusedVariables false
set_option linter.unusedSimpArgs false

def digitB (c : Int) : Bool := decide (48 ≤ c) && decide (c ≤ 57)
def letterB (c : Int) : Bool := (decide (65 ≤ c) && decide (c ≤ 90)) || (decide (97 ≤ c) && decide (c ≤ 122)) || c == 95
theorem digit_is (c : Int) : scan_digit.f c = some (digitB c) := by
  unfold scan_digit.f digitB
  by_cases h : 48 ≤ c <;> simp [h]
theorem letter_is (c : Int) : scan_letter.f c = some (letterB c) := by
  unfold scan_letter.f letterB
  by_cases h1 : 65 ≤ c <;> by_cases h2 : c ≤ 90 <;> by_cases h3 : 97 ≤ c <;> by_cases h4 : c ≤ 122 <;> simp [h1, h2, h3, h4] <;> omega
def keysL : List (List UInt8) := [[108, 101, 116], [105, 110], [105, 102], [116, 104, 101, 110], [101, 108, 115, 101], [114, 101, 99], [99, 97, 115, 101], [111, 102], [102, 115, 116], [115, 110, 100], [105, 110, 108], [105, 110, 114], [116, 114, 117, 101], [102, 97, 108, 115, 101], [105, 110, 116], [98, 111, 111, 108]]
def keyB (s : ByteArray) : Bool := keysL.contains s.toList
theorem key_yes {l : List UInt8} {k : List UInt8} (h : l = k) (hk : keysL.contains k = true) : some true = some (keysL.contains l) := by rw [h, hk]
theorem refkey_is (s : ByteArray) : lychgateref01_Key.f s = some (keyB s) := by
  unfold lychgateref01_Key.f keyB
  generalize s.toList = l
  by_cases h0 : l = ([108, 101, 116] : List UInt8)
  · rw [if_pos h0]; exact key_yes h0 (by decide)
  rw [if_neg h0]
  by_cases h1 : l = ([105, 110] : List UInt8)
  · rw [if_pos h1]; exact key_yes h1 (by decide)
  rw [if_neg h1]
  by_cases h2 : l = ([105, 102] : List UInt8)
  · rw [if_pos h2]; exact key_yes h2 (by decide)
  rw [if_neg h2]
  by_cases h3 : l = ([116, 104, 101, 110] : List UInt8)
  · rw [if_pos h3]; exact key_yes h3 (by decide)
  rw [if_neg h3]
  by_cases h4 : l = ([101, 108, 115, 101] : List UInt8)
  · rw [if_pos h4]; exact key_yes h4 (by decide)
  rw [if_neg h4]
  by_cases h5 : l = ([114, 101, 99] : List UInt8)
  · rw [if_pos h5]; exact key_yes h5 (by decide)
  rw [if_neg h5]
  by_cases h6 : l = ([99, 97, 115, 101] : List UInt8)
  · rw [if_pos h6]; exact key_yes h6 (by decide)
  rw [if_neg h6]
  by_cases h7 : l = ([111, 102] : List UInt8)
  · rw [if_pos h7]; exact key_yes h7 (by decide)
  rw [if_neg h7]
  by_cases h8 : l = ([102, 115, 116] : List UInt8)
  · rw [if_pos h8]; exact key_yes h8 (by decide)
  rw [if_neg h8]
  by_cases h9 : l = ([115, 110, 100] : List UInt8)
  · rw [if_pos h9]; exact key_yes h9 (by decide)
  rw [if_neg h9]
  by_cases h10 : l = ([105, 110, 108] : List UInt8)
  · rw [if_pos h10]; exact key_yes h10 (by decide)
  rw [if_neg h10]
  by_cases h11 : l = ([105, 110, 114] : List UInt8)
  · rw [if_pos h11]; exact key_yes h11 (by decide)
  rw [if_neg h11]
  by_cases h12 : l = ([116, 114, 117, 101] : List UInt8)
  · rw [if_pos h12]; exact key_yes h12 (by decide)
  rw [if_neg h12]
  by_cases h13 : l = ([102, 97, 108, 115, 101] : List UInt8)
  · rw [if_pos h13]; exact key_yes h13 (by decide)
  rw [if_neg h13]
  by_cases h14 : l = ([105, 110, 116] : List UInt8)
  · rw [if_pos h14]; exact key_yes h14 (by decide)
  rw [if_neg h14]
  by_cases h15 : l = ([98, 111, 111, 108] : List UInt8)
  · rw [if_pos h15]; exact key_yes h15 (by decide)
  rw [if_neg h15]
  have : keysL.contains l = false := by simp [keysL, h0, h1, h2, h3, h4, h5, h6, h7, h8, h9, h10, h11, h12, h13, h14, h15]
  rw [this]
theorem key_is (k : Nat) (s : ByteArray) : scan_Key.f (k + 1) s = some (keyB s) := by
  unfold scan_Key.f keyB
  simp only [scan_Key.j0]
  generalize s.toList = l
  by_cases h0 : l = ([108, 101, 116] : List UInt8)
  · rw [if_pos h0, if_pos (beq_iff_eq.2 h0)]; exact key_yes h0 (by decide)
  rw [if_neg h0]
  by_cases h1 : l = ([105, 110] : List UInt8)
  · rw [if_pos h1, if_pos (beq_iff_eq.2 h1)]; exact key_yes h1 (by decide)
  rw [if_neg h1]
  by_cases h2 : l = ([105, 102] : List UInt8)
  · rw [if_pos h2, if_pos (beq_iff_eq.2 h2)]; exact key_yes h2 (by decide)
  rw [if_neg h2]
  by_cases h3 : l = ([116, 104, 101, 110] : List UInt8)
  · rw [if_pos h3, if_pos (beq_iff_eq.2 h3)]; exact key_yes h3 (by decide)
  rw [if_neg h3]
  by_cases h4 : l = ([101, 108, 115, 101] : List UInt8)
  · rw [if_pos h4, if_pos (beq_iff_eq.2 h4)]; exact key_yes h4 (by decide)
  rw [if_neg h4]
  by_cases h5 : l = ([114, 101, 99] : List UInt8)
  · rw [if_pos h5, if_pos (beq_iff_eq.2 h5)]; exact key_yes h5 (by decide)
  rw [if_neg h5]
  by_cases h6 : l = ([99, 97, 115, 101] : List UInt8)
  · rw [if_pos h6, if_pos (beq_iff_eq.2 h6)]; exact key_yes h6 (by decide)
  rw [if_neg h6]
  by_cases h7 : l = ([111, 102] : List UInt8)
  · rw [if_pos (beq_iff_eq.2 h7)]; exact key_yes h7 (by decide)
  rw [if_neg (fun e => h7 (beq_iff_eq.1 e))]
  by_cases h8 : l = ([102, 115, 116] : List UInt8)
  · rw [if_pos h8]; exact key_yes h8 (by decide)
  rw [if_neg h8]
  by_cases h9 : l = ([115, 110, 100] : List UInt8)
  · rw [if_pos h9]; exact key_yes h9 (by decide)
  rw [if_neg h9]
  by_cases h10 : l = ([105, 110, 108] : List UInt8)
  · rw [if_pos h10]; exact key_yes h10 (by decide)
  rw [if_neg h10]
  by_cases h11 : l = ([105, 110, 114] : List UInt8)
  · rw [if_pos h11]; exact key_yes h11 (by decide)
  rw [if_neg h11]
  by_cases h12 : l = ([116, 114, 117, 101] : List UInt8)
  · rw [if_pos h12]; exact key_yes h12 (by decide)
  rw [if_neg h12]
  by_cases h13 : l = ([102, 97, 108, 115, 101] : List UInt8)
  · rw [if_pos h13]; exact key_yes h13 (by decide)
  rw [if_neg h13]
  by_cases h14 : l = ([105, 110, 116] : List UInt8)
  · rw [if_pos h14]; exact key_yes h14 (by decide)
  rw [if_neg h14]
  by_cases h15 : l = ([98, 111, 111, 108] : List UInt8)
  · rw [if_pos h15]; exact key_yes h15 (by decide)
  rw [if_neg h15]
  have : keysL.contains l = false := by simp [keysL, h0, h1, h2, h3, h4, h5, h6, h7, h8, h9, h10, h11, h12, h13, h14, h15]
  rw [this]

def nameB (s : ByteArray) : Bool := decide (s.size ≠ 0) && decide (s.size ≤ 64) && !digitB (bt s 0) && !keyB s && (s.data.toList.all fun b => letterB b.toNat || digitB b.toNat)
def scan_Name.f (a0 : ByteArray) : Option Bool := some (nameB a0)
theorem digit_calls (c : Int) (w : World) : Calls Try.prog 57 #[.int .u8 c] w fun e w' => e = .returned (.bool (digitB c)) ∧ Drawn0 w w' := scan_digit.calls c _ w (digit_is c)
theorem letter_calls (c : Int) (w : World) : Calls Try.prog 58 #[.int .u8 c] w fun e w' => e = .returned (.bool (letterB c)) ∧ Drawn0 w w' := scan_letter.calls c _ w (letter_is c)
theorem key_calls (s : ByteArray) (w : World) : Calls Try.prog 18 #[.string s] w fun e w' => e = .returned (.bool (keyB s)) ∧ Drawn0 w w' := scan_Key.calls 1 s _ w (key_is 0 s)
set_option maxRecDepth 100000 in
set_option maxHeartbeats 1600000 in
theorem scan_Name.calls (a0 : ByteArray) (r : Bool) (w : World) (h : scan_Name.f a0 = some r) :
    Calls Try.prog 20 #[.string a0] w fun e w' => e = .returned (.bool r) ∧ Below w.heap.size w w' := by
  unfold scan_Name.f at h
  have HV := Aside0.mk (Option.some.inj h)
  clear h
  by_cases c0 : a0.size = 0
  · have e0 : a0 = ⟨#[]⟩ := ByteArray.ext (Array.eq_empty_of_size_eq_zero c0)
    have hv : r = false := by rw [← HV.out]; simp [nameB, c0]
    subst hv
    subst e0
    clear HV c0
    go_enter Try.func20, Try.ntmps20
    go_wp2_with fail
    go_ret
    exact ⟨rfl, Below.refl _ _⟩
  have e0 : (a0.toList == []) = false := by
    rw [beq_eq_false_iff_ne]
    intro h
    apply c0
    have := congrArg List.length h
    simpa [ByteArray.toList_eq] using this
  by_cases c1 : 64 < a0.size
  · have hv : r = false := by rw [← HV.out]; simp [nameB]; omega
    subst hv
    clear HV c0
    go_enter Try.func20, Try.ntmps20
    go_wp2_with fail
    go_ret
    exact ⟨rfl, Below.refl _ _⟩
  have hpos : 0 < a0.size := by omega
  have hbt : bt a0 0 = ((a0[0]'hpos).toNat : Int) := by simp [bt, hpos]
  by_cases c2 : digitB ((a0[0]'hpos).toNat : Int) = true
  · have hv : r = false := by rw [← HV.out]; simp [nameB, hbt, c2]
    subst hv
    clear HV c0 hbt
    go_enter Try.func20, Try.ntmps20
    go_wp2_with fail
    refine (digit_calls _ _).mono ?_
    rintro e w' ⟨rfl, hd⟩
    rw [c2]
    have HD := Aside0.mk hd
    clear hd
    go_wp2_with fail
    go_ret
    exact ⟨rfl, HD.out.below⟩
  have c2 : digitB ((a0[0]'hpos).toNat : Int) = false := by simpa using c2
  by_cases c3 : keyB a0 = true
  · have hv : r = false := by rw [← HV.out]; simp [nameB, c3]
    subst hv
    clear HV c0 hbt
    go_enter Try.func20, Try.ntmps20
    go_wp2_with fail
    refine (digit_calls _ _).mono ?_
    rintro e w' ⟨rfl, hd⟩
    rw [c2]
    have HD := Aside0.mk hd
    clear hd
    go_wp2_with fail
    refine (key_calls _ _).mono ?_
    rintro e w2 ⟨rfl, hd2⟩
    rw [c3]
    have HD2 := Aside0.mk hd2
    clear hd2
    go_wp2_with fail
    go_ret
    exact ⟨rfl, below_then HD.out.below HD.out.below.size HD2.out.below⟩
  have c3 : keyB a0 = false := by simpa using c3
  have hv : r = a0.data.toList.all fun b => letterB b.toNat || digitB b.toNat := by rw [← HV.out]; simp [nameB, hbt, c2, c3, c0]; omega
  have HV := Aside0.mk hv
  clear hbt hv
  have hcv := fun W : World => Lib.run_convert_string_bytes (P := Try.prog) W 9 57 5 a0 Try.underlying9 Try.underlying57 Try.underlying5
  go_enter Try.func20, Try.ntmps20
  go_wp2_with fail
  refine (digit_calls _ _).mono ?_
  rintro e w' ⟨rfl, hd⟩
  rw [c2]
  have HD := Aside0.mk hd
  clear hd
  go_wp2_with fail
  refine (key_calls _ _).mono ?_
  rintro e w2 ⟨rfl, hd2⟩
  rw [c3]
  have HB := Aside0.mk (below_then HD.out.below HD.out.below.size hd2.below)
  clear hd2 HD
  go_wp2_with fail
  have hcell : ∀ j, j < a0.size → (Lib.bytesWorld w2 5 a0).cell? ⟨w2.heap.size, j, none⟩ = some (.int .u8 ((a0.data.toList.getD j 0).toNat : Int)) := fun j hj => Lib.bytesWorld_cell w2 5 a0 j hj
  have hB3 : Below w.heap.size w (Lib.bytesWorld w2 5 a0) := below_then HB.out HB.out.size ⟨rfl, rfl, rfl, by rw [Lib.bytesWorld_size]; omega, fun k hk => Lib.bytesWorld_at_old w2 5 a0 k hk⟩
  have hs3 : w2.heap.size < (Lib.bytesWorld w2 5 a0).heap.size := by rw [Lib.bytesWorld_size]; omega
  clear hcv HB
  generalize Lib.bytesWorld w2 5 a0 = W3 at *
  generalize w2.heap.size = g at *
  have HC := Aside0.mk hcell
  have HB3 := Aside0.mk hB3
  have hl : a0.data.toList.length = a0.size := by simp
  have HL := Aside0.mk hl
  clear hcell hB3 hl
  go_loopw [24] (fun i wr => ∃ k : Nat, i = .int .i64 k ∧ k ≤ a0.size ∧ (a0.data.toList.take k).all (fun b => letterB b.toNat || digitB b.toNat) = true ∧ Below W3.heap.size W3 wr) (fun i _ => a0.size - (intOf i).toNat)
  case atStart => exact ⟨0, rfl, Nat.zero_le _, rfl, Below.refl _ _⟩
  case round =>
    obtain ⟨k, rfl, hk, hall, hB⟩ := hrel
    have HB := Aside0.mk hB
    have HA := Aside0.mk hall
    clear hB hall
    by_cases hlt : k < a0.size
    · have hx : wr.cell? ⟨g, k, none⟩ = some (.int .u8 ((a0.data.toList.getD k 0).toNat : Int)) := (HB.out.cell hs3).trans (HC.out k hlt)
      have hn : ((a0.data.toList.getD k 0).toNat : Int) = ((a0.data.toList[k]'(by rw [HL.out]; exact hlt)).toNat : Int) := by rw [List.getD_eq_getElem?_getD, List.getElem?_eq_getElem]; rfl
      have HT := Aside0.mk (show a0.data.toList.take (k + 1) = a0.data.toList.take k ++ [a0.data.toList[k]'(by rw [HL.out]; exact hlt)] from List.take_succ_eq_append_getElem (by rw [HL.out]; exact hlt))
      rw [hn] at hx
      generalize a0.data.toList[k]'(by rw [HL.out]; exact hlt) = x at *
      clear hn
      go_wp2_with fail
      refine (letter_calls _ _).mono ?_
      rintro e w4 ⟨rfl, hd⟩
      have HB4 := Aside0.mk (below_then HB.out HB.out.size hd.below)
      clear hd HB
      by_cases hL : letterB (x.toNat : Int) = true
      · rw [hL]
        have HA2 := Aside0.mk (show (a0.data.toList.take (k + 1)).all (fun b => letterB b.toNat || digitB b.toNat) = true by rw [HT.out, List.all_append, HA.out]; simp [hL])
        clear hL
        go_wp2_with fail
        go_roundw
        case rel => exact ⟨k + 1, by go_num, by omega, HA2.out, HB4.out⟩
        case measure => simp [intOf]; omega
      · have hL : letterB (x.toNat : Int) = false := by simpa using hL
        rw [hL]
        have HLL := Aside0.mk hL
        clear hL
        go_wp2_with fail
        refine (digit_calls _ _).mono ?_
        rintro e w5 ⟨rfl, hd⟩
        have HB5 := Aside0.mk (below_then HB4.out HB4.out.size hd.below)
        clear hd HB4
        by_cases hD : digitB (x.toNat : Int) = true
        · rw [hD]
          have HA2 := Aside0.mk (show (a0.data.toList.take (k + 1)).all (fun b => letterB b.toNat || digitB b.toNat) = true by rw [HT.out, List.all_append, HA.out]; simp [hD])
          clear hD
          go_wp2_with fail
          go_roundw
          case rel => exact ⟨k + 1, by go_num, by omega, HA2.out, HB5.out⟩
          case measure => simp [intOf]; omega
        · have hD : digitB (x.toNat : Int) = false := by simpa using hD
          rw [hD]
          have hv : r = false := by
            rw [HV.out, ← Bool.not_eq_true]
            intro h
            rw [← List.take_append_drop (k + 1) a0.data.toList, List.all_append, HT.out, List.all_append] at h
            have hh := HLL.out
            simp [hh, hD] at h
          subst hv
          clear hD
          go_wp2_with fail
          go_ret
          exact ⟨rfl, below_then HB3.out HB3.out.size HB5.out⟩
    · obtain rfl : k = a0.size := by omega
      have hv : r = true := by
        have := HA.out
        rw [List.take_of_length_le (by rw [HL.out]; exact Nat.le_refl _)] at this
        rw [HV.out, this]
      subst hv
      go_wp2_with fail
      go_ret
      exact ⟨rfl, below_then HB3.out HB3.out.size HB.out⟩
end Go.Proofs.Ytamhdpllmhafhaa.X
