/- What the reference's All answers: the program's words, or its fault. -/
import Derived.Test.YtjmpejbciniceaaDoorFRef1c
import Derived.Test.YtjmpejbciniceaaDoorHAll
namespace Go.Proofs.YtjmpejbciniceaaDoor.X
open Go.RowKit Go.Proofs.YtjmpejbciniceaaDoorW.PrintWords Go.Proofs.YtjmpejbciniceaaDoorW.PrintLast Go.Proofs.YtjmpejbciniceaaDoorW.PrintMore
set_option linter.unusedVariables false
set_option linter.unusedSimpArgs false

def ansR (acc : List S37) (N : Nat) : Except (Int × Nat × List UInt8) (List SWord) → List S37 × Int × Int × ByteArray
  | .ok ws => (acc ++ ws.map wv ++ [endV N], 0, 0, ⟨#[]⟩)
  | .error (e, p, t) => ([], e, (p : Int), bytesS t)
theorem fault_code : ∀ (l : List UInt8) (e : Int) (t : List UInt8), wordR l = .fault e t → e ≠ 0 := by
  intro l e t h
  cases l with
  | nil => simp only [wordR, SRes.fault.injEq] at h; omega
  | cons c l =>
    rw [wordR] at h
    (repeat' split at h) <;> simp only [SRes.fault.injEq, reduceCtorEq] at h <;> omega
theorem all_at (s : ByteArray) (hs : s.size ≤ 65536) : ∀ (d a k : Nat) (acc : List S37), s.size = a + d → 4 * d + 10 ≤ k → acc.length + d ≤ 70000 → skipR (s.data.toList.drop a) false = s.data.toList.drop a →
    lychgateref01_All.l0 k s acc (a : Int) = some (ansR acc s.size (scanA s.size (s.data.toList.drop a))) := by
  intro d
  induction d using Nat.strongRecOn with
  | _ d ih =>
    intro a k acc h hk hacc hst
    obtain ⟨k, rfl⟩ : ∃ m, k = m + 1 := ⟨k - 1, by omega⟩
    unfold lychgateref01_All.l0
    by_cases ha : a < s.size
    · rw [if_pos (by omega)]
      have hwf : lychgateref01_word.f s (a : Int) = some (wordT a (wordR (s.data.toList.drop a))) := by
        unfold lychgateref01_word.f
        rw [if_pos ⟨by omega, by omega, hs⟩]
        rfl
      rw [hwf]
      simp only [Option.bind_some]
      have hd := drop_at s a ha
      have hsu : startU (s[a]'ha) := skip_start _ false _ (s.data.toList.drop (a + 1)) (by rw [hst, hd])
      have hstep := scanA_step (N := s.size) (m := s.data.toList.drop (a + 1)) hsu
      rw [← hd] at hstep
      have hlen : (s.data.toList.drop a).length = s.size - a := by simp
      cases hw : wordR (s.data.toList.drop a) with
      | fault e t =>
        rw [hw] at hstep
        simp only at hstep
        rw [hstep]
        have hne := fault_code _ _ _ hw
        show (if e = 0 then _ else some (([] : List S37), e, (a : Int), bytesS t)) = _
        rw [if_neg hne]
        simp only [ansR, hlen]
        congr 4
        omega
      | word kd t n =>
        rw [hw] at hstep
        simp only at hstep
        obtain ⟨m, hm, hne⟩ := word_prefix hw
        have h0 : 0 < t.length := List.length_pos_iff.2 hne
        have hml := congrArg List.length hm
        rw [hlen, List.length_append] at hml
        have hdb : (s.data.toList.drop a).drop t.length = s.data.toList.drop (a + t.length) := by rw [List.drop_drop]
        have hks := (skipl_at s (by omega) (s.size - (a + t.length)) (a + t.length) k (by omega) (by omega)).1
        have hsd := skip_drop (s.data.toList.drop (a + t.length))
        have hsl := skip_len (s.data.toList.drop (a + t.length)) false
        have hll : (s.data.toList.drop (a + t.length)).length = s.size - (a + t.length) := by simp
        rw [hll] at hsl hsd
        rw [List.drop_drop] at hsd
        generalize hq : (skipR (s.data.toList.drop (a + t.length)) false).length = q at *
        have hp : a + t.length + (s.size - (a + t.length) - q) = s.size - q := by omega
        rw [hp] at hsd
        simp only [wordT, if_true]
        rw [if_pos (by omega)]
        have hkf : lychgateref01_skip.f k s ((a + t.length : Nat) : Int) = some ((s.size - q : Nat) : Int) := hks
        rw [hkf]
        simp only [Option.bind_some]
        rw [ih (s.size - (s.size - q)) (by omega) (s.size - q) k _ (by omega) (by omega) (by rw [List.length_append]; simp; omega) (by rw [hsd, skip_idem]), hsd, scanA_skip, hstep, hdb]
        cases scanA s.size (s.data.toList.drop (a + t.length)) with
        | error x => rfl
        | ok ws =>
          simp only [ansR, preS, List.map_append, List.map_cons, List.map_nil, List.append_assoc, List.singleton_append, List.nil_append, wv, hlen]
          rw [show s.size - (s.size - a) = a from by omega]
    · have hd0 : d = 0 := by omega
      have e : s.data.toList.drop a = [] := List.drop_eq_nil_of_le (by simp; omega)
      rw [if_neg (by omega), if_pos (by omega), e, scanA_nil]
      simp [ansR, endV]
theorem rAll_is (s : ByteArray) (K : Nat) (hK : 4 * s.size + 20 ≤ K) : lychgateref01_All.f K s = some (ansR [] s.size (scanAll s)) := by
  unfold lychgateref01_All.f scanAll
  by_cases hs : 65536 < s.size
  · rw [if_pos (by omega), if_pos hs]
    rfl
  · rw [if_neg (by omega), if_neg hs]
    have h1 := (skipl_at s (by omega) s.size 0 K (by omega) (by omega)).1
    rw [List.drop_zero] at h1
    have hsd := skip_drop s.data.toList
    have hsl := skip_len s.data.toList false
    have hll : s.data.toList.length = s.size := by simp
    rw [hll] at hsl hsd
    have h2 : lychgateref01_skip.f K s 0 = some ((s.size - (skipR s.data.toList false).length : Nat) : Int) := h1
    rw [h2]
    simp only [Option.bind_some]
    rw [all_at s (by omega) (s.size - (s.size - (skipR s.data.toList false).length)) _ K [] (by omega) (by omega) (by simp; omega) (by rw [hsd, skip_idem]), hsd, scanA_skip]
end Go.Proofs.YtjmpejbciniceaaDoor.X
