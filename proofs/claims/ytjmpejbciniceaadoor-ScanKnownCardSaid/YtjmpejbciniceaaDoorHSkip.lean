/- The reader of scan in memory, and the contract of its method skip. -/
import Derived.Test.YtjmpejbciniceaaDoorHSkipPure
import Derived.Test.YtjmpejbciniceaaDoorFScan
import Derived.Test.YtjmpejbciniceaaDoorHCallH
import Derived.Test.YtjmpejbciniceaaDoorHTake
import Derived.RegionTactic
import Derived.ChangeAlike
import Derived.BigRegion
import Derived.LoopTactic
import Derived.Laws.RangeAny
namespace Go.Proofs.YtjmpejbciniceaaDoor.X
open Go.RowKit Go.Proofs.YtjmpejbciniceaaDoorW.PrintWords Go.Proofs.YtjmpejbciniceaaDoorW.PrintLast Go.Proofs.YtjmpejbciniceaaDoorW.PrintMore
set_option linter.unusedVariables false
set_option linter.unusedSimpArgs false

/-- A reader in block g: its text, its place, its words (of its own). -/
structure Rd (w0 : World) (g : Nat) (s : ByteArray) (a : Nat) (v : Value) (ws : List S37) (w : World) : Prop where
  blk : w.heap[g]? = some (.cells #[.string s, .int .i64 (a : Int), v] 65 (0, 0))
  row : k37.R 37 w w0.heap.size (fun b => b ≠ g) v ws
  low : w0.heap.size ≤ g
  below : Below w0.heap.size w0 w
theorem Rd.after {w0 : World} {g : Nat} {s : ByteArray} {a : Nat} {v : Value} {ws : List S37} {w w' : World} (h : Rd w0 g s a v ws w) (hb : Below w.heap.size w w') : Rd w0 g s a v ws w' :=
  ⟨blk_below h.blk hb, Kd.R_below h.row hb, h.low, below_then h.below h.below.size hb⟩
theorem Rd.move {w0 : World} {g : Nat} {s : ByteArray} {a : Nat} {v : Value} {ws : List S37} {w : World} (h : Rd w0 g s a v ws w) (a' : Nat) : Rd w0 g s a' v ws (w.setCell ⟨g, 1, none⟩ (.int .i64 (a' : Int))) :=
  ⟨blk_put h.blk 1 _ (by simp), Kd.R_far h.row (p := ⟨g, 1, none⟩) (fun b hb => hb) _, h.low, h.below.setCell (p := ⟨g, 1, none⟩) h.low _⟩
def RdPost (w0 : World) (g : Nat) (s : ByteArray) (a : Nat) (v : Value) (ws : List S37) (e : Ending) (w' : World) : Prop := e = .returned (.tuple #[]) ∧ Rd w0 g s a v ws w'
theorem iter_below (w : World) (t : ByteArray) (p : Nat) : Below w.heap.size w (w.iter t p) := (Below.refl _ _).alloc (Nat.le_refl _) _
def skipTo (s : ByteArray) (a : Nat) : Nat := s.size - (skipR (s.data.toList.drop a) false).length
theorem tail_list (s : ByteArray) (a : Nat) (h : a ≤ s.size) : (s.extract a s.size).data.toList = s.data.toList.drop a := by
  simp
  exact List.take_of_length_le (by simp)
theorem tail_size (s : ByteArray) (a : Nat) (h : a ≤ s.size) : (s.extract a s.size).size = s.size - a := by
  simp
set_option maxRecDepth 100000 in
set_option maxHeartbeats 1600000 in
theorem skip_calls (w0 : World) (g : Nat) (s : ByteArray) (a : Nat) (v : Value) (ws : List S37) (w : World) (h : Rd w0 g s a v ws w) (ha : a ≤ s.size) (hs : s.size ≤ 65536) :
    Calls Tryd.prog 25 #[.pointer (some ⟨g, 0, none⟩)] w (RdPost w0 g s (skipTo s a) v ws) := by
  have HR := Aside0.mk h
  have hT := tail_list s a ha
  have hZ := tail_size s a ha
  obtain ⟨t, ht⟩ : ∃ t, t = s.extract a s.size := ⟨_, rfl⟩
  rw [← ht] at hT hZ
  have HT := Aside0.mk hT
  have HZ := Aside0.mk hZ
  have HTE := Aside0.mk ht
  clear h hT hZ ht
  go_enter Tryd.func25, Tryd.ntmps25
  go_wp2_with fail
  have OK := Aside0.mk (fun (w' : World) (h : Below w.heap.size w w') => (⟨(blk_cell (blk_below HR.out.blk h) 0).trans rfl, (blk_cell (blk_below HR.out.blk h) 1).trans rfl⟩ : w'.cell? ⟨g, 0, none⟩ = some (.string s) ∧ w'.cell? ⟨g, 1, none⟩ = some (.int .i64 (a : Int))))
  have HBW := Aside0.mk (Below.refl w.heap.size w)
  refine wp_region_held_drew (S := (fun w' => w'.cell? ⟨g, 0, none⟩ = some (.string s) ∧ w'.cell? ⟨g, 1, none⟩ = some (.int .i64 (a : Int)))) (by kernel_rfl) (OK.out _ HBW.out.drew) (fun hHeld => ?_)
  replace HR := Aside0.mk (HR.out.after HBW.out.drew)
  refine takeA 5 0 (v := ?_) ?_ hHeld ?_
  rotate_left
  · intro w hSw
    try dsimp only at hSw
    go_simp <;> with_reducible rfl
  try simp only [Act.put, List.setIfInBounds_toArray, List.set_cons_zero, List.set_cons_succ]
  refine takeA 6 1 (v := ?_) ?_ hHeld ?_
  rotate_left
  · intro w hSw
    try dsimp only at hSw
    go_simp <;> with_reducible rfl
  try simp only [Act.put, List.setIfInBounds_toArray, List.set_cons_zero, List.set_cons_succ]
  refine takeA 7 2 (v := ?_) ?_ hHeld ?_
  rotate_left
  · intro w hSw
    try dsimp only at hSw
    go_simp <;> with_reducible rfl
  try simp only [Act.put, List.setIfInBounds_toArray, List.set_cons_zero, List.set_cons_succ]
  refine takeA 8 3 (v := ?_) ?_ hHeld ?_
  rotate_left
  · intro w hSw
    try dsimp only at hSw
    go_simp <;> with_reducible rfl
  try simp only [Act.put, List.setIfInBounds_toArray, List.set_cons_zero, List.set_cons_succ]
  refine takeA 9 4 (v := ?_) ?_ hHeld ?_
  rotate_left
  · intro w hSw
    try dsimp only at hSw
    go_simp <;> with_reducible rfl
  try simp only [Act.put, List.setIfInBounds_toArray, List.set_cons_zero, List.set_cons_succ]
  refine takeA 10 5 (v := ?_) ?_ hHeld ?_
  rotate_left
  · intro w hSw
    try dsimp only at hSw
    go_simp <;> with_reducible rfl
  try simp only [Act.put, List.setIfInBounds_toArray, List.set_cons_zero, List.set_cons_succ]
  refine takeA 11 6 (v := ?_) ?_ hHeld ?_
  rotate_left
  · intro w hSw
    try dsimp only at hSw
    go_simp <;> with_reducible rfl
  try simp only [Act.put, List.setIfInBounds_toArray, List.set_cons_zero, List.set_cons_succ]
  refine takeA 12 7 (v := ?_) ?_ hHeld ?_
  rotate_left
  · intro w hSw
    try dsimp only at hSw
    go_simp <;> with_reducible rfl
  try simp only [Act.put, List.setIfInBounds_toArray, List.set_cons_zero, List.set_cons_succ]
  refine takeA 13 8 (v := ?_) ?_ hHeld ?_
  rotate_left
  · intro w hSw
    try dsimp only at hSw
    go_simp <;> with_reducible rfl
  try simp only [Act.put, List.setIfInBounds_toArray, List.set_cons_zero, List.set_cons_succ]
  rw [← HTE.out]
  have hB1 := iter_below w.drew t 0
  refine wpAnyH_ready (rs := [9]) (by kernel_rfl) (by simp) ?_
  refine AllReadyH.cons rfl (fun K hK => ?_) AllReadyH.nil
  go_simp
  refine hK.out _ _ (OK.out _ (below_then HBW.out.drew HBW.out.drew.size hB1)) (fun hHeld => ?_)
  clear hK K
  refine wpAnyH_done (by kernel_rfl) ?_ _
  clear hB1 OK HBW
  go_wp2_with fail
  go_loopw [2] (fun f wr => ∃ (rem : Bool) (pos : Nat), f = .bool rem ∧ wr = w.drew.iter t pos ∧ pos ≤ t.size ∧ skipR (t.data.toList.drop pos) rem = skipR t.data.toList false) (fun _ wr => t.size - wr.iterPos w.heap.size)
  case atStart => exact ⟨false, 0, rfl, rfl, Nat.zero_le _, by simp⟩
  case round =>
    obtain ⟨rem, pos, rfl, rfl, hp, hsk⟩ := hrel
    have HSK := Aside0.mk hsk
    clear hsk
    by_cases hlt : pos < t.size
    · obtain ⟨r, wd, hr, hw, h1, h2, h3, h4, hstep⟩ := skip_round t pos hlt rem
      have hnx : ∀ ty, (Instr.next (.pointer (some ⟨w.heap.size, 0, none⟩)) true ty).run Tryd.prog (w.drew.iter t pos) = .ok (.tuple #[.bool true, .int .i64 pos, .int .i32 r]) (w.drew.iter t (pos + wd)) := fun ty => by have := run_next_any (P := Tryd.prog) w.drew t pos ty hlt; rw [hr, hw] at this; exact this
      have HST := Aside0.mk hstep
      clear hstep hr hw
      have HR2 := Aside0.mk (HR.out.after (iter_below w.drew t (pos + wd)))
      clear hHeld
      by_cases c10 : r = 10
      · have hs2 := HST.out
        rw [if_pos c10, HSK.out] at hs2
        have HS2 := Aside0.mk hs2.symm
        subst c10
        clear hs2 HST HR2
        go_wp2_with fail
        go_roundw
        case rel => exact ⟨false, pos + wd, rfl, rfl, h2, HS2.out⟩
        case measure => simp only [show w.heap.size = w.drew.heap.size from rfl, World.iterPos_iter]; omega
      have d10 : (r == 10) = false := by simp [c10]
      cases rem with
      | true =>
        have hs2 := HST.out
        rw [if_neg c10, if_pos rfl, HSK.out] at hs2
        have HS2 := Aside0.mk hs2.symm
        clear hs2 HST HR2 c10
        go_wp2_with fail
        go_roundw
        case rel => exact ⟨true, pos + wd, rfl, rfl, h2, HS2.out⟩
        case measure => simp only [show w.heap.size = w.drew.heap.size from rfl, World.iterPos_iter]; omega
      | false =>
        by_cases c32 : r = 32
        · have hs2 := HST.out
          rw [if_neg c10, if_neg (by simp), if_pos (.inl c32), HSK.out] at hs2
          have HS2 := Aside0.mk hs2.symm
          subst c32
          clear hs2 HST HR2 c10 d10
          go_wp2_with fail
          go_roundw
          case rel => exact ⟨false, pos + wd, rfl, rfl, h2, HS2.out⟩
          case measure => simp only [show w.heap.size = w.drew.heap.size from rfl, World.iterPos_iter]; omega
        have d32 : (r == 32) = false := by simp [c32]
        by_cases c9 : r = 9
        · have hs2 := HST.out
          rw [if_neg c10, if_neg (by simp), if_pos (.inr (.inl c9)), HSK.out] at hs2
          have HS2 := Aside0.mk hs2.symm
          subst c9
          clear hs2 HST HR2 c10 d10 c32 d32
          go_wp2_with fail
          go_roundw
          case rel => exact ⟨false, pos + wd, rfl, rfl, h2, HS2.out⟩
          case measure => simp only [show w.heap.size = w.drew.heap.size from rfl, World.iterPos_iter]; omega
        have d9 : (r == 9) = false := by simp [c9]
        by_cases c13 : r = 13
        · have hs2 := HST.out
          rw [if_neg c10, if_neg (by simp), if_pos (.inr (.inr c13)), HSK.out] at hs2
          have HS2 := Aside0.mk hs2.symm
          subst c13
          clear hs2 HST HR2 c10 d10 c32 d32 c9 d9
          go_wp2_with fail
          go_roundw
          case rel => exact ⟨false, pos + wd, rfl, rfl, h2, HS2.out⟩
          case measure => simp only [show w.heap.size = w.drew.heap.size from rfl, World.iterPos_iter]; omega
        have d13 : (r == 13) = false := by simp [c13]
        have hno : ¬ (r = 32 ∨ r = 9 ∨ r = 13) := fun h => by rcases h with h | h | h <;> contradiction
        by_cases c35 : r = 35
        · have hs2 := HST.out
          rw [if_neg c10, if_neg (by simp), if_neg hno, if_pos c35, HSK.out] at hs2
          have HS2 := Aside0.mk hs2.symm
          subst c35
          clear hs2 HST HR2 c10 d10 c32 d32 c9 d9 c13 d13 hno
          go_wp2_with fail
          go_roundw
          case rel => exact ⟨true, pos + wd, rfl, rfl, h2, HS2.out⟩
          case measure => simp only [show w.heap.size = w.drew.heap.size from rfl, World.iterPos_iter]; omega
        have d35 : (r == 35) = false := by simp [c35]
        have hs2 := HST.out
        rw [if_neg c10, if_neg (by simp), if_neg hno, if_neg c35, HSK.out] at hs2
        have HE : Aside0 (skipTo s a = a + pos) := .mk (by
          unfold skipTo
          rw [← HT.out, hs2, List.length_drop]
          have h8 := HZ.out
          have h9 : t.data.toList.length = t.size := by simp
          omega)
        have HF := Aside0.mk (HR2.out.move (a + pos))
        have e1 := (blk_cell HR2.out.blk 1).trans rfl
        have z1 := blk_frozen HR2.out.blk 1
        simp at e1
        have hz := HZ.out
        clear hs2 HST HR2 c10 c32 c9 c13 hno c35
        go_wp2_with fail
        go_end0
        refine ⟨rfl, ?_⟩
        rw [HE.out]
        exact HF.out
    · obtain rfl : pos = t.size := by omega
      have hnx : ∀ ty, (Instr.next (.pointer (some ⟨w.heap.size, 0, none⟩)) true ty).run Tryd.prog (w.drew.iter t t.size) = .ok (.tuple #[.bool false]) (w.drew.iter t t.size) := fun ty => run_next_end w.drew t t.size ty hlt
      have HR2 := Aside0.mk (HR.out.after (iter_below w.drew t t.size))
      have HF := Aside0.mk (HR2.out.move s.size)
      have hsk := HSK.out
      have hd : t.data.toList.drop t.size = [] := List.drop_eq_nil_of_le (by simp)
      rw [hd] at hsk
      have HE : Aside0 (skipTo s a = s.size) := .mk (by
        unfold skipTo
        rw [← HT.out, ← hsk]
        cases rem <;> rfl)
      have e0 := (blk_cell HR2.out.blk 0).trans rfl
      have e1 := (blk_cell HR2.out.blk 1).trans rfl
      have z1 := blk_frozen HR2.out.blk 1
      simp at e0 e1
      clear hsk hd hHeld hlt HR2
      go_wp2_with fail
      go_end0
      refine ⟨rfl, ?_⟩
      rw [HE.out]
      exact HF.out
end Go.Proofs.YtjmpejbciniceaaDoor.X
