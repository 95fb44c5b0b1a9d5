/- Texts of this claim, joined: HTakeW, HWrong, HWrong2, PureParse, PureParseE, HRead0. -/
import Derived.Test.YtjmpejbciniceaaDoorKTypesReads3
import Derived.Test.YtjmpejbciniceaaDoorKTypesReads5
namespace Go.Proofs.YtjmpejbciniceaaDoor.X
open Go.RowKit Go.Proofs.YtjmpejbciniceaaDoorW.PrintWords Go.Proofs.YtjmpejbciniceaaDoorW.PrintLast Go.Proofs.YtjmpejbciniceaaDoorW.PrintMore
set_option linter.unusedVariables false
set_option linter.unusedSimpArgs false
structure Tr (w0 : World) (g : Nat) (A : Option Addr) (c : Nat) (xs : List S37) (i : Nat) (w : World) : Prop where
  blk : w.heap[g]? = some (.cells #[.slice A xs.length c, .int .i64 (i : Int)] 80 (0, 0))
  words : Kd.C k37 w0 A xs.length xs
  low : w0.heap.size ≤ g
  below : Below w0.heap.size w0 w
theorem Tr.after {w0 : World} {g : Nat} {A : Option Addr} {c : Nat} {xs : List S37} {i : Nat} {w w' : World} (h : Tr w0 g A c xs i w) (hb : Below w.heap.size w w') : Tr w0 g A c xs i w' :=
  ⟨blk_below h.blk hb, h.words, h.low, below_then h.below h.below.size hb⟩
theorem Tr.move {w0 : World} {g : Nat} {A : Option Addr} {c : Nat} {xs : List S37} {i : Nat} {w : World} (h : Tr w0 g A c xs i w) (j : Nat) : Tr w0 g A c xs j (w.setCell ⟨g, 1, none⟩ (.int .i64 (j : Int))) :=
  ⟨blk_put h.blk 1 _ (by simp), h.words, h.low, h.below.setCell (p := ⟨g, 1, none⟩) h.low _⟩
def nextIs (xs : List S37) (i : Nat) (k : Int) (s : List UInt8) : Prop := ∃ x, xs[i]? = some x ∧ x.f0 = k ∧ x.f1.toList = s
def TakePost (w0 : World) (g : Nat) (A : Option Addr) (c : Nat) (xs : List S37) (i : Nat) (k : Int) (s : List UInt8) (w : World) (en : Ending) (w' : World) : Prop :=
  (nextIs xs i k s ∧ en = .returned (.bool true) ∧ Tr w0 g A c xs (i + 1) w' ∧ KeepBut w w' g none) ∨ (¬ nextIs xs i k s ∧ en = .returned (.bool false) ∧ Tr w0 g A c xs i w' ∧ KeepBut w w' g none)
set_option maxRecDepth 100000 in
set_option maxHeartbeats 3200000 in
theorem take_end {w0 : World} {g : Nat} {A : Option Addr} {c : Nat} {xs : List S37} {i : Nat} {w : World} (HR : Aside0 (Tr w0 g A c xs i w)) {n : Nat} (HL : Aside0 (xs.length = n)) (hn : n ≤ 200000) (hi : i ≤ n) (k : Int) (s : ByteArray) (hlt : n ≤ i) :
    Calls Tryd.prog 83 #[.pointer (some ⟨g, 0, none⟩), .int .i8 k, .string s] w fun en w' => en = .returned (.bool false) ∧ Tr w0 g A c xs i w' ∧ KeepBut w w' g none := by
  have e0 := (blk_cell HR.out.blk 0).trans rfl
  have e1 := (blk_cell HR.out.blk 1).trans rfl
  simp at e0 e1
  rw [HL.out] at e0
  go_enter Tryd.func83, Tryd.ntmps83
  go_wp2_with fail
  refine wp_region_held_drew (S := fun w' => w'.cell? ⟨g, 0, none⟩ = some (.slice A n c) ∧ w'.cell? ⟨g, 1, none⟩ = some (.int .i64 (i : Int))) (by kernel_rfl) ⟨e0, e1⟩ (fun hHeld => ?_)
  have HD := Aside0.mk ((Below.refl w.heap.size w).drew)
  have HN := Aside0.mk (HR.out.after HD.out)
  generalize w.drew = w1 at *
  refine takeA 7 0 (v := ?_) ?_ hHeld ?_
  rotate_left
  · intro w hSw
    try dsimp only at hSw
    go_simp <;> with_reducible rfl
  try simp only [Act.put, List.setIfInBounds_toArray, List.set_cons_zero, List.set_cons_succ]
  refine takeA 8 1 (v := ?_) ?_ hHeld ?_
  rotate_left
  · intro w hSw
    try dsimp only at hSw
    go_simp <;> with_reducible rfl
  try simp only [Act.put, List.setIfInBounds_toArray, List.set_cons_zero, List.set_cons_succ]
  refine takeA 9 2 (v := ?_) ?_ hHeld ?_
  rotate_left
  · intro w hSw
    try dsimp only at hSw
    go_simp <;> with_reducible rfl
  try simp only [Act.put, List.setIfInBounds_toArray, List.set_cons_zero, List.set_cons_succ]
  refine takeA 10 3 (v := ?_) ?_ hHeld ?_
  rotate_left
  · intro w hSw
    try dsimp only at hSw
    go_simp <;> with_reducible rfl
  try simp only [Act.put, List.setIfInBounds_toArray, List.set_cons_zero, List.set_cons_succ]
  refine takeA 11 4 (v := ?_) ?_ hHeld ?_
  rotate_left
  · intro w hSw
    try dsimp only at hSw
    go_simp <;> with_reducible rfl
  try simp only [Act.put, List.setIfInBounds_toArray, List.set_cons_zero, List.set_cons_succ]
  refine takeA 12 5 (v := ?_) ?_ hHeld ?_
  rotate_left
  · intro w hSw
    try dsimp only at hSw
    go_simp <;> with_reducible rfl
  try simp only [Act.put, List.setIfInBounds_toArray, List.set_cons_zero, List.set_cons_succ]
  refine takeA 13 6 (v := ?_) ?_ hHeld ?_
  rotate_left
  · intro w hSw
    try dsimp only at hSw
    go_simp <;> with_reducible rfl
  try simp only [Act.put, List.setIfInBounds_toArray, List.set_cons_zero, List.set_cons_succ]
  refine takeA 14 7 (v := ?_) ?_ hHeld ?_
  rotate_left
  · intro w hSw
    try dsimp only at hSw
    go_simp <;> with_reducible rfl
  try simp only [Act.put, List.setIfInBounds_toArray, List.set_cons_zero, List.set_cons_succ]
  refine takeA 15 8 (v := ?_) ?_ hHeld ?_
  rotate_left
  · intro w hSw
    try dsimp only at hSw
    go_simp <;> with_reducible rfl
  try simp only [Act.put, List.setIfInBounds_toArray, List.set_cons_zero, List.set_cons_succ]
  refine takeH (d := some 16) (v := .bool false) 9 rfl rfl (by kernel_rfl) (by kernel_rfl) (by kernel_rfl) (fun _ _ _ h => h) (by rfl) (fun w hSw => by (try dsimp only at hSw); go_simp <;> first | done | omega | (simp; omega)) hHeld ?_
  try simp only [Act.put, List.setIfInBounds_toArray, List.set_cons_zero, List.set_cons_succ]
  refine takeA 17 10 (v := ?_) ?_ hHeld ?_
  rotate_left
  · intro w hSw
    try dsimp only at hSw
    go_simp <;> with_reducible rfl
  try simp only [Act.put, List.setIfInBounds_toArray, List.set_cons_zero, List.set_cons_succ]
  refine passA 18 11 hHeld ?_
  try simp only [Act.put, List.setIfInBounds_toArray, List.set_cons_zero, List.set_cons_succ]
  refine passA 19 12 hHeld ?_
  try simp only [Act.put, List.setIfInBounds_toArray, List.set_cons_zero, List.set_cons_succ]
  refine passA 20 13 hHeld ?_
  try simp only [Act.put, List.setIfInBounds_toArray, List.set_cons_zero, List.set_cons_succ]
  refine passA 21 14 hHeld ?_
  try simp only [Act.put, List.setIfInBounds_toArray, List.set_cons_zero, List.set_cons_succ]
  refine passA 22 15 hHeld ?_
  try simp only [Act.put, List.setIfInBounds_toArray, List.set_cons_zero, List.set_cons_succ]
  refine passA 23 16 hHeld ?_
  try simp only [Act.put, List.setIfInBounds_toArray, List.set_cons_zero, List.set_cons_succ]
  refine passA 24 17 hHeld ?_
  try simp only [Act.put, List.setIfInBounds_toArray, List.set_cons_zero, List.set_cons_succ]
  refine passA 25 18 hHeld ?_
  try simp only [Act.put, List.setIfInBounds_toArray, List.set_cons_zero, List.set_cons_succ]
  refine passA 26 19 hHeld ?_
  try simp only [Act.put, List.setIfInBounds_toArray, List.set_cons_zero, List.set_cons_succ]
  refine passA 27 20 hHeld ?_
  try simp only [Act.put, List.setIfInBounds_toArray, List.set_cons_zero, List.set_cons_succ]
  refine passA 28 21 hHeld ?_
  try simp only [Act.put, List.setIfInBounds_toArray, List.set_cons_zero, List.set_cons_succ]
  refine passA 29 22 hHeld ?_
  try simp only [Act.put, List.setIfInBounds_toArray, List.set_cons_zero, List.set_cons_succ]
  refine passA 30 23 hHeld ?_
  try simp only [Act.put, List.setIfInBounds_toArray, List.set_cons_zero, List.set_cons_succ]
  refine takeA 31 24 (v := ?_) ?_ hHeld ?_
  rotate_left
  · intro w hSw
    try dsimp only at hSw
    go_simp <;> with_reducible rfl
  try simp only [Act.put, List.setIfInBounds_toArray, List.set_cons_zero, List.set_cons_succ]
  refine takeA 32 25 (v := ?_) ?_ hHeld ?_
  rotate_left
  · intro w hSw
    try dsimp only at hSw
    go_simp <;> with_reducible rfl
  try simp only [Act.put, List.setIfInBounds_toArray, List.set_cons_zero, List.set_cons_succ]
  refine passA 33 26 hHeld ?_
  try simp only [Act.put, List.setIfInBounds_toArray, List.set_cons_zero, List.set_cons_succ]
  refine passA 34 27 hHeld ?_
  try simp only [Act.put, List.setIfInBounds_toArray, List.set_cons_zero, List.set_cons_succ]
  refine passA 35 28 hHeld ?_
  try simp only [Act.put, List.setIfInBounds_toArray, List.set_cons_zero, List.set_cons_succ]
  refine passA 36 29 hHeld ?_
  try simp only [Act.put, List.setIfInBounds_toArray, List.set_cons_zero, List.set_cons_succ]
  refine passA 37 30 hHeld ?_
  try simp only [Act.put, List.setIfInBounds_toArray, List.set_cons_zero, List.set_cons_succ]
  refine passA 38 31 hHeld ?_
  try simp only [Act.put, List.setIfInBounds_toArray, List.set_cons_zero, List.set_cons_succ]
  refine passA 39 32 hHeld ?_
  try simp only [Act.put, List.setIfInBounds_toArray, List.set_cons_zero, List.set_cons_succ]
  refine passA 40 33 hHeld ?_
  try simp only [Act.put, List.setIfInBounds_toArray, List.set_cons_zero, List.set_cons_succ]
  refine passA 41 34 hHeld ?_
  try simp only [Act.put, List.setIfInBounds_toArray, List.set_cons_zero, List.set_cons_succ]
  refine passA 42 35 hHeld ?_
  try simp only [Act.put, List.setIfInBounds_toArray, List.set_cons_zero, List.set_cons_succ]
  refine passA 43 36 hHeld ?_
  try simp only [Act.put, List.setIfInBounds_toArray, List.set_cons_zero, List.set_cons_succ]
  refine passA 44 37 hHeld ?_
  try simp only [Act.put, List.setIfInBounds_toArray, List.set_cons_zero, List.set_cons_succ]
  refine passA 45 38 hHeld ?_
  try simp only [Act.put, List.setIfInBounds_toArray, List.set_cons_zero, List.set_cons_succ]
  refine takeA 46 39 (v := ?_) ?_ hHeld ?_
  rotate_left
  · intro w hSw
    try dsimp only at hSw
    go_simp <;> with_reducible rfl
  try simp only [Act.put, List.setIfInBounds_toArray, List.set_cons_zero, List.set_cons_succ]
  refine wpAnyH_done (by kernel_rfl) ?_ _
  clear hHeld
  go_wp2_with fail
  go_ret
  exact ⟨rfl, HN.out, KeepBut.of_below HD.out g none⟩
set_option maxRecDepth 100000 in
set_option maxHeartbeats 3200000 in
theorem take_kind {w0 : World} {g : Nat} {ad : Addr} {c : Nat} {xs : List S37} {i : Nat} {w : World} (HR : Aside0 (Tr w0 g (some ad) c xs i w)) {n : Nat} (HL : Aside0 (xs.length = n)) (hn : n ≤ 200000) (hi : i ≤ n) (k : Int) (s : ByteArray) (hlt : i < n) (K : Int) (T : ByteArray) (x0 : w.cell? (ad.add (i * 4)) = some (.int .i8 K)) (x1 : w.cell? ⟨(ad.add (i * 4)).block, (ad.add (i * 4)).off + 1, none⟩ = some (.string T)) (HK : Aside0 (¬ K = k)) :
    Calls Tryd.prog 83 #[.pointer (some ⟨g, 0, none⟩), .int .i8 k, .string s] w fun en w' => en = .returned (.bool false) ∧ Tr w0 g (some ad) c xs i w' ∧ KeepBut w w' g none := by
  have e0 := (blk_cell HR.out.blk 0).trans rfl
  have e1 := (blk_cell HR.out.blk 1).trans rfl
  simp at e0 e1
  rw [HL.out] at e0
  go_enter Tryd.func83, Tryd.ntmps83
  go_wp2_with fail
  refine wp_region_held_drew (S := fun w' => (w'.cell? ⟨g, 0, none⟩ = some (.slice (some ad) n c) ∧ w'.cell? ⟨g, 1, none⟩ = some (.int .i64 (i : Int))) ∧ w'.cell? (ad.add (i * 4)) = some (.int .i8 K) ∧ w'.cell? ⟨(ad.add (i * 4)).block, (ad.add (i * 4)).off + 1, none⟩ = some (.string T)) (by kernel_rfl) ⟨⟨e0, e1⟩, x0, x1⟩ (fun hHeld => ?_)
  have HD := Aside0.mk ((Below.refl w.heap.size w).drew)
  have HN := Aside0.mk (HR.out.after HD.out)
  generalize w.drew = w1 at *
  refine takeA 7 0 (v := ?_) ?_ hHeld ?_
  rotate_left
  · intro w hSw
    try dsimp only at hSw
    go_simp <;> with_reducible rfl
  try simp only [Act.put, List.setIfInBounds_toArray, List.set_cons_zero, List.set_cons_succ]
  refine takeA 8 1 (v := ?_) ?_ hHeld ?_
  rotate_left
  · intro w hSw
    try dsimp only at hSw
    go_simp <;> with_reducible rfl
  try simp only [Act.put, List.setIfInBounds_toArray, List.set_cons_zero, List.set_cons_succ]
  refine takeA 9 2 (v := ?_) ?_ hHeld ?_
  rotate_left
  · intro w hSw
    try dsimp only at hSw
    go_simp <;> with_reducible rfl
  try simp only [Act.put, List.setIfInBounds_toArray, List.set_cons_zero, List.set_cons_succ]
  refine takeA 10 3 (v := ?_) ?_ hHeld ?_
  rotate_left
  · intro w hSw
    try dsimp only at hSw
    go_simp <;> with_reducible rfl
  try simp only [Act.put, List.setIfInBounds_toArray, List.set_cons_zero, List.set_cons_succ]
  refine takeA 11 4 (v := ?_) ?_ hHeld ?_
  rotate_left
  · intro w hSw
    try dsimp only at hSw
    go_simp <;> with_reducible rfl
  try simp only [Act.put, List.setIfInBounds_toArray, List.set_cons_zero, List.set_cons_succ]
  refine takeA 12 5 (v := ?_) ?_ hHeld ?_
  rotate_left
  · intro w hSw
    try dsimp only at hSw
    go_simp <;> with_reducible rfl
  try simp only [Act.put, List.setIfInBounds_toArray, List.set_cons_zero, List.set_cons_succ]
  refine takeA 13 6 (v := ?_) ?_ hHeld ?_
  rotate_left
  · intro w hSw
    try dsimp only at hSw
    go_simp <;> with_reducible rfl
  try simp only [Act.put, List.setIfInBounds_toArray, List.set_cons_zero, List.set_cons_succ]
  refine takeA 14 7 (v := ?_) ?_ hHeld ?_
  rotate_left
  · intro w hSw
    try dsimp only at hSw
    go_simp <;> with_reducible rfl
  try simp only [Act.put, List.setIfInBounds_toArray, List.set_cons_zero, List.set_cons_succ]
  refine takeA 15 8 (v := ?_) ?_ hHeld ?_
  rotate_left
  · intro w hSw
    try dsimp only at hSw
    go_simp <;> with_reducible rfl
  try simp only [Act.put, List.setIfInBounds_toArray, List.set_cons_zero, List.set_cons_succ]
  refine takeH (d := some 16) (v := .bool true) 9 rfl rfl (by kernel_rfl) (by kernel_rfl) (by kernel_rfl) (fun _ _ _ h => h) (by rfl) (fun w hSw => by (try dsimp only at hSw); go_simp <;> first | done | omega | (simp; omega)) hHeld ?_
  try simp only [Act.put, List.setIfInBounds_toArray, List.set_cons_zero, List.set_cons_succ]
  refine takeA 17 10 (v := ?_) ?_ hHeld ?_
  rotate_left
  · intro w hSw
    try dsimp only at hSw
    go_simp <;> with_reducible rfl
  try simp only [Act.put, List.setIfInBounds_toArray, List.set_cons_zero, List.set_cons_succ]
  refine takeA 18 11 (v := ?_) ?_ hHeld ?_
  rotate_left
  · intro w hSw
    try dsimp only at hSw
    go_simp <;> with_reducible rfl
  try simp only [Act.put, List.setIfInBounds_toArray, List.set_cons_zero, List.set_cons_succ]
  refine takeA 19 12 (v := ?_) ?_ hHeld ?_
  rotate_left
  · intro w hSw
    try dsimp only at hSw
    go_simp <;> with_reducible rfl
  try simp only [Act.put, List.setIfInBounds_toArray, List.set_cons_zero, List.set_cons_succ]
  refine takeA 20 13 (v := ?_) ?_ hHeld ?_
  rotate_left
  · intro w hSw
    try dsimp only at hSw
    go_simp <;> with_reducible rfl
  try simp only [Act.put, List.setIfInBounds_toArray, List.set_cons_zero, List.set_cons_succ]
  refine takeA 21 14 (v := ?_) ?_ hHeld ?_
  rotate_left
  · intro w hSw
    try dsimp only at hSw
    go_simp <;> with_reducible rfl
  try simp only [Act.put, List.setIfInBounds_toArray, List.set_cons_zero, List.set_cons_succ]
  refine takeA 22 15 (v := ?_) ?_ hHeld ?_
  rotate_left
  · intro w hSw
    try dsimp only at hSw
    go_simp <;> with_reducible rfl
  try simp only [Act.put, List.setIfInBounds_toArray, List.set_cons_zero, List.set_cons_succ]
  refine takeA 23 16 (v := ?_) ?_ hHeld ?_
  rotate_left
  · intro w hSw
    try dsimp only at hSw
    go_simp <;> with_reducible rfl
  try simp only [Act.put, List.setIfInBounds_toArray, List.set_cons_zero, List.set_cons_succ]
  refine takeA 24 17 (v := ?_) ?_ hHeld ?_
  rotate_left
  · intro w hSw
    try dsimp only at hSw
    go_simp <;> with_reducible rfl
  try simp only [Act.put, List.setIfInBounds_toArray, List.set_cons_zero, List.set_cons_succ]
  refine takeA 25 18 (v := ?_) ?_ hHeld ?_
  rotate_left
  · intro w hSw
    try dsimp only at hSw
    go_simp <;> with_reducible rfl
  try simp only [Act.put, List.setIfInBounds_toArray, List.set_cons_zero, List.set_cons_succ]
  refine takeH (d := some 26) (v := .pointer (some (ad.add (i * 4)))) 19 rfl rfl (by kernel_rfl) (by kernel_rfl) (by kernel_rfl) (fun _ _ _ h => h) (by rfl) (fun w hSw => by (try dsimp only at hSw); go_simp <;> first | done | (rw [if_pos (by omega)]) | (intro hcc; omega)) hHeld ?_
  try simp only [Act.put, List.setIfInBounds_toArray, List.set_cons_zero, List.set_cons_succ]
  refine takeA 27 20 (v := ?_) ?_ hHeld ?_
  rotate_left
  · intro w hSw
    try dsimp only at hSw
    go_simp <;> with_reducible rfl
  try simp only [Act.put, List.setIfInBounds_toArray, List.set_cons_zero, List.set_cons_succ]
  refine takeA 28 21 (v := ?_) ?_ hHeld ?_
  rotate_left
  · intro w hSw
    try dsimp only at hSw
    go_simp <;> with_reducible rfl
  try simp only [Act.put, List.setIfInBounds_toArray, List.set_cons_zero, List.set_cons_succ]
  refine takeA 29 22 (v := ?_) ?_ hHeld ?_
  rotate_left
  · intro w hSw
    try dsimp only at hSw
    go_simp <;> with_reducible rfl
  try simp only [Act.put, List.setIfInBounds_toArray, List.set_cons_zero, List.set_cons_succ]
  refine takeH (d := some 30) (v := .bool false) 23 rfl rfl (by kernel_rfl) (by kernel_rfl) (by kernel_rfl) (fun _ _ _ h => h) (by rfl) (fun w hSw => by (try dsimp only at hSw); go_simp <;> first | done | exact HK.out | simp) hHeld ?_
  try simp only [Act.put, List.setIfInBounds_toArray, List.set_cons_zero, List.set_cons_succ]
  refine takeA 31 24 (v := ?_) ?_ hHeld ?_
  rotate_left
  · intro w hSw
    try dsimp only at hSw
    go_simp <;> with_reducible rfl
  try simp only [Act.put, List.setIfInBounds_toArray, List.set_cons_zero, List.set_cons_succ]
  refine takeA 32 25 (v := ?_) ?_ hHeld ?_
  rotate_left
  · intro w hSw
    try dsimp only at hSw
    go_simp <;> with_reducible rfl
  try simp only [Act.put, List.setIfInBounds_toArray, List.set_cons_zero, List.set_cons_succ]
  refine passA 33 26 hHeld ?_
  try simp only [Act.put, List.setIfInBounds_toArray, List.set_cons_zero, List.set_cons_succ]
  refine passA 34 27 hHeld ?_
  try simp only [Act.put, List.setIfInBounds_toArray, List.set_cons_zero, List.set_cons_succ]
  refine passA 35 28 hHeld ?_
  try simp only [Act.put, List.setIfInBounds_toArray, List.set_cons_zero, List.set_cons_succ]
  refine passA 36 29 hHeld ?_
  try simp only [Act.put, List.setIfInBounds_toArray, List.set_cons_zero, List.set_cons_succ]
  refine passA 37 30 hHeld ?_
  try simp only [Act.put, List.setIfInBounds_toArray, List.set_cons_zero, List.set_cons_succ]
  refine passA 38 31 hHeld ?_
  try simp only [Act.put, List.setIfInBounds_toArray, List.set_cons_zero, List.set_cons_succ]
  refine passA 39 32 hHeld ?_
  try simp only [Act.put, List.setIfInBounds_toArray, List.set_cons_zero, List.set_cons_succ]
  refine passA 40 33 hHeld ?_
  try simp only [Act.put, List.setIfInBounds_toArray, List.set_cons_zero, List.set_cons_succ]
  refine passA 41 34 hHeld ?_
  try simp only [Act.put, List.setIfInBounds_toArray, List.set_cons_zero, List.set_cons_succ]
  refine passA 42 35 hHeld ?_
  try simp only [Act.put, List.setIfInBounds_toArray, List.set_cons_zero, List.set_cons_succ]
  refine passA 43 36 hHeld ?_
  try simp only [Act.put, List.setIfInBounds_toArray, List.set_cons_zero, List.set_cons_succ]
  refine passA 44 37 hHeld ?_
  try simp only [Act.put, List.setIfInBounds_toArray, List.set_cons_zero, List.set_cons_succ]
  refine passA 45 38 hHeld ?_
  try simp only [Act.put, List.setIfInBounds_toArray, List.set_cons_zero, List.set_cons_succ]
  refine takeA 46 39 (v := ?_) ?_ hHeld ?_
  rotate_left
  · intro w hSw
    try dsimp only at hSw
    go_simp <;> with_reducible rfl
  try simp only [Act.put, List.setIfInBounds_toArray, List.set_cons_zero, List.set_cons_succ]
  refine wpAnyH_done (by kernel_rfl) ?_ _
  clear hHeld
  go_wp2_with fail
  go_ret
  exact ⟨rfl, HN.out, KeepBut.of_below HD.out g none⟩
set_option maxRecDepth 100000 in
set_option maxHeartbeats 3200000 in
theorem take_text {w0 : World} {g : Nat} {ad : Addr} {c : Nat} {xs : List S37} {i : Nat} {w : World} (HR : Aside0 (Tr w0 g (some ad) c xs i w)) {n : Nat} (HL : Aside0 (xs.length = n)) (hn : n ≤ 200000) (hi : i ≤ n) (k : Int) (s : ByteArray) (hlt : i < n) (K : Int) (T : ByteArray) (x0 : w.cell? (ad.add (i * 4)) = some (.int .i8 K)) (x1 : w.cell? ⟨(ad.add (i * 4)).block, (ad.add (i * 4)).off + 1, none⟩ = some (.string T)) (hk : K = k) (HT : Aside0 (¬ T.toList = s.toList)) :
    Calls Tryd.prog 83 #[.pointer (some ⟨g, 0, none⟩), .int .i8 k, .string s] w fun en w' => en = .returned (.bool false) ∧ Tr w0 g (some ad) c xs i w' ∧ KeepBut w w' g none := by
  subst hk
  have e0 := (blk_cell HR.out.blk 0).trans rfl
  have e1 := (blk_cell HR.out.blk 1).trans rfl
  simp at e0 e1
  rw [HL.out] at e0
  go_enter Tryd.func83, Tryd.ntmps83
  go_wp2_with fail
  refine wp_region_held_drew (S := fun w' => (w'.cell? ⟨g, 0, none⟩ = some (.slice (some ad) n c) ∧ w'.cell? ⟨g, 1, none⟩ = some (.int .i64 (i : Int))) ∧ w'.cell? (ad.add (i * 4)) = some (.int .i8 K) ∧ w'.cell? ⟨(ad.add (i * 4)).block, (ad.add (i * 4)).off + 1, none⟩ = some (.string T)) (by kernel_rfl) ⟨⟨e0, e1⟩, x0, x1⟩ (fun hHeld => ?_)
  have HD := Aside0.mk ((Below.refl w.heap.size w).drew)
  have HN := Aside0.mk (HR.out.after HD.out)
  generalize w.drew = w1 at *
  refine takeA 7 0 (v := ?_) ?_ hHeld ?_
  rotate_left
  · intro w hSw
    try dsimp only at hSw
    go_simp <;> with_reducible rfl
  try simp only [Act.put, List.setIfInBounds_toArray, List.set_cons_zero, List.set_cons_succ]
  refine takeA 8 1 (v := ?_) ?_ hHeld ?_
  rotate_left
  · intro w hSw
    try dsimp only at hSw
    go_simp <;> with_reducible rfl
  try simp only [Act.put, List.setIfInBounds_toArray, List.set_cons_zero, List.set_cons_succ]
  refine takeA 9 2 (v := ?_) ?_ hHeld ?_
  rotate_left
  · intro w hSw
    try dsimp only at hSw
    go_simp <;> with_reducible rfl
  try simp only [Act.put, List.setIfInBounds_toArray, List.set_cons_zero, List.set_cons_succ]
  refine takeA 10 3 (v := ?_) ?_ hHeld ?_
  rotate_left
  · intro w hSw
    try dsimp only at hSw
    go_simp <;> with_reducible rfl
  try simp only [Act.put, List.setIfInBounds_toArray, List.set_cons_zero, List.set_cons_succ]
  refine takeA 11 4 (v := ?_) ?_ hHeld ?_
  rotate_left
  · intro w hSw
    try dsimp only at hSw
    go_simp <;> with_reducible rfl
  try simp only [Act.put, List.setIfInBounds_toArray, List.set_cons_zero, List.set_cons_succ]
  refine takeA 12 5 (v := ?_) ?_ hHeld ?_
  rotate_left
  · intro w hSw
    try dsimp only at hSw
    go_simp <;> with_reducible rfl
  try simp only [Act.put, List.setIfInBounds_toArray, List.set_cons_zero, List.set_cons_succ]
  refine takeA 13 6 (v := ?_) ?_ hHeld ?_
  rotate_left
  · intro w hSw
    try dsimp only at hSw
    go_simp <;> with_reducible rfl
  try simp only [Act.put, List.setIfInBounds_toArray, List.set_cons_zero, List.set_cons_succ]
  refine takeA 14 7 (v := ?_) ?_ hHeld ?_
  rotate_left
  · intro w hSw
    try dsimp only at hSw
    go_simp <;> with_reducible rfl
  try simp only [Act.put, List.setIfInBounds_toArray, List.set_cons_zero, List.set_cons_succ]
  refine takeA 15 8 (v := ?_) ?_ hHeld ?_
  rotate_left
  · intro w hSw
    try dsimp only at hSw
    go_simp <;> with_reducible rfl
  try simp only [Act.put, List.setIfInBounds_toArray, List.set_cons_zero, List.set_cons_succ]
  refine takeH (d := some 16) (v := .bool true) 9 rfl rfl (by kernel_rfl) (by kernel_rfl) (by kernel_rfl) (fun _ _ _ h => h) (by rfl) (fun w hSw => by (try dsimp only at hSw); go_simp <;> first | done | omega | (simp; omega)) hHeld ?_
  try simp only [Act.put, List.setIfInBounds_toArray, List.set_cons_zero, List.set_cons_succ]
  refine takeA 17 10 (v := ?_) ?_ hHeld ?_
  rotate_left
  · intro w hSw
    try dsimp only at hSw
    go_simp <;> with_reducible rfl
  try simp only [Act.put, List.setIfInBounds_toArray, List.set_cons_zero, List.set_cons_succ]
  refine takeA 18 11 (v := ?_) ?_ hHeld ?_
  rotate_left
  · intro w hSw
    try dsimp only at hSw
    go_simp <;> with_reducible rfl
  try simp only [Act.put, List.setIfInBounds_toArray, List.set_cons_zero, List.set_cons_succ]
  refine takeA 19 12 (v := ?_) ?_ hHeld ?_
  rotate_left
  · intro w hSw
    try dsimp only at hSw
    go_simp <;> with_reducible rfl
  try simp only [Act.put, List.setIfInBounds_toArray, List.set_cons_zero, List.set_cons_succ]
  refine takeA 20 13 (v := ?_) ?_ hHeld ?_
  rotate_left
  · intro w hSw
    try dsimp only at hSw
    go_simp <;> with_reducible rfl
  try simp only [Act.put, List.setIfInBounds_toArray, List.set_cons_zero, List.set_cons_succ]
  refine takeA 21 14 (v := ?_) ?_ hHeld ?_
  rotate_left
  · intro w hSw
    try dsimp only at hSw
    go_simp <;> with_reducible rfl
  try simp only [Act.put, List.setIfInBounds_toArray, List.set_cons_zero, List.set_cons_succ]
  refine takeA 22 15 (v := ?_) ?_ hHeld ?_
  rotate_left
  · intro w hSw
    try dsimp only at hSw
    go_simp <;> with_reducible rfl
  try simp only [Act.put, List.setIfInBounds_toArray, List.set_cons_zero, List.set_cons_succ]
  refine takeA 23 16 (v := ?_) ?_ hHeld ?_
  rotate_left
  · intro w hSw
    try dsimp only at hSw
    go_simp <;> with_reducible rfl
  try simp only [Act.put, List.setIfInBounds_toArray, List.set_cons_zero, List.set_cons_succ]
  refine takeA 24 17 (v := ?_) ?_ hHeld ?_
  rotate_left
  · intro w hSw
    try dsimp only at hSw
    go_simp <;> with_reducible rfl
  try simp only [Act.put, List.setIfInBounds_toArray, List.set_cons_zero, List.set_cons_succ]
  refine takeA 25 18 (v := ?_) ?_ hHeld ?_
  rotate_left
  · intro w hSw
    try dsimp only at hSw
    go_simp <;> with_reducible rfl
  try simp only [Act.put, List.setIfInBounds_toArray, List.set_cons_zero, List.set_cons_succ]
  refine takeH (d := some 26) (v := .pointer (some (ad.add (i * 4)))) 19 rfl rfl (by kernel_rfl) (by kernel_rfl) (by kernel_rfl) (fun _ _ _ h => h) (by rfl) (fun w hSw => by (try dsimp only at hSw); go_simp <;> first | done | (rw [if_pos (by omega)]) | (intro hcc; omega)) hHeld ?_
  try simp only [Act.put, List.setIfInBounds_toArray, List.set_cons_zero, List.set_cons_succ]
  refine takeA 27 20 (v := ?_) ?_ hHeld ?_
  rotate_left
  · intro w hSw
    try dsimp only at hSw
    go_simp <;> with_reducible rfl
  try simp only [Act.put, List.setIfInBounds_toArray, List.set_cons_zero, List.set_cons_succ]
  refine takeA 28 21 (v := ?_) ?_ hHeld ?_
  rotate_left
  · intro w hSw
    try dsimp only at hSw
    go_simp <;> with_reducible rfl
  try simp only [Act.put, List.setIfInBounds_toArray, List.set_cons_zero, List.set_cons_succ]
  refine takeA 29 22 (v := ?_) ?_ hHeld ?_
  rotate_left
  · intro w hSw
    try dsimp only at hSw
    go_simp <;> with_reducible rfl
  try simp only [Act.put, List.setIfInBounds_toArray, List.set_cons_zero, List.set_cons_succ]
  refine takeH (d := some 30) (v := .bool true) 23 rfl rfl (by kernel_rfl) (by kernel_rfl) (by kernel_rfl) (fun _ _ _ h => h) (by rfl) (fun w hSw => by (try dsimp only at hSw); go_simp <;> first | done | exact HK.out | simp) hHeld ?_
  try simp only [Act.put, List.setIfInBounds_toArray, List.set_cons_zero, List.set_cons_succ]
  refine takeA 31 24 (v := ?_) ?_ hHeld ?_
  rotate_left
  · intro w hSw
    try dsimp only at hSw
    go_simp <;> with_reducible rfl
  try simp only [Act.put, List.setIfInBounds_toArray, List.set_cons_zero, List.set_cons_succ]
  refine takeA 32 25 (v := ?_) ?_ hHeld ?_
  rotate_left
  · intro w hSw
    try dsimp only at hSw
    go_simp <;> with_reducible rfl
  try simp only [Act.put, List.setIfInBounds_toArray, List.set_cons_zero, List.set_cons_succ]
  refine takeA 33 26 (v := ?_) ?_ hHeld ?_
  rotate_left
  · intro w hSw
    try dsimp only at hSw
    go_simp <;> with_reducible rfl
  try simp only [Act.put, List.setIfInBounds_toArray, List.set_cons_zero, List.set_cons_succ]
  refine takeA 34 27 (v := ?_) ?_ hHeld ?_
  rotate_left
  · intro w hSw
    try dsimp only at hSw
    go_simp <;> with_reducible rfl
  try simp only [Act.put, List.setIfInBounds_toArray, List.set_cons_zero, List.set_cons_succ]
  refine takeA 35 28 (v := ?_) ?_ hHeld ?_
  rotate_left
  · intro w hSw
    try dsimp only at hSw
    go_simp <;> with_reducible rfl
  try simp only [Act.put, List.setIfInBounds_toArray, List.set_cons_zero, List.set_cons_succ]
  refine takeA 36 29 (v := ?_) ?_ hHeld ?_
  rotate_left
  · intro w hSw
    try dsimp only at hSw
    go_simp <;> with_reducible rfl
  try simp only [Act.put, List.setIfInBounds_toArray, List.set_cons_zero, List.set_cons_succ]
  refine takeA 37 30 (v := ?_) ?_ hHeld ?_
  rotate_left
  · intro w hSw
    try dsimp only at hSw
    go_simp <;> with_reducible rfl
  try simp only [Act.put, List.setIfInBounds_toArray, List.set_cons_zero, List.set_cons_succ]
  refine takeA 38 31 (v := ?_) ?_ hHeld ?_
  rotate_left
  · intro w hSw
    try dsimp only at hSw
    go_simp <;> with_reducible rfl
  try simp only [Act.put, List.setIfInBounds_toArray, List.set_cons_zero, List.set_cons_succ]
  refine takeA 39 32 (v := ?_) ?_ hHeld ?_
  rotate_left
  · intro w hSw
    try dsimp only at hSw
    go_simp <;> with_reducible rfl
  try simp only [Act.put, List.setIfInBounds_toArray, List.set_cons_zero, List.set_cons_succ]
  refine takeA 40 33 (v := ?_) ?_ hHeld ?_
  rotate_left
  · intro w hSw
    try dsimp only at hSw
    go_simp <;> with_reducible rfl
  try simp only [Act.put, List.setIfInBounds_toArray, List.set_cons_zero, List.set_cons_succ]
  refine takeH (d := some 41) (v := .pointer (some (ad.add (i * 4)))) 34 rfl rfl (by kernel_rfl) (by kernel_rfl) (by kernel_rfl) (fun _ _ _ h => h) (by rfl) (fun w hSw => by (try dsimp only at hSw); go_simp <;> first | done | (rw [if_pos (by omega)]) | (intro hcc; omega)) hHeld ?_
  try simp only [Act.put, List.setIfInBounds_toArray, List.set_cons_zero, List.set_cons_succ]
  refine takeA 42 35 (v := ?_) ?_ hHeld ?_
  rotate_left
  · intro w hSw
    try dsimp only at hSw
    go_simp <;> with_reducible rfl
  try simp only [Act.put, List.setIfInBounds_toArray, List.set_cons_zero, List.set_cons_succ]
  refine takeA 43 36 (v := ?_) ?_ hHeld ?_
  rotate_left
  · intro w hSw
    try dsimp only at hSw
    go_simp <;> with_reducible rfl
  try simp only [Act.put, List.setIfInBounds_toArray, List.set_cons_zero, List.set_cons_succ]
  refine takeA 44 37 (v := ?_) ?_ hHeld ?_
  rotate_left
  · intro w hSw
    try dsimp only at hSw
    go_simp <;> with_reducible rfl
  try simp only [Act.put, List.setIfInBounds_toArray, List.set_cons_zero, List.set_cons_succ]
  refine takeH (d := some 45) (v := .bool false) 38 rfl rfl (by kernel_rfl) (by kernel_rfl) (by kernel_rfl) (fun _ _ _ h => h) (by rfl) (fun w hSw => by (try dsimp only at hSw); go_simp <;> first | done | exact HT.out) hHeld ?_
  try simp only [Act.put, List.setIfInBounds_toArray, List.set_cons_zero, List.set_cons_succ]
  refine takeA 46 39 (v := ?_) ?_ hHeld ?_
  rotate_left
  · intro w hSw
    try dsimp only at hSw
    go_simp <;> with_reducible rfl
  try simp only [Act.put, List.setIfInBounds_toArray, List.set_cons_zero, List.set_cons_succ]
  refine wpAnyH_done (by kernel_rfl) ?_ _
  clear hHeld
  go_wp2_with fail
  go_ret
  exact ⟨rfl, HN.out, KeepBut.of_below HD.out g none⟩
set_option maxRecDepth 100000 in
set_option maxHeartbeats 3200000 in
theorem take_yes {w0 : World} {g : Nat} {ad : Addr} {c : Nat} {xs : List S37} {i : Nat} {w : World} (HR : Aside0 (Tr w0 g (some ad) c xs i w)) {n : Nat} (HL : Aside0 (xs.length = n)) (hn : n ≤ 200000) (hi : i ≤ n) (k : Int) (s : ByteArray) (hlt : i < n) (K : Int) (T : ByteArray) (x0 : w.cell? (ad.add (i * 4)) = some (.int .i8 K)) (x1 : w.cell? ⟨(ad.add (i * 4)).block, (ad.add (i * 4)).off + 1, none⟩ = some (.string T)) (hk : K = k) (HT : Aside0 (T.toList = s.toList)) :
    Calls Tryd.prog 83 #[.pointer (some ⟨g, 0, none⟩), .int .i8 k, .string s] w fun en w' => en = .returned (.bool true) ∧ Tr w0 g (some ad) c xs (i + 1) w' ∧ KeepBut w w' g none := by
  subst hk
  have e0 := (blk_cell HR.out.blk 0).trans rfl
  have e1 := (blk_cell HR.out.blk 1).trans rfl
  simp at e0 e1
  rw [HL.out] at e0
  go_enter Tryd.func83, Tryd.ntmps83
  go_wp2_with fail
  refine wp_region_held_drew (S := fun w' => (w'.cell? ⟨g, 0, none⟩ = some (.slice (some ad) n c) ∧ w'.cell? ⟨g, 1, none⟩ = some (.int .i64 (i : Int))) ∧ w'.cell? (ad.add (i * 4)) = some (.int .i8 K) ∧ w'.cell? ⟨(ad.add (i * 4)).block, (ad.add (i * 4)).off + 1, none⟩ = some (.string T)) (by kernel_rfl) ⟨⟨e0, e1⟩, x0, x1⟩ (fun hHeld => ?_)
  have HD := Aside0.mk ((Below.refl w.heap.size w).drew)
  have HN := Aside0.mk (HR.out.after HD.out)
  generalize w.drew = w1 at *
  refine takeA 7 0 (v := ?_) ?_ hHeld ?_
  rotate_left
  · intro w hSw
    try dsimp only at hSw
    go_simp <;> with_reducible rfl
  try simp only [Act.put, List.setIfInBounds_toArray, List.set_cons_zero, List.set_cons_succ]
  refine takeA 8 1 (v := ?_) ?_ hHeld ?_
  rotate_left
  · intro w hSw
    try dsimp only at hSw
    go_simp <;> with_reducible rfl
  try simp only [Act.put, List.setIfInBounds_toArray, List.set_cons_zero, List.set_cons_succ]
  refine takeA 9 2 (v := ?_) ?_ hHeld ?_
  rotate_left
  · intro w hSw
    try dsimp only at hSw
    go_simp <;> with_reducible rfl
  try simp only [Act.put, List.setIfInBounds_toArray, List.set_cons_zero, List.set_cons_succ]
  refine takeA 10 3 (v := ?_) ?_ hHeld ?_
  rotate_left
  · intro w hSw
    try dsimp only at hSw
    go_simp <;> with_reducible rfl
  try simp only [Act.put, List.setIfInBounds_toArray, List.set_cons_zero, List.set_cons_succ]
  refine takeA 11 4 (v := ?_) ?_ hHeld ?_
  rotate_left
  · intro w hSw
    try dsimp only at hSw
    go_simp <;> with_reducible rfl
  try simp only [Act.put, List.setIfInBounds_toArray, List.set_cons_zero, List.set_cons_succ]
  refine takeA 12 5 (v := ?_) ?_ hHeld ?_
  rotate_left
  · intro w hSw
    try dsimp only at hSw
    go_simp <;> with_reducible rfl
  try simp only [Act.put, List.setIfInBounds_toArray, List.set_cons_zero, List.set_cons_succ]
  refine takeA 13 6 (v := ?_) ?_ hHeld ?_
  rotate_left
  · intro w hSw
    try dsimp only at hSw
    go_simp <;> with_reducible rfl
  try simp only [Act.put, List.setIfInBounds_toArray, List.set_cons_zero, List.set_cons_succ]
  refine takeA 14 7 (v := ?_) ?_ hHeld ?_
  rotate_left
  · intro w hSw
    try dsimp only at hSw
    go_simp <;> with_reducible rfl
  try simp only [Act.put, List.setIfInBounds_toArray, List.set_cons_zero, List.set_cons_succ]
  refine takeA 15 8 (v := ?_) ?_ hHeld ?_
  rotate_left
  · intro w hSw
    try dsimp only at hSw
    go_simp <;> with_reducible rfl
  try simp only [Act.put, List.setIfInBounds_toArray, List.set_cons_zero, List.set_cons_succ]
  refine takeH (d := some 16) (v := .bool true) 9 rfl rfl (by kernel_rfl) (by kernel_rfl) (by kernel_rfl) (fun _ _ _ h => h) (by rfl) (fun w hSw => by (try dsimp only at hSw); go_simp <;> first | done | omega | (simp; omega)) hHeld ?_
  try simp only [Act.put, List.setIfInBounds_toArray, List.set_cons_zero, List.set_cons_succ]
  refine takeA 17 10 (v := ?_) ?_ hHeld ?_
  rotate_left
  · intro w hSw
    try dsimp only at hSw
    go_simp <;> with_reducible rfl
  try simp only [Act.put, List.setIfInBounds_toArray, List.set_cons_zero, List.set_cons_succ]
  refine takeA 18 11 (v := ?_) ?_ hHeld ?_
  rotate_left
  · intro w hSw
    try dsimp only at hSw
    go_simp <;> with_reducible rfl
  try simp only [Act.put, List.setIfInBounds_toArray, List.set_cons_zero, List.set_cons_succ]
  refine takeA 19 12 (v := ?_) ?_ hHeld ?_
  rotate_left
  · intro w hSw
    try dsimp only at hSw
    go_simp <;> with_reducible rfl
  try simp only [Act.put, List.setIfInBounds_toArray, List.set_cons_zero, List.set_cons_succ]
  refine takeA 20 13 (v := ?_) ?_ hHeld ?_
  rotate_left
  · intro w hSw
    try dsimp only at hSw
    go_simp <;> with_reducible rfl
  try simp only [Act.put, List.setIfInBounds_toArray, List.set_cons_zero, List.set_cons_succ]
  refine takeA 21 14 (v := ?_) ?_ hHeld ?_
  rotate_left
  · intro w hSw
    try dsimp only at hSw
    go_simp <;> with_reducible rfl
  try simp only [Act.put, List.setIfInBounds_toArray, List.set_cons_zero, List.set_cons_succ]
  refine takeA 22 15 (v := ?_) ?_ hHeld ?_
  rotate_left
  · intro w hSw
    try dsimp only at hSw
    go_simp <;> with_reducible rfl
  try simp only [Act.put, List.setIfInBounds_toArray, List.set_cons_zero, List.set_cons_succ]
  refine takeA 23 16 (v := ?_) ?_ hHeld ?_
  rotate_left
  · intro w hSw
    try dsimp only at hSw
    go_simp <;> with_reducible rfl
  try simp only [Act.put, List.setIfInBounds_toArray, List.set_cons_zero, List.set_cons_succ]
  refine takeA 24 17 (v := ?_) ?_ hHeld ?_
  rotate_left
  · intro w hSw
    try dsimp only at hSw
    go_simp <;> with_reducible rfl
  try simp only [Act.put, List.setIfInBounds_toArray, List.set_cons_zero, List.set_cons_succ]
  refine takeA 25 18 (v := ?_) ?_ hHeld ?_
  rotate_left
  · intro w hSw
    try dsimp only at hSw
    go_simp <;> with_reducible rfl
  try simp only [Act.put, List.setIfInBounds_toArray, List.set_cons_zero, List.set_cons_succ]
  refine takeH (d := some 26) (v := .pointer (some (ad.add (i * 4)))) 19 rfl rfl (by kernel_rfl) (by kernel_rfl) (by kernel_rfl) (fun _ _ _ h => h) (by rfl) (fun w hSw => by (try dsimp only at hSw); go_simp <;> first | done | (rw [if_pos (by omega)]) | (intro hcc; omega)) hHeld ?_
  try simp only [Act.put, List.setIfInBounds_toArray, List.set_cons_zero, List.set_cons_succ]
  refine takeA 27 20 (v := ?_) ?_ hHeld ?_
  rotate_left
  · intro w hSw
    try dsimp only at hSw
    go_simp <;> with_reducible rfl
  try simp only [Act.put, List.setIfInBounds_toArray, List.set_cons_zero, List.set_cons_succ]
  refine takeA 28 21 (v := ?_) ?_ hHeld ?_
  rotate_left
  · intro w hSw
    try dsimp only at hSw
    go_simp <;> with_reducible rfl
  try simp only [Act.put, List.setIfInBounds_toArray, List.set_cons_zero, List.set_cons_succ]
  refine takeA 29 22 (v := ?_) ?_ hHeld ?_
  rotate_left
  · intro w hSw
    try dsimp only at hSw
    go_simp <;> with_reducible rfl
  try simp only [Act.put, List.setIfInBounds_toArray, List.set_cons_zero, List.set_cons_succ]
  refine takeH (d := some 30) (v := .bool true) 23 rfl rfl (by kernel_rfl) (by kernel_rfl) (by kernel_rfl) (fun _ _ _ h => h) (by rfl) (fun w hSw => by (try dsimp only at hSw); go_simp <;> first | done | exact HK.out | simp) hHeld ?_
  try simp only [Act.put, List.setIfInBounds_toArray, List.set_cons_zero, List.set_cons_succ]
  refine takeA 31 24 (v := ?_) ?_ hHeld ?_
  rotate_left
  · intro w hSw
    try dsimp only at hSw
    go_simp <;> with_reducible rfl
  try simp only [Act.put, List.setIfInBounds_toArray, List.set_cons_zero, List.set_cons_succ]
  refine takeA 32 25 (v := ?_) ?_ hHeld ?_
  rotate_left
  · intro w hSw
    try dsimp only at hSw
    go_simp <;> with_reducible rfl
  try simp only [Act.put, List.setIfInBounds_toArray, List.set_cons_zero, List.set_cons_succ]
  refine takeA 33 26 (v := ?_) ?_ hHeld ?_
  rotate_left
  · intro w hSw
    try dsimp only at hSw
    go_simp <;> with_reducible rfl
  try simp only [Act.put, List.setIfInBounds_toArray, List.set_cons_zero, List.set_cons_succ]
  refine takeA 34 27 (v := ?_) ?_ hHeld ?_
  rotate_left
  · intro w hSw
    try dsimp only at hSw
    go_simp <;> with_reducible rfl
  try simp only [Act.put, List.setIfInBounds_toArray, List.set_cons_zero, List.set_cons_succ]
  refine takeA 35 28 (v := ?_) ?_ hHeld ?_
  rotate_left
  · intro w hSw
    try dsimp only at hSw
    go_simp <;> with_reducible rfl
  try simp only [Act.put, List.setIfInBounds_toArray, List.set_cons_zero, List.set_cons_succ]
  refine takeA 36 29 (v := ?_) ?_ hHeld ?_
  rotate_left
  · intro w hSw
    try dsimp only at hSw
    go_simp <;> with_reducible rfl
  try simp only [Act.put, List.setIfInBounds_toArray, List.set_cons_zero, List.set_cons_succ]
  refine takeA 37 30 (v := ?_) ?_ hHeld ?_
  rotate_left
  · intro w hSw
    try dsimp only at hSw
    go_simp <;> with_reducible rfl
  try simp only [Act.put, List.setIfInBounds_toArray, List.set_cons_zero, List.set_cons_succ]
  refine takeA 38 31 (v := ?_) ?_ hHeld ?_
  rotate_left
  · intro w hSw
    try dsimp only at hSw
    go_simp <;> with_reducible rfl
  try simp only [Act.put, List.setIfInBounds_toArray, List.set_cons_zero, List.set_cons_succ]
  refine takeA 39 32 (v := ?_) ?_ hHeld ?_
  rotate_left
  · intro w hSw
    try dsimp only at hSw
    go_simp <;> with_reducible rfl
  try simp only [Act.put, List.setIfInBounds_toArray, List.set_cons_zero, List.set_cons_succ]
  refine takeA 40 33 (v := ?_) ?_ hHeld ?_
  rotate_left
  · intro w hSw
    try dsimp only at hSw
    go_simp <;> with_reducible rfl
  try simp only [Act.put, List.setIfInBounds_toArray, List.set_cons_zero, List.set_cons_succ]
  refine takeH (d := some 41) (v := .pointer (some (ad.add (i * 4)))) 34 rfl rfl (by kernel_rfl) (by kernel_rfl) (by kernel_rfl) (fun _ _ _ h => h) (by rfl) (fun w hSw => by (try dsimp only at hSw); go_simp <;> first | done | (rw [if_pos (by omega)]) | (intro hcc; omega)) hHeld ?_
  try simp only [Act.put, List.setIfInBounds_toArray, List.set_cons_zero, List.set_cons_succ]
  refine takeA 42 35 (v := ?_) ?_ hHeld ?_
  rotate_left
  · intro w hSw
    try dsimp only at hSw
    go_simp <;> with_reducible rfl
  try simp only [Act.put, List.setIfInBounds_toArray, List.set_cons_zero, List.set_cons_succ]
  refine takeA 43 36 (v := ?_) ?_ hHeld ?_
  rotate_left
  · intro w hSw
    try dsimp only at hSw
    go_simp <;> with_reducible rfl
  try simp only [Act.put, List.setIfInBounds_toArray, List.set_cons_zero, List.set_cons_succ]
  refine takeA 44 37 (v := ?_) ?_ hHeld ?_
  rotate_left
  · intro w hSw
    try dsimp only at hSw
    go_simp <;> with_reducible rfl
  try simp only [Act.put, List.setIfInBounds_toArray, List.set_cons_zero, List.set_cons_succ]
  refine takeH (d := some 45) (v := .bool true) 38 rfl rfl (by kernel_rfl) (by kernel_rfl) (by kernel_rfl) (fun _ _ _ h => h) (by rfl) (fun w hSw => by (try dsimp only at hSw); go_simp <;> first | done | exact HT.out) hHeld ?_
  try simp only [Act.put, List.setIfInBounds_toArray, List.set_cons_zero, List.set_cons_succ]
  refine takeA 46 39 (v := ?_) ?_ hHeld ?_
  rotate_left
  · intro w hSw
    try dsimp only at hSw
    go_simp <;> with_reducible rfl
  try simp only [Act.put, List.setIfInBounds_toArray, List.set_cons_zero, List.set_cons_succ]
  refine wpAnyH_done (by kernel_rfl) ?_ _
  clear hHeld
  have e1 := (blk_cell HN.out.blk 1).trans rfl
  have z1 := blk_frozen HN.out.blk 1
  simp at e1
  go_wp2_with fail
  go_ret
  exact ⟨rfl, HN.out.move (i + 1), (KeepBut.of_below HD.out g none).set_ 1 _⟩
end Go.Proofs.YtjmpejbciniceaaDoor.X
namespace Go.Proofs.YtjmpejbciniceaaDoor.X
open Go.RowKit Go.Proofs.YtjmpejbciniceaaDoorW.PrintWords Go.Proofs.YtjmpejbciniceaaDoorW.PrintLast Go.Proofs.YtjmpejbciniceaaDoorW.PrintMore
set_option linter.unusedVariables false
set_option linter.unusedSimpArgs false
theorem word_at {w : World} {A : Option Addr} {n : Nat} {xs : List S37} (h : Kd.C k37 w A n xs) (j : Nat) (hj : j < n) (x : S37) (hx : xs[j]? = some x) : ∃ ad, A = some ad ∧ w.cell? (ad.add (j * 4)) = some (.int .i8 x.f0) ∧ w.cell? ⟨(ad.add (j * 4)).block, (ad.add (j * 4)).off + 1, none⟩ = some (.string x.f1) ∧ w.cell? ⟨(ad.add (j * 4)).block, (ad.add (j * 4)).off + 2, none⟩ = some (.int .i64 x.f2) ∧ w.cell? ⟨(ad.add (j * 4)).block, (ad.add (j * 4)).off + 3, none⟩ = some (.int .i64 x.f3) := by
  obtain ⟨ad, e, h0, h1, h2, h3⟩ := at_T37 h (j : Int) (by omega) (by omega)
  have er : rd_T37 xs (j : Int) = x := by
    unfold rd_T37
    rw [List.getD_eq_getElem?_getD, show ((j : Int)).toNat = j from rfl, hx]
    rfl
  rw [er] at h0 h1 h2 h3
  exact ⟨ad, e, h0, h1, h2, h3⟩
theorem take_calls {w0 : World} {g : Nat} {A : Option Addr} {c : Nat} {xs : List S37} {i : Nat} {w : World} (h : Tr w0 g A c xs i w) (hn : xs.length ≤ 200000) (hi : i ≤ xs.length) (k : Int) (s : ByteArray) :
    Calls Tryd.prog 83 #[.pointer (some ⟨g, 0, none⟩), .int .i8 k, .string s] w (TakePost w0 g A c xs i k s.toList w) := by
  have HR := Aside0.mk h
  by_cases hlt : i < xs.length
  · have hg : xs[i]? = some (xs[i]'hlt) := List.getElem?_eq_getElem hlt
    obtain ⟨ad, rfl, x0, x1, _, _⟩ := word_at (Kd.C_below h.words h.below) i hlt _ hg
    by_cases hk : (xs[i]'hlt).f0 = k
    · by_cases ht : (xs[i]'hlt).f1.toList = s.toList
      · exact (take_yes HR (.mk rfl) hn hi k s hlt _ _ x0 x1 hk (.mk ht)).mono fun e w' h => .inl ⟨⟨_, hg, hk, ht⟩, h⟩
      · exact (take_text HR (.mk rfl) hn hi k s hlt _ _ x0 x1 hk (.mk ht)).mono fun e w' h => .inr ⟨fun ⟨x, h1, _, h3⟩ => by rw [hg] at h1; injection h1 with h1; subst h1; exact ht h3, h⟩
    · exact (take_kind HR (.mk rfl) hn hi k s hlt _ _ x0 x1 (.mk hk)).mono fun e w' h => .inr ⟨fun ⟨x, h1, h2, _⟩ => by rw [hg] at h1; injection h1 with h1; subst h1; exact hk h2, h⟩
  · exact (take_end HR (.mk rfl) hn hi k s (by omega)).mono fun e w' h => .inr ⟨fun ⟨x, h1, _, _⟩ => by rw [List.getElem?_eq_none (by omega)] at h1; simp at h1, h⟩
def WrongPost (P : Int) (T : ByteArray) (w : World) (en : Ending) (w' : World) : Prop := ∃ q, en = .panicked [{ v := .iface 60 (.pointer (some ⟨q, 0, none⟩)), recovered := false }] ∧ Below w.heap.size w w' ∧ w'.heap[q]? = some (.cells #[.int .i64 40, .int .i64 P, .string T] 62 (0, 0))
set_option maxRecDepth 100000 in
set_option maxHeartbeats 3200000 in
theorem wrong_none {w0 : World} {g : Nat} {A : Option Addr} {c : Nat} {xs : List S37} {i : Nat} {w : World} (HR : Aside0 (Tr w0 g A c xs i w)) (hn : xs.length = 0) :
    Calls Tryd.prog 133 #[.pointer (some ⟨g, 0, none⟩)] w (WrongPost 0 ⟨#[]⟩ w) := by
  have e0 := (blk_cell HR.out.blk 0).trans rfl
  have e1 := (blk_cell HR.out.blk 1).trans rfl
  simp at e0 e1
  rw [hn] at e0
  clear hn
  have OK : Aside0 (∀ w', Below w.heap.size w w' → (fun w' => w'.cell? ⟨g, 0, none⟩ = some (.slice A 0 c) ∧ w'.cell? ⟨g, 1, none⟩ = some (.int .i64 (i : Int))) w') := .mk (fun w' h => ⟨(h.cell (World.block_lt_of_cell? w _ e0)).trans e0, (h.cell (World.block_lt_of_cell? w _ e1)).trans e1⟩)
  clear e0 e1
  go_enter Tryd.func133, Tryd.ntmps133
  go_wp2_with fail
  have HB : Aside0 (Below w.heap.size w (w.alloc (.cells #[.int .i64 40, .int .i64 0, .string ⟨#[]⟩] 62))) := .mk ((Below.refl _ _).alloc (Nat.le_refl _) _)
  have HQ := Aside0.mk (heap_alloc_new w (.cells #[.int .i64 40, .int .i64 0, .string ⟨#[]⟩] 62))
  generalize w.alloc (.cells #[.int .i64 40, .int .i64 0, .string ⟨#[]⟩] 62) = wa at *
  refine wp_region_held_drew (S := fun w' => w'.cell? ⟨g, 0, none⟩ = some (.slice A 0 c) ∧ w'.cell? ⟨g, 1, none⟩ = some (.int .i64 (i : Int))) (by kernel_rfl) (OK.out _ HB.out.drew) (fun hHeld => ?_)
  replace HB := Aside0.mk HB.out.drew
  replace HQ := Aside0.mk (blk_below HQ.out ((Below.refl _ _).drew))
  generalize HW : World.drew _ = wd at *
  clear HW
  refine takeA 6 0 (v := ?_) ?_ hHeld ?_
  rotate_left
  · intro w hSw
    try dsimp only at hSw
    go_simp <;> with_reducible rfl
  try simp only [Act.put, List.setIfInBounds_toArray, List.set_cons_zero, List.set_cons_succ]
  refine takeA 7 1 (v := ?_) ?_ hHeld ?_
  rotate_left
  · intro w hSw
    try dsimp only at hSw
    go_simp <;> with_reducible rfl
  try simp only [Act.put, List.setIfInBounds_toArray, List.set_cons_zero, List.set_cons_succ]
  refine takeA 8 2 (v := ?_) ?_ hHeld ?_
  rotate_left
  · intro w hSw
    try dsimp only at hSw
    go_simp <;> with_reducible rfl
  try simp only [Act.put, List.setIfInBounds_toArray, List.set_cons_zero, List.set_cons_succ]
  refine takeA 9 3 (v := ?_) ?_ hHeld ?_
  rotate_left
  · intro w hSw
    try dsimp only at hSw
    go_simp <;> with_reducible rfl
  try simp only [Act.put, List.setIfInBounds_toArray, List.set_cons_zero, List.set_cons_succ]
  refine takeA 10 4 (v := ?_) ?_ hHeld ?_
  rotate_left
  · intro w hSw
    try dsimp only at hSw
    go_simp <;> with_reducible rfl
  try simp only [Act.put, List.setIfInBounds_toArray, List.set_cons_zero, List.set_cons_succ]
  refine takeA 11 5 (v := ?_) ?_ hHeld ?_
  rotate_left
  · intro w hSw
    try dsimp only at hSw
    go_simp <;> with_reducible rfl
  try simp only [Act.put, List.setIfInBounds_toArray, List.set_cons_zero, List.set_cons_succ]
  refine takeA 12 6 (v := ?_) ?_ hHeld ?_
  rotate_left
  · intro w hSw
    try dsimp only at hSw
    go_simp <;> with_reducible rfl
  try simp only [Act.put, List.setIfInBounds_toArray, List.set_cons_zero, List.set_cons_succ]
  refine takeA 13 7 (v := ?_) ?_ hHeld ?_
  rotate_left
  · intro w hSw
    try dsimp only at hSw
    go_simp <;> with_reducible rfl
  try simp only [Act.put, List.setIfInBounds_toArray, List.set_cons_zero, List.set_cons_succ]
  refine takeA 14 8 (v := ?_) ?_ hHeld ?_
  rotate_left
  · intro w hSw
    try dsimp only at hSw
    go_simp <;> with_reducible rfl
  try simp only [Act.put, List.setIfInBounds_toArray, List.set_cons_zero, List.set_cons_succ]
  refine takeH (d := some 15) (v := .bool false) 9 rfl rfl (by kernel_rfl) (by kernel_rfl) (by kernel_rfl) (fun _ _ _ h => h) (by rfl) (fun w hSw => by (try dsimp only at hSw); go_simp <;> first | done | omega | (simp; omega)) hHeld ?_
  try simp only [Act.put, List.setIfInBounds_toArray, List.set_cons_zero, List.set_cons_succ]
  refine wpAnyH_done (by kernel_rfl) ?_ _
  clear hHeld
  have e0 := (OK.out _ HB.out).1
  go_wp2_with fail
  exact ⟨rfl, w.heap.size, rfl, HB.out, HQ.out⟩
set_option maxRecDepth 100000 in
set_option maxHeartbeats 3200000 in
theorem wrong_at {w0 : World} {g : Nat} {ad : Addr} {c : Nat} {xs : List S37} {i : Nat} {w : World} (HR : Aside0 (Tr w0 g (some ad) c xs i w)) {n : Nat} (HL : Aside0 (xs.length = n)) (hn : n ≤ 200000) (hlt : i < n) (T : ByteArray) (P : Int) (x1 : w.cell? ⟨(ad.add (i * 4)).block, (ad.add (i * 4)).off + 1, none⟩ = some (.string T)) (x3 : w.cell? ⟨(ad.add (i * 4)).block, (ad.add (i * 4)).off + 3, none⟩ = some (.int .i64 P)) :
    Calls Tryd.prog 133 #[.pointer (some ⟨g, 0, none⟩)] w (WrongPost P T w) := by
  have e0 := (blk_cell HR.out.blk 0).trans rfl
  have e1 := (blk_cell HR.out.blk 1).trans rfl
  simp at e0 e1
  rw [HL.out] at e0
  have OK : Aside0 (∀ w', Below w.heap.size w w' → (fun w' => (w'.cell? ⟨g, 0, none⟩ = some (.slice (some ad) n c) ∧ w'.cell? ⟨g, 1, none⟩ = some (.int .i64 (i : Int))) ∧ w'.cell? ⟨(ad.add (i * 4)).block, (ad.add (i * 4)).off + 1, none⟩ = some (.string T) ∧ w'.cell? ⟨(ad.add (i * 4)).block, (ad.add (i * 4)).off + 3, none⟩ = some (.int .i64 P)) w') := .mk (fun w' h => ⟨⟨(h.cell (World.block_lt_of_cell? w _ e0)).trans e0, (h.cell (World.block_lt_of_cell? w _ e1)).trans e1⟩, (h.cell (World.block_lt_of_cell? w _ x1)).trans x1, (h.cell (World.block_lt_of_cell? w _ x3)).trans x3⟩)
  clear e0 e1
  go_enter Tryd.func133, Tryd.ntmps133
  go_wp2_with fail
  have HB : Aside0 (Below w.heap.size w (w.alloc (.cells #[.int .i64 40, .int .i64 0, .string ⟨#[]⟩] 62))) := .mk ((Below.refl _ _).alloc (Nat.le_refl _) _)
  have HQ := Aside0.mk (heap_alloc_new w (.cells #[.int .i64 40, .int .i64 0, .string ⟨#[]⟩] 62))
  generalize w.alloc (.cells #[.int .i64 40, .int .i64 0, .string ⟨#[]⟩] 62) = wa at *
  refine wp_region_held_drew (S := fun w' => (w'.cell? ⟨g, 0, none⟩ = some (.slice (some ad) n c) ∧ w'.cell? ⟨g, 1, none⟩ = some (.int .i64 (i : Int))) ∧ w'.cell? ⟨(ad.add (i * 4)).block, (ad.add (i * 4)).off + 1, none⟩ = some (.string T) ∧ w'.cell? ⟨(ad.add (i * 4)).block, (ad.add (i * 4)).off + 3, none⟩ = some (.int .i64 P)) (by kernel_rfl) (OK.out _ HB.out.drew) (fun hHeld => ?_)
  replace HB := Aside0.mk HB.out.drew
  replace HQ := Aside0.mk (blk_below HQ.out ((Below.refl _ _).drew))
  generalize HW : World.drew _ = wd at *
  clear HW
  refine takeA 6 0 (v := ?_) ?_ hHeld ?_
  rotate_left
  · intro w hSw
    try dsimp only at hSw
    go_simp <;> with_reducible rfl
  try simp only [Act.put, List.setIfInBounds_toArray, List.set_cons_zero, List.set_cons_succ]
  refine takeA 7 1 (v := ?_) ?_ hHeld ?_
  rotate_left
  · intro w hSw
    try dsimp only at hSw
    go_simp <;> with_reducible rfl
  try simp only [Act.put, List.setIfInBounds_toArray, List.set_cons_zero, List.set_cons_succ]
  refine takeA 8 2 (v := ?_) ?_ hHeld ?_
  rotate_left
  · intro w hSw
    try dsimp only at hSw
    go_simp <;> with_reducible rfl
  try simp only [Act.put, List.setIfInBounds_toArray, List.set_cons_zero, List.set_cons_succ]
  refine takeA 9 3 (v := ?_) ?_ hHeld ?_
  rotate_left
  · intro w hSw
    try dsimp only at hSw
    go_simp <;> with_reducible rfl
  try simp only [Act.put, List.setIfInBounds_toArray, List.set_cons_zero, List.set_cons_succ]
  refine takeA 10 4 (v := ?_) ?_ hHeld ?_
  rotate_left
  · intro w hSw
    try dsimp only at hSw
    go_simp <;> with_reducible rfl
  try simp only [Act.put, List.setIfInBounds_toArray, List.set_cons_zero, List.set_cons_succ]
  refine takeA 11 5 (v := ?_) ?_ hHeld ?_
  rotate_left
  · intro w hSw
    try dsimp only at hSw
    go_simp <;> with_reducible rfl
  try simp only [Act.put, List.setIfInBounds_toArray, List.set_cons_zero, List.set_cons_succ]
  refine takeA 12 6 (v := ?_) ?_ hHeld ?_
  rotate_left
  · intro w hSw
    try dsimp only at hSw
    go_simp <;> with_reducible rfl
  try simp only [Act.put, List.setIfInBounds_toArray, List.set_cons_zero, List.set_cons_succ]
  refine takeA 13 7 (v := ?_) ?_ hHeld ?_
  rotate_left
  · intro w hSw
    try dsimp only at hSw
    go_simp <;> with_reducible rfl
  try simp only [Act.put, List.setIfInBounds_toArray, List.set_cons_zero, List.set_cons_succ]
  refine takeA 14 8 (v := ?_) ?_ hHeld ?_
  rotate_left
  · intro w hSw
    try dsimp only at hSw
    go_simp <;> with_reducible rfl
  try simp only [Act.put, List.setIfInBounds_toArray, List.set_cons_zero, List.set_cons_succ]
  refine takeH (d := some 15) (v := .bool true) 9 rfl rfl (by kernel_rfl) (by kernel_rfl) (by kernel_rfl) (fun _ _ _ h => h) (by rfl) (fun w hSw => by (try dsimp only at hSw); go_simp <;> first | done | omega | (simp; omega)) hHeld ?_
  try simp only [Act.put, List.setIfInBounds_toArray, List.set_cons_zero, List.set_cons_succ]
  refine wpAnyH_done (by kernel_rfl) ?_ _
  clear hHeld
  go_wp2_with fail
  refine wp_region_held_drew (S := fun w' => (w'.cell? ⟨g, 0, none⟩ = some (.slice (some ad) n c) ∧ w'.cell? ⟨g, 1, none⟩ = some (.int .i64 (i : Int))) ∧ w'.cell? ⟨(ad.add (i * 4)).block, (ad.add (i * 4)).off + 1, none⟩ = some (.string T) ∧ w'.cell? ⟨(ad.add (i * 4)).block, (ad.add (i * 4)).off + 3, none⟩ = some (.int .i64 P)) (by kernel_rfl) (OK.out _ HB.out.drew) (fun hHeld => ?_)
  replace HB := Aside0.mk HB.out.drew
  replace HQ := Aside0.mk (blk_below HQ.out ((Below.refl _ _).drew))
  generalize HW : World.drew _ = wd at *
  clear HW
  refine takeA 16 0 (v := ?_) ?_ hHeld ?_
  rotate_left
  · intro w hSw
    try dsimp only at hSw
    go_simp <;> with_reducible rfl
  try simp only [Act.put, List.setIfInBounds_toArray, List.set_cons_zero, List.set_cons_succ]
  refine takeA 17 1 (v := ?_) ?_ hHeld ?_
  rotate_left
  · intro w hSw
    try dsimp only at hSw
    go_simp <;> with_reducible rfl
  try simp only [Act.put, List.setIfInBounds_toArray, List.set_cons_zero, List.set_cons_succ]
  refine takeA 18 2 (v := ?_) ?_ hHeld ?_
  rotate_left
  · intro w hSw
    try dsimp only at hSw
    go_simp <;> with_reducible rfl
  try simp only [Act.put, List.setIfInBounds_toArray, List.set_cons_zero, List.set_cons_succ]
  refine takeA 19 3 (v := ?_) ?_ hHeld ?_
  rotate_left
  · intro w hSw
    try dsimp only at hSw
    go_simp <;> with_reducible rfl
  try simp only [Act.put, List.setIfInBounds_toArray, List.set_cons_zero, List.set_cons_succ]
  refine takeA 20 4 (v := ?_) ?_ hHeld ?_
  rotate_left
  · intro w hSw
    try dsimp only at hSw
    go_simp <;> with_reducible rfl
  try simp only [Act.put, List.setIfInBounds_toArray, List.set_cons_zero, List.set_cons_succ]
  refine takeA 21 5 (v := ?_) ?_ hHeld ?_
  rotate_left
  · intro w hSw
    try dsimp only at hSw
    go_simp <;> with_reducible rfl
  try simp only [Act.put, List.setIfInBounds_toArray, List.set_cons_zero, List.set_cons_succ]
  refine takeA 22 6 (v := ?_) ?_ hHeld ?_
  rotate_left
  · intro w hSw
    try dsimp only at hSw
    go_simp <;> with_reducible rfl
  try simp only [Act.put, List.setIfInBounds_toArray, List.set_cons_zero, List.set_cons_succ]
  refine takeA 23 7 (v := ?_) ?_ hHeld ?_
  rotate_left
  · intro w hSw
    try dsimp only at hSw
    go_simp <;> with_reducible rfl
  try simp only [Act.put, List.setIfInBounds_toArray, List.set_cons_zero, List.set_cons_succ]
  refine takeA 24 8 (v := ?_) ?_ hHeld ?_
  rotate_left
  · intro w hSw
    try dsimp only at hSw
    go_simp <;> with_reducible rfl
  try simp only [Act.put, List.setIfInBounds_toArray, List.set_cons_zero, List.set_cons_succ]
  refine takeA 25 9 (v := ?_) ?_ hHeld ?_
  rotate_left
  · intro w hSw
    try dsimp only at hSw
    go_simp <;> with_reducible rfl
  try simp only [Act.put, List.setIfInBounds_toArray, List.set_cons_zero, List.set_cons_succ]
  refine takeH (d := some 26) (v := .pointer (some (ad.add (i * 4)))) 10 rfl rfl (by kernel_rfl) (by kernel_rfl) (by kernel_rfl) (fun _ _ _ h => h) (by rfl) (fun w hSw => by (try dsimp only at hSw); go_simp <;> first | done | (rw [if_pos (by omega)]) | (intro hcc; omega)) hHeld ?_
  try simp only [Act.put, List.setIfInBounds_toArray, List.set_cons_zero, List.set_cons_succ]
  refine takeA 27 11 (v := ?_) ?_ hHeld ?_
  rotate_left
  · intro w hSw
    try dsimp only at hSw
    go_simp <;> with_reducible rfl
  try simp only [Act.put, List.setIfInBounds_toArray, List.set_cons_zero, List.set_cons_succ]
  refine takeA 28 12 (v := ?_) ?_ hHeld ?_
  rotate_left
  · intro w hSw
    try dsimp only at hSw
    go_simp <;> with_reducible rfl
  try simp only [Act.put, List.setIfInBounds_toArray, List.set_cons_zero, List.set_cons_succ]
  refine takeA 29 13 (v := ?_) ?_ hHeld ?_
  rotate_left
  · intro w hSw
    try dsimp only at hSw
    go_simp <;> with_reducible rfl
  try simp only [Act.put, List.setIfInBounds_toArray, List.set_cons_zero, List.set_cons_succ]
  refine takeA 30 14 (v := ?_) ?_ hHeld ?_
  rotate_left
  · intro w hSw
    try dsimp only at hSw
    go_simp <;> with_reducible rfl
  try simp only [Act.put, List.setIfInBounds_toArray, List.set_cons_zero, List.set_cons_succ]
  refine takeA 31 15 (v := ?_) ?_ hHeld ?_
  rotate_left
  · intro w hSw
    try dsimp only at hSw
    go_simp <;> with_reducible rfl
  try simp only [Act.put, List.setIfInBounds_toArray, List.set_cons_zero, List.set_cons_succ]
  refine takeA 32 16 (v := ?_) ?_ hHeld ?_
  rotate_left
  · intro w hSw
    try dsimp only at hSw
    go_simp <;> with_reducible rfl
  try simp only [Act.put, List.setIfInBounds_toArray, List.set_cons_zero, List.set_cons_succ]
  refine takeA 33 17 (v := ?_) ?_ hHeld ?_
  rotate_left
  · intro w hSw
    try dsimp only at hSw
    go_simp <;> with_reducible rfl
  try simp only [Act.put, List.setIfInBounds_toArray, List.set_cons_zero, List.set_cons_succ]
  refine takeA 34 18 (v := ?_) ?_ hHeld ?_
  rotate_left
  · intro w hSw
    try dsimp only at hSw
    go_simp <;> with_reducible rfl
  try simp only [Act.put, List.setIfInBounds_toArray, List.set_cons_zero, List.set_cons_succ]
  refine takeA 35 19 (v := ?_) ?_ hHeld ?_
  rotate_left
  · intro w hSw
    try dsimp only at hSw
    go_simp <;> with_reducible rfl
  try simp only [Act.put, List.setIfInBounds_toArray, List.set_cons_zero, List.set_cons_succ]
  refine takeA 36 20 (v := ?_) ?_ hHeld ?_
  rotate_left
  · intro w hSw
    try dsimp only at hSw
    go_simp <;> with_reducible rfl
  try simp only [Act.put, List.setIfInBounds_toArray, List.set_cons_zero, List.set_cons_succ]
  refine takeH (d := some 37) (v := .pointer (some (ad.add (i * 4)))) 21 rfl rfl (by kernel_rfl) (by kernel_rfl) (by kernel_rfl) (fun _ _ _ h => h) (by rfl) (fun w hSw => by (try dsimp only at hSw); go_simp <;> first | done | (rw [if_pos (by omega)]) | (intro hcc; omega)) hHeld ?_
  try simp only [Act.put, List.setIfInBounds_toArray, List.set_cons_zero, List.set_cons_succ]
  refine takeA 38 22 (v := ?_) ?_ hHeld ?_
  rotate_left
  · intro w hSw
    try dsimp only at hSw
    go_simp <;> with_reducible rfl
  try simp only [Act.put, List.setIfInBounds_toArray, List.set_cons_zero, List.set_cons_succ]
  refine takeA 39 23 (v := ?_) ?_ hHeld ?_
  rotate_left
  · intro w hSw
    try dsimp only at hSw
    go_simp <;> with_reducible rfl
  try simp only [Act.put, List.setIfInBounds_toArray, List.set_cons_zero, List.set_cons_succ]
  refine takeA 40 24 (v := ?_) ?_ hHeld ?_
  rotate_left
  · intro w hSw
    try dsimp only at hSw
    go_simp <;> with_reducible rfl
  try simp only [Act.put, List.setIfInBounds_toArray, List.set_cons_zero, List.set_cons_succ]
  refine takeA 41 25 (v := ?_) ?_ hHeld ?_
  rotate_left
  · intro w hSw
    try dsimp only at hSw
    go_simp <;> with_reducible rfl
  try simp only [Act.put, List.setIfInBounds_toArray, List.set_cons_zero, List.set_cons_succ]
  refine wpAnyH_ready (rs := [26]) (by kernel_rfl) (by simp) ?_
  refine AllReadyH.cons rfl (fun K hK => ?_) (AllReadyH.nil)
  have c1 := (blk_cell HQ.out 1).trans rfl
  have z1 := blk_frozen HQ.out 1
  simp at c1
  go_simp
  clear c1 z1
  refine hK.out _ _ (OK.out _ (HB.out.setCell (p := ⟨w.heap.size, 1, none⟩) (Nat.le_refl _) _)) (fun hHeld => ?_)
  clear hK K
  replace HB := Aside0.mk (HB.out.setCell (p := ⟨w.heap.size, 1, none⟩) (Nat.le_refl _) (.int .i64 P))
  replace HQ := Aside0.mk (blk_put HQ.out 1 (.int .i64 P) rfl)
  try simp only [Act.put, List.setIfInBounds_toArray, List.set_cons_zero, List.set_cons_succ]
  refine wpAnyH_ready (rs := [27]) (by kernel_rfl) (by simp) ?_
  refine AllReadyH.cons rfl (fun K hK => ?_) (AllReadyH.nil)
  go_simp
  refine hK.out _ _ hHeld (fun hHeld => ?_)
  clear hK K
  try simp only [Act.put, List.setIfInBounds_toArray, List.set_cons_zero, List.set_cons_succ]
  refine wpAnyH_ready (rs := [28]) (by kernel_rfl) (by simp) ?_
  refine AllReadyH.cons rfl (fun K hK => ?_) (AllReadyH.nil)
  go_simp
  refine hK.out _ _ hHeld (fun hHeld => ?_)
  clear hK K
  try simp only [Act.put, List.setIfInBounds_toArray, List.set_cons_zero, List.set_cons_succ]
  refine wpAnyH_ready (rs := [29]) (by kernel_rfl) (by simp) ?_
  refine AllReadyH.cons rfl (fun K hK => ?_) (AllReadyH.nil)
  have c2 := (blk_cell HQ.out 2).trans rfl
  have z2 := blk_frozen HQ.out 2
  simp at c2
  go_simp
  clear c2 z2
  refine hK.out _ _ (OK.out _ (HB.out.setCell (p := ⟨w.heap.size, 2, none⟩) (Nat.le_refl _) _)) (fun hHeld => ?_)
  clear hK K
  replace HB := Aside0.mk (HB.out.setCell (p := ⟨w.heap.size, 2, none⟩) (Nat.le_refl _) (.string T))
  replace HQ := Aside0.mk (blk_put HQ.out 2 (.string T) rfl)
  try simp only [Act.put, List.setIfInBounds_toArray, List.set_cons_zero, List.set_cons_succ]
  refine wpAnyH_done (by kernel_rfl) ?_ _
  clear hHeld
  go_wp2_with fail
  exact ⟨rfl, w.heap.size, rfl, HB.out, HQ.out⟩
set_option maxRecDepth 100000 in
set_option maxHeartbeats 3200000 in
theorem wrong_past {w0 : World} {g : Nat} {ad : Addr} {c : Nat} {xs : List S37} {i : Nat} {w : World} (HR : Aside0 (Tr w0 g (some ad) c xs i w)) {n : Nat} (HL : Aside0 (xs.length = n + 1)) (hn : n ≤ 200000) (hlt : n < i) (T : ByteArray) (P : Int) (x1 : w.cell? ⟨(ad.add (n * 4)).block, (ad.add (n * 4)).off + 1, none⟩ = some (.string T)) (x3 : w.cell? ⟨(ad.add (n * 4)).block, (ad.add (n * 4)).off + 3, none⟩ = some (.int .i64 P)) :
    Calls Tryd.prog 133 #[.pointer (some ⟨g, 0, none⟩)] w (WrongPost (wrap64 (P + T.size)) ⟨#[]⟩ w) := by
  have e0 := (blk_cell HR.out.blk 0).trans rfl
  have e1 := (blk_cell HR.out.blk 1).trans rfl
  simp at e0 e1
  rw [HL.out] at e0
  have OK : Aside0 (∀ w', Below w.heap.size w w' → (fun w' => (w'.cell? ⟨g, 0, none⟩ = some (.slice (some ad) (n + 1) c) ∧ w'.cell? ⟨g, 1, none⟩ = some (.int .i64 (i : Int))) ∧ w'.cell? ⟨(ad.add (n * 4)).block, (ad.add (n * 4)).off + 1, none⟩ = some (.string T) ∧ w'.cell? ⟨(ad.add (n * 4)).block, (ad.add (n * 4)).off + 3, none⟩ = some (.int .i64 P)) w') := .mk (fun w' h => ⟨⟨(h.cell (World.block_lt_of_cell? w _ e0)).trans e0, (h.cell (World.block_lt_of_cell? w _ e1)).trans e1⟩, (h.cell (World.block_lt_of_cell? w _ x1)).trans x1, (h.cell (World.block_lt_of_cell? w _ x3)).trans x3⟩)
  clear e0 e1
  go_enter Tryd.func133, Tryd.ntmps133
  go_wp2_with fail
  have HB : Aside0 (Below w.heap.size w (w.alloc (.cells #[.int .i64 40, .int .i64 0, .string ⟨#[]⟩] 62))) := .mk ((Below.refl _ _).alloc (Nat.le_refl _) _)
  have HQ := Aside0.mk (heap_alloc_new w (.cells #[.int .i64 40, .int .i64 0, .string ⟨#[]⟩] 62))
  generalize w.alloc (.cells #[.int .i64 40, .int .i64 0, .string ⟨#[]⟩] 62) = wa at *
  refine wp_region_held_drew (S := fun w' => (w'.cell? ⟨g, 0, none⟩ = some (.slice (some ad) (n + 1) c) ∧ w'.cell? ⟨g, 1, none⟩ = some (.int .i64 (i : Int))) ∧ w'.cell? ⟨(ad.add (n * 4)).block, (ad.add (n * 4)).off + 1, none⟩ = some (.string T) ∧ w'.cell? ⟨(ad.add (n * 4)).block, (ad.add (n * 4)).off + 3, none⟩ = some (.int .i64 P)) (by kernel_rfl) (OK.out _ HB.out.drew) (fun hHeld => ?_)
  replace HB := Aside0.mk HB.out.drew
  replace HQ := Aside0.mk (blk_below HQ.out ((Below.refl _ _).drew))
  generalize HW : World.drew _ = wd at *
  clear HW
  refine takeA 6 0 (v := ?_) ?_ hHeld ?_
  rotate_left
  · intro w hSw
    try dsimp only at hSw
    go_simp <;> with_reducible rfl
  try simp only [Act.put, List.setIfInBounds_toArray, List.set_cons_zero, List.set_cons_succ]
  refine takeA 7 1 (v := ?_) ?_ hHeld ?_
  rotate_left
  · intro w hSw
    try dsimp only at hSw
    go_simp <;> with_reducible rfl
  try simp only [Act.put, List.setIfInBounds_toArray, List.set_cons_zero, List.set_cons_succ]
  refine takeA 8 2 (v := ?_) ?_ hHeld ?_
  rotate_left
  · intro w hSw
    try dsimp only at hSw
    go_simp <;> with_reducible rfl
  try simp only [Act.put, List.setIfInBounds_toArray, List.set_cons_zero, List.set_cons_succ]
  refine takeA 9 3 (v := ?_) ?_ hHeld ?_
  rotate_left
  · intro w hSw
    try dsimp only at hSw
    go_simp <;> with_reducible rfl
  try simp only [Act.put, List.setIfInBounds_toArray, List.set_cons_zero, List.set_cons_succ]
  refine takeA 10 4 (v := ?_) ?_ hHeld ?_
  rotate_left
  · intro w hSw
    try dsimp only at hSw
    go_simp <;> with_reducible rfl
  try simp only [Act.put, List.setIfInBounds_toArray, List.set_cons_zero, List.set_cons_succ]
  refine takeA 11 5 (v := ?_) ?_ hHeld ?_
  rotate_left
  · intro w hSw
    try dsimp only at hSw
    go_simp <;> with_reducible rfl
  try simp only [Act.put, List.setIfInBounds_toArray, List.set_cons_zero, List.set_cons_succ]
  refine takeA 12 6 (v := ?_) ?_ hHeld ?_
  rotate_left
  · intro w hSw
    try dsimp only at hSw
    go_simp <;> with_reducible rfl
  try simp only [Act.put, List.setIfInBounds_toArray, List.set_cons_zero, List.set_cons_succ]
  refine takeA 13 7 (v := ?_) ?_ hHeld ?_
  rotate_left
  · intro w hSw
    try dsimp only at hSw
    go_simp <;> with_reducible rfl
  try simp only [Act.put, List.setIfInBounds_toArray, List.set_cons_zero, List.set_cons_succ]
  refine takeA 14 8 (v := ?_) ?_ hHeld ?_
  rotate_left
  · intro w hSw
    try dsimp only at hSw
    go_simp <;> with_reducible rfl
  try simp only [Act.put, List.setIfInBounds_toArray, List.set_cons_zero, List.set_cons_succ]
  refine takeH (d := some 15) (v := .bool false) 9 rfl rfl (by kernel_rfl) (by kernel_rfl) (by kernel_rfl) (fun _ _ _ h => h) (by rfl) (fun w hSw => by (try dsimp only at hSw); go_simp <;> first | done | omega | (simp; omega)) hHeld ?_
  try simp only [Act.put, List.setIfInBounds_toArray, List.set_cons_zero, List.set_cons_succ]
  refine wpAnyH_done (by kernel_rfl) ?_ _
  clear hHeld
  have e0 := (OK.out _ HB.out).1.1
  go_wp2_with fail
  clear e0
  refine wp_region_held_drew (S := fun w' => (w'.cell? ⟨g, 0, none⟩ = some (.slice (some ad) (n + 1) c) ∧ w'.cell? ⟨g, 1, none⟩ = some (.int .i64 (i : Int))) ∧ w'.cell? ⟨(ad.add (n * 4)).block, (ad.add (n * 4)).off + 1, none⟩ = some (.string T) ∧ w'.cell? ⟨(ad.add (n * 4)).block, (ad.add (n * 4)).off + 3, none⟩ = some (.int .i64 P)) (by kernel_rfl) (OK.out _ HB.out.drew) (fun hHeld => ?_)
  replace HB := Aside0.mk HB.out.drew
  replace HQ := Aside0.mk (blk_below HQ.out ((Below.refl _ _).drew))
  generalize HW : World.drew _ = wd at *
  clear HW
  have hW : IntKind.i64.wrap (n : Int) = (n : Int) := IntWalk.i64_in _ (by omega)
  have HW := Aside0.mk hW
  clear hW
  refine takeA 51 0 (v := ?_) ?_ hHeld ?_
  rotate_left
  · intro w hSw
    try dsimp only at hSw
    go_simp <;> with_reducible rfl
  try simp only [Act.put, List.setIfInBounds_toArray, List.set_cons_zero, List.set_cons_succ]
  refine takeA 52 1 (v := ?_) ?_ hHeld ?_
  rotate_left
  · intro w hSw
    try dsimp only at hSw
    go_simp <;> with_reducible rfl
  try simp only [Act.put, List.setIfInBounds_toArray, List.set_cons_zero, List.set_cons_succ]
  refine takeA 53 2 (v := ?_) ?_ hHeld ?_
  rotate_left
  · intro w hSw
    try dsimp only at hSw
    go_simp <;> with_reducible rfl
  try simp only [Act.put, List.setIfInBounds_toArray, List.set_cons_zero, List.set_cons_succ]
  refine takeA 54 3 (v := ?_) ?_ hHeld ?_
  rotate_left
  · intro w hSw
    try dsimp only at hSw
    go_simp <;> with_reducible rfl
  try simp only [Act.put, List.setIfInBounds_toArray, List.set_cons_zero, List.set_cons_succ]
  refine takeA 55 4 (v := ?_) ?_ hHeld ?_
  rotate_left
  · intro w hSw
    try dsimp only at hSw
    go_simp <;> with_reducible rfl
  try simp only [Act.put, List.setIfInBounds_toArray, List.set_cons_zero, List.set_cons_succ]
  refine takeA 56 5 (v := ?_) ?_ hHeld ?_
  rotate_left
  · intro w hSw
    try dsimp only at hSw
    go_simp <;> with_reducible rfl
  try simp only [Act.put, List.setIfInBounds_toArray, List.set_cons_zero, List.set_cons_succ]
  refine takeH (d := some 57) (v := .int .i64 (n : Int)) 6 rfl rfl (by kernel_rfl) (by kernel_rfl) (by kernel_rfl) (fun _ _ _ h => h) (by rfl) (fun w hSw => by (try dsimp only at hSw); go_simp; rw [HW.out]) hHeld ?_
  try simp only [Act.put, List.setIfInBounds_toArray, List.set_cons_zero, List.set_cons_succ]
  refine takeH (d := some 58) (v := .pointer (some (ad.add (n * 4)))) 7 rfl rfl (by kernel_rfl) (by kernel_rfl) (by kernel_rfl) (fun _ _ _ h => h) (by rfl) (fun w hSw => by (try dsimp only at hSw); go_simp <;> first | done | (rw [if_pos (by omega)]) | (intro hcc; omega)) hHeld ?_
  try simp only [Act.put, List.setIfInBounds_toArray, List.set_cons_zero, List.set_cons_succ]
  refine takeA 59 8 (v := ?_) ?_ hHeld ?_
  rotate_left
  · intro w hSw
    try dsimp only at hSw
    go_simp <;> with_reducible rfl
  try simp only [Act.put, List.setIfInBounds_toArray, List.set_cons_zero, List.set_cons_succ]
  refine takeA 60 9 (v := ?_) ?_ hHeld ?_
  rotate_left
  · intro w hSw
    try dsimp only at hSw
    go_simp <;> with_reducible rfl
  try simp only [Act.put, List.setIfInBounds_toArray, List.set_cons_zero, List.set_cons_succ]
  refine takeA 61 10 (v := ?_) ?_ hHeld ?_
  rotate_left
  · intro w hSw
    try dsimp only at hSw
    go_simp <;> with_reducible rfl
  try simp only [Act.put, List.setIfInBounds_toArray, List.set_cons_zero, List.set_cons_succ]
  refine takeA 62 11 (v := ?_) ?_ hHeld ?_
  rotate_left
  · intro w hSw
    try dsimp only at hSw
    go_simp <;> with_reducible rfl
  try simp only [Act.put, List.setIfInBounds_toArray, List.set_cons_zero, List.set_cons_succ]
  refine takeA 63 12 (v := ?_) ?_ hHeld ?_
  rotate_left
  · intro w hSw
    try dsimp only at hSw
    go_simp <;> with_reducible rfl
  try simp only [Act.put, List.setIfInBounds_toArray, List.set_cons_zero, List.set_cons_succ]
  refine takeA 64 13 (v := ?_) ?_ hHeld ?_
  rotate_left
  · intro w hSw
    try dsimp only at hSw
    go_simp <;> with_reducible rfl
  try simp only [Act.put, List.setIfInBounds_toArray, List.set_cons_zero, List.set_cons_succ]
  refine takeA 65 14 (v := ?_) ?_ hHeld ?_
  rotate_left
  · intro w hSw
    try dsimp only at hSw
    go_simp <;> with_reducible rfl
  try simp only [Act.put, List.setIfInBounds_toArray, List.set_cons_zero, List.set_cons_succ]
  refine takeH (d := some 66) (v := .int .i64 (n : Int)) 15 rfl rfl (by kernel_rfl) (by kernel_rfl) (by kernel_rfl) (fun _ _ _ h => h) (by rfl) (fun w hSw => by (try dsimp only at hSw); go_simp; rw [HW.out]) hHeld ?_
  try simp only [Act.put, List.setIfInBounds_toArray, List.set_cons_zero, List.set_cons_succ]
  refine takeH (d := some 67) (v := .pointer (some (ad.add (n * 4)))) 16 rfl rfl (by kernel_rfl) (by kernel_rfl) (by kernel_rfl) (fun _ _ _ h => h) (by rfl) (fun w hSw => by (try dsimp only at hSw); go_simp <;> first | done | (rw [if_pos (by omega)]) | (intro hcc; omega)) hHeld ?_
  try simp only [Act.put, List.setIfInBounds_toArray, List.set_cons_zero, List.set_cons_succ]
  refine takeA 68 17 (v := ?_) ?_ hHeld ?_
  rotate_left
  · intro w hSw
    try dsimp only at hSw
    go_simp <;> with_reducible rfl
  try simp only [Act.put, List.setIfInBounds_toArray, List.set_cons_zero, List.set_cons_succ]
  refine takeA 69 18 (v := ?_) ?_ hHeld ?_
  rotate_left
  · intro w hSw
    try dsimp only at hSw
    go_simp <;> with_reducible rfl
  try simp only [Act.put, List.setIfInBounds_toArray, List.set_cons_zero, List.set_cons_succ]
  refine takeA 70 19 (v := ?_) ?_ hHeld ?_
  rotate_left
  · intro w hSw
    try dsimp only at hSw
    go_simp <;> with_reducible rfl
  try simp only [Act.put, List.setIfInBounds_toArray, List.set_cons_zero, List.set_cons_succ]
  refine takeA 71 20 (v := ?_) ?_ hHeld ?_
  rotate_left
  · intro w hSw
    try dsimp only at hSw
    go_simp <;> with_reducible rfl
  try simp only [Act.put, List.setIfInBounds_toArray, List.set_cons_zero, List.set_cons_succ]
  refine takeA 72 21 (v := ?_) ?_ hHeld ?_
  rotate_left
  · intro w hSw
    try dsimp only at hSw
    go_simp <;> with_reducible rfl
  try simp only [Act.put, List.setIfInBounds_toArray, List.set_cons_zero, List.set_cons_succ]
  refine takeA 73 22 (v := ?_) ?_ hHeld ?_
  rotate_left
  · intro w hSw
    try dsimp only at hSw
    go_simp <;> with_reducible rfl
  try simp only [Act.put, List.setIfInBounds_toArray, List.set_cons_zero, List.set_cons_succ]
  refine wpAnyH_ready (rs := [23]) (by kernel_rfl) (by simp) ?_
  refine AllReadyH.cons rfl (fun K hK => ?_) AllReadyH.nil
  have c1 := (blk_cell HQ.out 1).trans rfl
  have z1 := blk_frozen HQ.out 1
  simp at c1
  go_simp
  clear c1 z1
  refine hK.out _ _ (OK.out _ (HB.out.setCell (p := ⟨w.heap.size, 1, none⟩) (Nat.le_refl _) _)) (fun hHeld => ?_)
  clear hK K
  try simp only [Act.put, List.setIfInBounds_toArray, List.set_cons_zero, List.set_cons_succ]
  refine wpAnyH_done (by kernel_rfl) ?_ _
  clear hHeld
  go_wp2_with fail
  exact ⟨rfl, w.heap.size, rfl, HB.out.setCell (p := ⟨w.heap.size, 1, none⟩) (Nat.le_refl _) _, blk_put HQ.out 1 _ rfl⟩
end Go.Proofs.YtjmpejbciniceaaDoor.X
namespace Go.Proofs.YtjmpejbciniceaaDoor.X
open Go.RowKit Go.Proofs.YtjmpejbciniceaaDoorW.PrintWords Go.Proofs.YtjmpejbciniceaaDoorW.PrintLast Go.Proofs.YtjmpejbciniceaaDoorW.PrintMore
set_option linter.unusedVariables false
def wrAt (xs : List S37) (i : Nat) : Int := match xs[i]? with
  | some x => x.f3
  | none => match xs.getLast? with
    | some x => wrap64 (x.f3 + x.f1.size)
    | none => 0
def wrWd (xs : List S37) (i : Nat) : ByteArray := match xs[i]? with
  | some x => x.f1
  | none => ⟨#[]⟩
theorem wrong_calls {w0 : World} {g : Nat} {A : Option Addr} {c : Nat} {xs : List S37} {i : Nat} {w : World} (h : Tr w0 g A c xs i w) (hn : xs.length ≤ 200000) : Calls Tryd.prog 133 #[.pointer (some ⟨g, 0, none⟩)] w (WrongPost (wrAt xs i) (wrWd xs i) w) := by
  have HR := Aside0.mk h
  by_cases h0 : xs.length = 0
  · have e : xs = [] := List.eq_nil_of_length_eq_zero h0
    have e1 : wrAt xs i = 0 := by rw [e]; rfl
    have e2 : wrWd xs i = ⟨#[]⟩ := by rw [e]; rfl
    rw [e1, e2]
    exact wrong_none HR h0
  · by_cases hlt : i < xs.length
    · have hx := List.getElem?_eq_getElem hlt
      obtain ⟨ad, rfl, _, x1, _, x3⟩ := word_at (Kd.C_below h.words h.below) i hlt _ hx
      have e1 : wrAt xs i = xs[i].f3 := by unfold wrAt; rw [hx]
      have e2 : wrWd xs i = xs[i].f1 := by unfold wrWd; rw [hx]
      rw [e1, e2]
      exact wrong_at HR (.mk rfl) hn hlt _ _ x1 x3
    · obtain ⟨n, hnn⟩ : ∃ n, xs.length = n + 1 := ⟨xs.length - 1, by omega⟩
      have hl : n < xs.length := by omega
      have hx := List.getElem?_eq_getElem hl
      obtain ⟨ad, rfl, _, x1, _, x3⟩ := word_at (Kd.C_below h.words h.below) n hl _ hx
      have hz : xs[i]? = none := List.getElem?_eq_none (by omega)
      have e1 : wrAt xs i = wrap64 (xs[n].f3 + xs[n].f1.size) := by unfold wrAt; rw [hz, List.getLast?_eq_getElem?, hnn, Nat.add_sub_cancel, hx]
      have e2 : wrWd xs i = ⟨#[]⟩ := by unfold wrWd; rw [hz]
      rw [e1, e2]
      exact wrong_past HR (.mk hnn) (by omega) (by omega) _ _ x1 x3
end Go.Proofs.YtjmpejbciniceaaDoor.X
namespace Go.Proofs.YtjmpejbciniceaaDoor.X
set_option linter.unusedVariables false
set_option linter.unusedSimpArgs false
abbrev Tk : Type := Int × List UInt8
def tkQ : Tk := (4, [63])
def tkI : Tk := (3, [105, 110, 116])
def tkB : Tk := (3, [98, 111, 111, 108])
def tkO : Tk := (4, [40])
def tkC : Tk := (4, [41])
def tkA : Tk := (4, [45, 62])
def tkM : Tk := (4, [42])
def tkP : Tk := (4, [43])
def headIs (t : Tk) : List Tk → Bool
  | x :: _ => decide (x = t)
  | [] => false
def opOf (L : Nat) : Tk := if L = 3 then tkM else tkP
def kindOf (L : Nat) : Int := if L = 3 then 4 else 5
mutual
def parF : Nat → Nat → List Tk → Option (S43 × List Tk)
  | 0, _, _ => none
  | f + 1, L, ts =>
    if L = 4 then
      match ts with
      | [] => none
      | t :: r =>
        if t = tkQ then some (⟨0, []⟩, r)
        else if t = tkI then some (⟨1, []⟩, r)
        else if t = tkB then some (⟨2, []⟩, r)
        else if t = tkO then
          match parF f 0 r with
          | some (a, u) => if headIs tkC u then some (a, u.tail) else none
          | none => none
        else none
    else if L = 3 then (match parF f 4 ts with | some (a, r) => lopF f 3 a r | none => none)
    else if L = 2 then (match parF f 3 ts with | some (a, r) => lopF f 2 a r | none => none)
    else
      match parF f 2 ts with
      | some (a, r) => if headIs tkA r then (match parF f 0 r.tail with | some (b, u) => some (⟨3, [a, b]⟩, u) | none => none) else some (a, r)
      | none => none
def lopF : Nat → Nat → S43 → List Tk → Option (S43 × List Tk)
  | 0, _, _, _ => none
  | f + 1, L, a, ts => if headIs (opOf L) ts then (match parF f (L + 1) ts.tail with | some (b, r) => lopF f L ⟨kindOf L, [a, b]⟩ r | none => none) else some (a, ts)
end
end Go.Proofs.YtjmpejbciniceaaDoor.X
namespace Go.Proofs.YtjmpejbciniceaaDoor.X
set_option linter.unusedVariables false
mutual
def parE : Nat → Nat → List Tk → Except (List Tk) (S43 × List Tk)
  | 0, _, ts => .error ts
  | f + 1, L, ts =>
    if L = 4 then
      if headIs tkQ ts then .ok (⟨0, []⟩, ts.tail)
      else if headIs tkI ts then .ok (⟨1, []⟩, ts.tail)
      else if headIs tkB ts then .ok (⟨2, []⟩, ts.tail)
      else if headIs tkO ts then
        match parE f 0 ts.tail with
        | .ok x => if headIs tkC x.2 then .ok (x.1, x.2.tail) else .error x.2
        | .error u => .error u
      else .error ts
    else if L = 3 then (match parE f 4 ts with | .ok x => lopE f 3 x.1 x.2 | .error u => .error u)
    else if L = 2 then (match parE f 3 ts with | .ok x => lopE f 2 x.1 x.2 | .error u => .error u)
    else
      match parE f 2 ts with
      | .ok x => if headIs tkA x.2 then (match parE f 0 x.2.tail with | .ok y => .ok (⟨3, [x.1, y.1]⟩, y.2) | .error u => .error u) else .ok x
      | .error u => .error u
def lopE : Nat → Nat → S43 → List Tk → Except (List Tk) (S43 × List Tk)
  | 0, _, _, ts => .error ts
  | f + 1, L, a, ts => if headIs (opOf L) ts then (match parE f (L + 1) ts.tail with | .ok x => lopE f L ⟨kindOf L, [a, x.1]⟩ x.2 | .error u => .error u) else .ok (a, ts)
end
def closeE : Except (List Tk) (S43 × List Tk) → Except (List Tk) (S43 × List Tk)
  | .ok x => if headIs tkC x.2 then .ok (x.1, x.2.tail) else .error x.2
  | .error u => .error u
theorem parE_four (f : Nat) (ts : List Tk) : parE (f + 1) 4 ts =
    if headIs tkQ ts then .ok (⟨0, []⟩, ts.tail)
    else if headIs tkI ts then .ok (⟨1, []⟩, ts.tail)
    else if headIs tkB ts then .ok (⟨2, []⟩, ts.tail)
    else if headIs tkO ts then closeE (parE f 0 ts.tail)
    else .error ts := by
  conv => lhs; unfold parE
  rw [if_pos rfl]
  rfl
theorem parE_three (f : Nat) (ts : List Tk) : parE (f + 1) 3 ts = (match parE f 4 ts with | .ok x => lopE f 3 x.1 x.2 | .error u => .error u) := by
  conv => lhs; unfold parE
  rw [if_neg (by decide), if_pos rfl]
theorem parE_two (f : Nat) (ts : List Tk) : parE (f + 1) 2 ts = (match parE f 3 ts with | .ok x => lopE f 2 x.1 x.2 | .error u => .error u) := by
  conv => lhs; unfold parE
  rw [if_neg (by decide), if_neg (by decide), if_pos rfl]
theorem parE_zero (f : Nat) (ts : List Tk) : parE (f + 1) 0 ts = (match parE f 2 ts with
      | .ok x => if headIs tkA x.2 then (match parE f 0 x.2.tail with | .ok y => .ok (⟨3, [x.1, y.1]⟩, y.2) | .error u => .error u) else .ok x
      | .error u => .error u) := by
  conv => lhs; unfold parE
  rw [if_neg (by decide), if_neg (by decide), if_neg (by decide)]
theorem lopE_succ (f L : Nat) (a : S43) (ts : List Tk) : lopE (f + 1) L a ts = if headIs (opOf L) ts then (match parE f (L + 1) ts.tail with | .ok x => lopE f L ⟨kindOf L, [a, x.1]⟩ x.2 | .error u => .error u) else .ok (a, ts) := by
  conv => lhs; unfold lopE
end Go.Proofs.YtjmpejbciniceaaDoor.X
namespace Go.Proofs.YtjmpejbciniceaaDoor.X
open Go.RowKit Go.Proofs.YtjmpejbciniceaaDoorW.PrintWords Go.Proofs.YtjmpejbciniceaaDoorW.PrintLast Go.Proofs.YtjmpejbciniceaaDoorW.PrintMore
set_option linter.unusedVariables false
def tkS (x : S37) : Tk := (x.f0, x.f1.toList)
def toks (xs : List S37) (i : Nat) : List Tk := (xs.drop i).map tkS
theorem nextIs_iff (xs : List S37) (i : Nat) (k : Int) (s : List UInt8) : nextIs xs i k s ↔ headIs (k, s) (toks xs i) = true := by
  unfold nextIs toks
  by_cases h : i < xs.length
  · rw [List.drop_eq_getElem_cons h, List.getElem?_eq_getElem h, List.map_cons, headIs, decide_eq_true_eq, tkS]
    constructor
    · rintro ⟨x, h1, h2, h3⟩
      injection h1 with h1
      rw [h1, h2, h3]
    · intro h1
      injection h1 with h1 h2
      exact ⟨_, rfl, h1, h2⟩
  · rw [List.drop_eq_nil_of_le (by omega), List.getElem?_eq_none (by omega)]
    simp [headIs]
theorem toks_tail (xs : List S37) (i : Nat) : (toks xs i).tail = toks xs (i + 1) := by
  unfold toks
  rw [← List.map_tail, List.tail_drop]
theorem nextIs_lt {xs : List S37} {i : Nat} {k : Int} {s : List UInt8} (h : nextIs xs i k s) : i < xs.length := by
  obtain ⟨x, h1, _⟩ := h
  exact (List.getElem?_eq_some_iff.1 h1).1
def ReadPost (w0 : World) (g : Nat) (A : Option Addr) (c : Nat) (xs : List S37) (i0 : Nat) (w : World) (r : Except (List Tk) (S43 × List Tk)) (en : Ending) (w' : World) : Prop :=
  KeepBut w w' g none ∧ match r with
  | .ok x => ∃ v i, en = .returned (.agg #[.int .i8 x.1.f0, v]) ∧ k43.R 43 w' w.heap.size (fun _ => True) v x.1.f1 ∧ Tr w0 g A c xs i w' ∧ i0 ≤ i ∧ i ≤ xs.length ∧ x.2 = toks xs i
  | .error u => ∃ q j, en = .panicked [{ v := .iface 60 (.pointer (some ⟨q, 0, none⟩)), recovered := false }] ∧ u = toks xs j ∧ j ≤ xs.length ∧ w'.heap[q]? = some (.cells #[.int .i64 40, .int .i64 (wrAt xs j), .string (wrWd xs j)] 62 (0, 0)) ∧ Below w0.heap.size w0 w'
theorem R_two {w : World} {base : Nat} {ok : Nat → Prop} {g : Nat} {a b : S43} {va vb : Value} (hb : w.heap[g]? = some (.cells #[.int .i8 a.f0, va, .int .i8 b.f0, vb] 43 (0, 0))) (hg : base ≤ g) (hok : ok g)
    (ha : k43.R 43 w base (fun k => ok k ∧ k ≠ g) va a.f1) (hbb : k43.R 43 w base (fun k => ok k ∧ k ≠ g) vb b.f1) : k43.R 43 w base ok (.slice (some ⟨g, 0, none⟩) 2 2) [a, b] := by
  refine ⟨fun k hk => ?_, [.int .i8 a.f0, va, .int .i8 b.f0, vb], ⟨rfl, .inr ⟨g, 2, _, rfl, hg, hb, Nat.le_refl _, by decide, rfl, rfl⟩⟩, rfl, fun j p hj => ?_⟩
  · have : g = k := by simpa [Value.ownBlock] using hk
    exact this ▸ hok
  · have hw : ∀ k, (ok k ∧ k ≠ g) → ok k ∧ some k ≠ (Value.slice (some ⟨g, 0, none⟩) 2 2).ownBlock := fun k hk => ⟨hk.1, fun e => by simp [Value.ownBlock] at e; exact hk.2 e⟩
    match j, hj with
    | 0, hj =>
      obtain rfl : a = p := by simpa using hj
      exact k43_mkM w base _ a (Kd.R_mono ha hw)
    | 1, hj =>
      obtain rfl : b = p := by simpa using hj
      exact k43_mkM w base _ b (Kd.R_mono hbb hw)
theorem R_pair {w : World} {base : Nat} {ok : Nat → Prop} {a b : S43} {va vb : Value} (hbase : base ≤ w.heap.size) (hok : ok w.heap.size) (ha : k43.R 43 w base ok va a.f1) (hb : k43.R 43 w base ok vb b.f1) :
    k43.R 43 (w.alloc (.cells #[.int .i8 a.f0, va, .int .i8 b.f0, vb] 43)) base ok (.slice (some ⟨w.heap.size, 0, none⟩) 2 2) [a, b] := by
  have hB := below1 w #[.int .i8 a.f0, va, .int .i8 b.f0, vb] 43
  refine R_two (heap_alloc_new w _) hbase hok ?_ ?_
  · exact Kd.R_below (Kd.R_mono (Kd.R_bound ha) fun k hk => ⟨hk.1, by omega⟩) hB
  · exact Kd.R_below (Kd.R_mono (Kd.R_bound hb) fun k hk => ⟨hk.1, by omega⟩) hB
theorem R_apart {v0 w : World} {base : Nat} {g p : Nat} {v : Value} {l : List S43} (h : k43.R 43 w v0.heap.size (fun _ => True) v l) (hb : base ≤ v0.heap.size) (hg : g < v0.heap.size) (hp : p < v0.heap.size) : k43.R 43 w base (fun k => k ≠ g ∧ k ≠ p) v l :=
  Kd.R_lower (Kd.R_mono (Kd.R_bound h) fun k hk => ⟨by omega, by omega⟩) hb
end Go.Proofs.YtjmpejbciniceaaDoor.X
