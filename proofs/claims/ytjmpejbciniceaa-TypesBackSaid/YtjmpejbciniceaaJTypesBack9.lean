/- Texts of this claim, joined: HWrong, HWrong2, PureParseE, HRead0. -/
import Derived.Test.YtjmpejbciniceaaJTypesBack0
import Derived.Test.YtjmpejbciniceaaJTypesBack1
import Derived.Test.YtjmpejbciniceaaJTypesBack2
import Derived.Test.YtjmpejbciniceaaJTypesBack3
import Derived.Test.YtjmpejbciniceaaJTypesBack4
import Derived.Test.YtjmpejbciniceaaJTypesBack5
import Derived.Test.YtjmpejbciniceaaJTypesBack6
import Derived.Test.YtjmpejbciniceaaJTypesBack7
import Derived.Test.YtjmpejbciniceaaJTypesBack8
/- take, all cases; wrong. -/
namespace Go.Proofs.Ytjmpejbciniceaa.X
open Go.RowKit Go.Proofs.YtjmpejbciniceaaW.PrintWords Go.Proofs.YtjmpejbciniceaaW.PrintLast Go.Proofs.YtjmpejbciniceaaW.PrintMore
set_option linter.unusedVariables false
set_option linter.unusedSimpArgs false

/-- The cells of the j-th word. -/
theorem word_at {w : World} {A : Option Addr} {n : Nat} {xs : List S29} (h : Kd.C k29 w A n xs) (j : Nat) (hj : j < n) (x : S29) (hx : xs[j]? = some x) : ∃ ad, A = some ad ∧ w.cell? (ad.add (j * 4)) = some (.int .i8 x.f0) ∧ w.cell? ⟨(ad.add (j * 4)).block, (ad.add (j * 4)).off + 1, none⟩ = some (.string x.f1) ∧ w.cell? ⟨(ad.add (j * 4)).block, (ad.add (j * 4)).off + 2, none⟩ = some (.int .i64 x.f2) ∧ w.cell? ⟨(ad.add (j * 4)).block, (ad.add (j * 4)).off + 3, none⟩ = some (.int .i64 x.f3) := by
  obtain ⟨ad, e, h0, h1, h2, h3⟩ := at_T29 h (j : Int) (by omega) (by omega)
  have er : rd_T29 xs (j : Int) = x := by
    unfold rd_T29
    rw [List.getD_eq_getElem?_getD, show ((j : Int)).toNat = j from rfl, hx]
    rfl
  rw [er] at h0 h1 h2 h3
  exact ⟨ad, e, h0, h1, h2, h3⟩
theorem take_calls {w0 : World} {g : Nat} {A : Option Addr} {c : Nat} {xs : List S29} {i : Nat} {w : World} (h : Tr w0 g A c xs i w) (hn : xs.length ≤ 200000) (hi : i ≤ xs.length) (k : Int) (s : ByteArray) :
    Calls Try.prog 48 #[.pointer (some ⟨g, 0, none⟩), .int .i8 k, .string s] w (TakePost w0 g A c xs i k s.toList w) := by
  have HR := Aside0.mk h
  by_cases hlt : i < xs.length
  · have hg : xs[i]? = some (xs[i]'hlt) := List.getElem?_eq_getElem hlt
    obtain ⟨ad, rfl, x0, x1, _, _⟩ := word_at (Kd.C_below h.words h.below) i hlt _ hg
    by_cases hk : (xs[i]'hlt).f0 = k
    · by_cases ht : (xs[i]'hlt).f1.toList = s.toList
      · exact (take_yes HR (.mk rfl) hn hi k s hlt _ _ x0 x1 hk (.mk ht)).mono fun e w' h => .inl ⟨⟨_, hg, hk, ht⟩, h⟩
      · exact (take_text HR (.mk rfl) hn hi k s hlt _ _ x0 x1 hk (.mk ht)).mono fun e w' h => .inr ⟨fun ⟨x, h1, _, h3⟩ => by rw [hg] at h1; injection h1 with h1; subst h1; exact ht h3, h⟩
    · exact (take_kind HR (.mk rfl) hn hi k s hlt _ _ x0 x1 (.mk hk)).mono fun e w' h => .inr ⟨fun ⟨x, h1, h2, _⟩ => by rw [hg] at h1; injection h1 with h1; subst h1; exact hk h2, h⟩
  · exact (take_end HR (.mk rfl) hn hi k s (by omega)).mono fun e w' h => .inr ⟨fun ⟨x, h1, _, _⟩ => by rw [List.getElem?_eq_none (by omega)] at h1; simp at h1, h⟩
/-- A call gives up with a fault of that place and word. -/
def WrongPost (P : Int) (T : ByteArray) (w : World) (en : Ending) (w' : World) : Prop := ∃ q, en = .panicked [{ v := .iface 49 (.pointer (some ⟨q, 0, none⟩)), recovered := false }] ∧ Below w.heap.size w w' ∧ w'.heap[q]? = some (.cells #[.int .i64 40, .int .i64 P, .string T] 51 (0, 0))
set_option maxRecDepth 100000 in
set_option maxHeartbeats 3200000 in
theorem wrong_none {w0 : World} {g : Nat} {A : Option Addr} {c : Nat} {xs : List S29} {i : Nat} {w : World} (HR : Aside0 (Tr w0 g A c xs i w)) (hn : xs.length = 0) :
    Calls Try.prog 68 #[.pointer (some ⟨g, 0, none⟩)] w (WrongPost 0 ⟨#[]⟩ w) := by
  have e0 := (blk_cell HR.out.blk 0).trans rfl
  have e1 := (blk_cell HR.out.blk 1).trans rfl
  simp at e0 e1
  rw [hn] at e0
  clear hn
  have OK : Aside0 (∀ w', Below w.heap.size w w' → (fun w' => w'.cell? ⟨g, 0, none⟩ = some (.slice A 0 c) ∧ w'.cell? ⟨g, 1, none⟩ = some (.int .i64 (i : Int))) w') := .mk (fun w' h => ⟨(h.cell (World.block_lt_of_cell? w _ e0)).trans e0, (h.cell (World.block_lt_of_cell? w _ e1)).trans e1⟩)
  clear e0 e1
  go_enter Try.func68, Try.ntmps68
  go_wp2_with fail
  have HB : Aside0 (Below w.heap.size w (w.alloc (.cells #[.int .i64 40, .int .i64 0, .string ⟨#[]⟩] 51))) := .mk ((Below.refl _ _).alloc (Nat.le_refl _) _)
  have HQ := Aside0.mk (heap_alloc_new w (.cells #[.int .i64 40, .int .i64 0, .string ⟨#[]⟩] 51))
  generalize w.alloc (.cells #[.int .i64 40, .int .i64 0, .string ⟨#[]⟩] 51) = wa at *
  refine wp_region_held_drew (S := fun w' => w'.cell? ⟨g, 0, none⟩ = some (.slice A 0 c) ∧ w'.cell? ⟨g, 1, none⟩ = some (.int .i64 (i : Int))) (by kernel_rfl) (OK.out _ HB.out.drew) (fun hHeld => ?_)
  replace HB := Aside0.mk HB.out.drew
  replace HQ := Aside0.mk (blk_below HQ.out ((Below.refl _ _).drew))
  generalize HW : World.drew _ = wd at *
  clear HW
  refine takeA 6 0 (v := ?_) ?_ hHeld ?_
  rotate_left
  · intro w hSw
    try dsimp only at hSw
    go_simp <;> with_reducible rfl
  try simp only [Act.put, List.setIfInBounds_toArray, List.set_cons_zero, List.set_cons_succ]
  refine takeA 7 1 (v := ?_) ?_ hHeld ?_
  rotate_left
  · intro w hSw
    try dsimp only at hSw
    go_simp <;> with_reducible rfl
  try simp only [Act.put, List.setIfInBounds_toArray, List.set_cons_zero, List.set_cons_succ]
  refine takeA 8 2 (v := ?_) ?_ hHeld ?_
  rotate_left
  · intro w hSw
    try dsimp only at hSw
    go_simp <;> with_reducible rfl
  try simp only [Act.put, List.setIfInBounds_toArray, List.set_cons_zero, List.set_cons_succ]
  refine takeA 9 3 (v := ?_) ?_ hHeld ?_
  rotate_left
  · intro w hSw
    try dsimp only at hSw
    go_simp <;> with_reducible rfl
  try simp only [Act.put, List.setIfInBounds_toArray, List.set_cons_zero, List.set_cons_succ]
  refine takeA 10 4 (v := ?_) ?_ hHeld ?_
  rotate_left
  · intro w hSw
    try dsimp only at hSw
    go_simp <;> with_reducible rfl
  try simp only [Act.put, List.setIfInBounds_toArray, List.set_cons_zero, List.set_cons_succ]
  refine takeA 11 5 (v := ?_) ?_ hHeld ?_
  rotate_left
  · intro w hSw
    try dsimp only at hSw
    go_simp <;> with_reducible rfl
  try simp only [Act.put, List.setIfInBounds_toArray, List.set_cons_zero, List.set_cons_succ]
  refine takeA 12 6 (v := ?_) ?_ hHeld ?_
  rotate_left
  · intro w hSw
    try dsimp only at hSw
    go_simp <;> with_reducible rfl
  try simp only [Act.put, List.setIfInBounds_toArray, List.set_cons_zero, List.set_cons_succ]
  refine takeA 13 7 (v := ?_) ?_ hHeld ?_
  rotate_left
  · intro w hSw
    try dsimp only at hSw
    go_simp <;> with_reducible rfl
  try simp only [Act.put, List.setIfInBounds_toArray, List.set_cons_zero, List.set_cons_succ]
  refine takeA 14 8 (v := ?_) ?_ hHeld ?_
  rotate_left
  · intro w hSw
    try dsimp only at hSw
    go_simp <;> with_reducible rfl
  try simp only [Act.put, List.setIfInBounds_toArray, List.set_cons_zero, List.set_cons_succ]
  refine takeH (d := some 15) (v := .bool false) 9 rfl rfl (by kernel_rfl) (by kernel_rfl) (by kernel_rfl) (fun _ _ _ h => h) (by rfl) (fun w hSw => by (try dsimp only at hSw); go_simp <;> first | done | omega | (simp; omega)) hHeld ?_
  try simp only [Act.put, List.setIfInBounds_toArray, List.set_cons_zero, List.set_cons_succ]
  refine wpAnyH_done (by kernel_rfl) ?_ _
  clear hHeld
  have e0 := (OK.out _ HB.out).1
  go_wp2_with fail
  exact ⟨rfl, w.heap.size, rfl, HB.out, HQ.out⟩
set_option maxRecDepth 100000 in
set_option maxHeartbeats 3200000 in
theorem wrong_at {w0 : World} {g : Nat} {ad : Addr} {c : Nat} {xs : List S29} {i : Nat} {w : World} (HR : Aside0 (Tr w0 g (some ad) c xs i w)) {n : Nat} (HL : Aside0 (xs.length = n)) (hn : n ≤ 200000) (hlt : i < n) (T : ByteArray) (P : Int) (x1 : w.cell? ⟨(ad.add (i * 4)).block, (ad.add (i * 4)).off + 1, none⟩ = some (.string T)) (x3 : w.cell? ⟨(ad.add (i * 4)).block, (ad.add (i * 4)).off + 3, none⟩ = some (.int .i64 P)) :
    Calls Try.prog 68 #[.pointer (some ⟨g, 0, none⟩)] w (WrongPost P T w) := by
  have e0 := (blk_cell HR.out.blk 0).trans rfl
  have e1 := (blk_cell HR.out.blk 1).trans rfl
  simp at e0 e1
  rw [HL.out] at e0
  have OK : Aside0 (∀ w', Below w.heap.size w w' → (fun w' => (w'.cell? ⟨g, 0, none⟩ = some (.slice (some ad) n c) ∧ w'.cell? ⟨g, 1, none⟩ = some (.int .i64 (i : Int))) ∧ w'.cell? ⟨(ad.add (i * 4)).block, (ad.add (i * 4)).off + 1, none⟩ = some (.string T) ∧ w'.cell? ⟨(ad.add (i * 4)).block, (ad.add (i * 4)).off + 3, none⟩ = some (.int .i64 P)) w') := .mk (fun w' h => ⟨⟨(h.cell (World.block_lt_of_cell? w _ e0)).trans e0, (h.cell (World.block_lt_of_cell? w _ e1)).trans e1⟩, (h.cell (World.block_lt_of_cell? w _ x1)).trans x1, (h.cell (World.block_lt_of_cell? w _ x3)).trans x3⟩)
  clear e0 e1
  go_enter Try.func68, Try.ntmps68
  go_wp2_with fail
  have HB : Aside0 (Below w.heap.size w (w.alloc (.cells #[.int .i64 40, .int .i64 0, .string ⟨#[]⟩] 51))) := .mk ((Below.refl _ _).alloc (Nat.le_refl _) _)
  have HQ := Aside0.mk (heap_alloc_new w (.cells #[.int .i64 40, .int .i64 0, .string ⟨#[]⟩] 51))
  generalize w.alloc (.cells #[.int .i64 40, .int .i64 0, .string ⟨#[]⟩] 51) = wa at *
  refine wp_region_held_drew (S := fun w' => (w'.cell? ⟨g, 0, none⟩ = some (.slice (some ad) n c) ∧ w'.cell? ⟨g, 1, none⟩ = some (.int .i64 (i : Int))) ∧ w'.cell? ⟨(ad.add (i * 4)).block, (ad.add (i * 4)).off + 1, none⟩ = some (.string T) ∧ w'.cell? ⟨(ad.add (i * 4)).block, (ad.add (i * 4)).off + 3, none⟩ = some (.int .i64 P)) (by kernel_rfl) (OK.out _ HB.out.drew) (fun hHeld => ?_)
  replace HB := Aside0.mk HB.out.drew
  replace HQ := Aside0.mk (blk_below HQ.out ((Below.refl _ _).drew))
  generalize HW : World.drew _ = wd at *
  clear HW
  refine takeA 6 0 (v := ?_) ?_ hHeld ?_
  rotate_left
  · intro w hSw
    try dsimp only at hSw
    go_simp <;> with_reducible rfl
  try simp only [Act.put, List.setIfInBounds_toArray, List.set_cons_zero, List.set_cons_succ]
  refine takeA 7 1 (v := ?_) ?_ hHeld ?_
  rotate_left
  · intro w hSw
    try dsimp only at hSw
    go_simp <;> with_reducible rfl
  try simp only [Act.put, List.setIfInBounds_toArray, List.set_cons_zero, List.set_cons_succ]
  refine takeA 8 2 (v := ?_) ?_ hHeld ?_
  rotate_left
  · intro w hSw
    try dsimp only at hSw
    go_simp <;> with_reducible rfl
  try simp only [Act.put, List.setIfInBounds_toArray, List.set_cons_zero, List.set_cons_succ]
  refine takeA 9 3 (v := ?_) ?_ hHeld ?_
  rotate_left
  · intro w hSw
    try dsimp only at hSw
    go_simp <;> with_reducible rfl
  try simp only [Act.put, List.setIfInBounds_toArray, List.set_cons_zero, List.set_cons_succ]
  refine takeA 10 4 (v := ?_) ?_ hHeld ?_
  rotate_left
  · intro w hSw
    try dsimp only at hSw
    go_simp <;> with_reducible rfl
  try simp only [Act.put, List.setIfInBounds_toArray, List.set_cons_zero, List.set_cons_succ]
  refine takeA 11 5 (v := ?_) ?_ hHeld ?_
  rotate_left
  · intro w hSw
    try dsimp only at hSw
    go_simp <;> with_reducible rfl
  try simp only [Act.put, List.setIfInBounds_toArray, List.set_cons_zero, List.set_cons_succ]
  refine takeA 12 6 (v := ?_) ?_ hHeld ?_
  rotate_left
  · intro w hSw
    try dsimp only at hSw
    go_simp <;> with_reducible rfl
  try simp only [Act.put, List.setIfInBounds_toArray, List.set_cons_zero, List.set_cons_succ]
  refine takeA 13 7 (v := ?_) ?_ hHeld ?_
  rotate_left
  · intro w hSw
    try dsimp only at hSw
    go_simp <;> with_reducible rfl
  try simp only [Act.put, List.setIfInBounds_toArray, List.set_cons_zero, List.set_cons_succ]
  refine takeA 14 8 (v := ?_) ?_ hHeld ?_
  rotate_left
  · intro w hSw
    try dsimp only at hSw
    go_simp <;> with_reducible rfl
  try simp only [Act.put, List.setIfInBounds_toArray, List.set_cons_zero, List.set_cons_succ]
  refine takeH (d := some 15) (v := .bool true) 9 rfl rfl (by kernel_rfl) (by kernel_rfl) (by kernel_rfl) (fun _ _ _ h => h) (by rfl) (fun w hSw => by (try dsimp only at hSw); go_simp <;> first | done | omega | (simp; omega)) hHeld ?_
  try simp only [Act.put, List.setIfInBounds_toArray, List.set_cons_zero, List.set_cons_succ]
  refine wpAnyH_done (by kernel_rfl) ?_ _
  clear hHeld
  go_wp2_with fail
  refine wp_region_held_drew (S := fun w' => (w'.cell? ⟨g, 0, none⟩ = some (.slice (some ad) n c) ∧ w'.cell? ⟨g, 1, none⟩ = some (.int .i64 (i : Int))) ∧ w'.cell? ⟨(ad.add (i * 4)).block, (ad.add (i * 4)).off + 1, none⟩ = some (.string T) ∧ w'.cell? ⟨(ad.add (i * 4)).block, (ad.add (i * 4)).off + 3, none⟩ = some (.int .i64 P)) (by kernel_rfl) (OK.out _ HB.out.drew) (fun hHeld => ?_)
  replace HB := Aside0.mk HB.out.drew
  replace HQ := Aside0.mk (blk_below HQ.out ((Below.refl _ _).drew))
  generalize HW : World.drew _ = wd at *
  clear HW
  refine takeA 16 0 (v := ?_) ?_ hHeld ?_
  rotate_left
  · intro w hSw
    try dsimp only at hSw
    go_simp <;> with_reducible rfl
  try simp only [Act.put, List.setIfInBounds_toArray, List.set_cons_zero, List.set_cons_succ]
  refine takeA 17 1 (v := ?_) ?_ hHeld ?_
  rotate_left
  · intro w hSw
    try dsimp only at hSw
    go_simp <;> with_reducible rfl
  try simp only [Act.put, List.setIfInBounds_toArray, List.set_cons_zero, List.set_cons_succ]
  refine takeA 18 2 (v := ?_) ?_ hHeld ?_
  rotate_left
  · intro w hSw
    try dsimp only at hSw
    go_simp <;> with_reducible rfl
  try simp only [Act.put, List.setIfInBounds_toArray, List.set_cons_zero, List.set_cons_succ]
  refine takeA 19 3 (v := ?_) ?_ hHeld ?_
  rotate_left
  · intro w hSw
    try dsimp only at hSw
    go_simp <;> with_reducible rfl
  try simp only [Act.put, List.setIfInBounds_toArray, List.set_cons_zero, List.set_cons_succ]
  refine takeA 20 4 (v := ?_) ?_ hHeld ?_
  rotate_left
  · intro w hSw
    try dsimp only at hSw
    go_simp <;> with_reducible rfl
  try simp only [Act.put, List.setIfInBounds_toArray, List.set_cons_zero, List.set_cons_succ]
  refine takeA 21 5 (v := ?_) ?_ hHeld ?_
  rotate_left
  · intro w hSw
    try dsimp only at hSw
    go_simp <;> with_reducible rfl
  try simp only [Act.put, List.setIfInBounds_toArray, List.set_cons_zero, List.set_cons_succ]
  refine takeA 22 6 (v := ?_) ?_ hHeld ?_
  rotate_left
  · intro w hSw
    try dsimp only at hSw
    go_simp <;> with_reducible rfl
  try simp only [Act.put, List.setIfInBounds_toArray, List.set_cons_zero, List.set_cons_succ]
  refine takeA 23 7 (v := ?_) ?_ hHeld ?_
  rotate_left
  · intro w hSw
    try dsimp only at hSw
    go_simp <;> with_reducible rfl
  try simp only [Act.put, List.setIfInBounds_toArray, List.set_cons_zero, List.set_cons_succ]
  refine takeA 24 8 (v := ?_) ?_ hHeld ?_
  rotate_left
  · intro w hSw
    try dsimp only at hSw
    go_simp <;> with_reducible rfl
  try simp only [Act.put, List.setIfInBounds_toArray, List.set_cons_zero, List.set_cons_succ]
  refine takeA 25 9 (v := ?_) ?_ hHeld ?_
  rotate_left
  · intro w hSw
    try dsimp only at hSw
    go_simp <;> with_reducible rfl
  try simp only [Act.put, List.setIfInBounds_toArray, List.set_cons_zero, List.set_cons_succ]
  refine takeH (d := some 26) (v := .pointer (some (ad.add (i * 4)))) 10 rfl rfl (by kernel_rfl) (by kernel_rfl) (by kernel_rfl) (fun _ _ _ h => h) (by rfl) (fun w hSw => by (try dsimp only at hSw); go_simp <;> first | done | (rw [if_pos (by omega)]) | (intro hcc; omega)) hHeld ?_
  try simp only [Act.put, List.setIfInBounds_toArray, List.set_cons_zero, List.set_cons_succ]
  refine takeA 27 11 (v := ?_) ?_ hHeld ?_
  rotate_left
  · intro w hSw
    try dsimp only at hSw
    go_simp <;> with_reducible rfl
  try simp only [Act.put, List.setIfInBounds_toArray, List.set_cons_zero, List.set_cons_succ]
  refine takeA 28 12 (v := ?_) ?_ hHeld ?_
  rotate_left
  · intro w hSw
    try dsimp only at hSw
    go_simp <;> with_reducible rfl
  try simp only [Act.put, List.setIfInBounds_toArray, List.set_cons_zero, List.set_cons_succ]
  refine takeA 29 13 (v := ?_) ?_ hHeld ?_
  rotate_left
  · intro w hSw
    try dsimp only at hSw
    go_simp <;> with_reducible rfl
  try simp only [Act.put, List.setIfInBounds_toArray, List.set_cons_zero, List.set_cons_succ]
  refine takeA 30 14 (v := ?_) ?_ hHeld ?_
  rotate_left
  · intro w hSw
    try dsimp only at hSw
    go_simp <;> with_reducible rfl
  try simp only [Act.put, List.setIfInBounds_toArray, List.set_cons_zero, List.set_cons_succ]
  refine takeA 31 15 (v := ?_) ?_ hHeld ?_
  rotate_left
  · intro w hSw
    try dsimp only at hSw
    go_simp <;> with_reducible rfl
  try simp only [Act.put, List.setIfInBounds_toArray, List.set_cons_zero, List.set_cons_succ]
  refine takeA 32 16 (v := ?_) ?_ hHeld ?_
  rotate_left
  · intro w hSw
    try dsimp only at hSw
    go_simp <;> with_reducible rfl
  try simp only [Act.put, List.setIfInBounds_toArray, List.set_cons_zero, List.set_cons_succ]
  refine takeA 33 17 (v := ?_) ?_ hHeld ?_
  rotate_left
  · intro w hSw
    try dsimp only at hSw
    go_simp <;> with_reducible rfl
  try simp only [Act.put, List.setIfInBounds_toArray, List.set_cons_zero, List.set_cons_succ]
  refine takeA 34 18 (v := ?_) ?_ hHeld ?_
  rotate_left
  · intro w hSw
    try dsimp only at hSw
    go_simp <;> with_reducible rfl
  try simp only [Act.put, List.setIfInBounds_toArray, List.set_cons_zero, List.set_cons_succ]
  refine takeA 35 19 (v := ?_) ?_ hHeld ?_
  rotate_left
  · intro w hSw
    try dsimp only at hSw
    go_simp <;> with_reducible rfl
  try simp only [Act.put, List.setIfInBounds_toArray, List.set_cons_zero, List.set_cons_succ]
  refine takeA 36 20 (v := ?_) ?_ hHeld ?_
  rotate_left
  · intro w hSw
    try dsimp only at hSw
    go_simp <;> with_reducible rfl
  try simp only [Act.put, List.setIfInBounds_toArray, List.set_cons_zero, List.set_cons_succ]
  refine takeH (d := some 37) (v := .pointer (some (ad.add (i * 4)))) 21 rfl rfl (by kernel_rfl) (by kernel_rfl) (by kernel_rfl) (fun _ _ _ h => h) (by rfl) (fun w hSw => by (try dsimp only at hSw); go_simp <;> first | done | (rw [if_pos (by omega)]) | (intro hcc; omega)) hHeld ?_
  try simp only [Act.put, List.setIfInBounds_toArray, List.set_cons_zero, List.set_cons_succ]
  refine takeA 38 22 (v := ?_) ?_ hHeld ?_
  rotate_left
  · intro w hSw
    try dsimp only at hSw
    go_simp <;> with_reducible rfl
  try simp only [Act.put, List.setIfInBounds_toArray, List.set_cons_zero, List.set_cons_succ]
  refine takeA 39 23 (v := ?_) ?_ hHeld ?_
  rotate_left
  · intro w hSw
    try dsimp only at hSw
    go_simp <;> with_reducible rfl
  try simp only [Act.put, List.setIfInBounds_toArray, List.set_cons_zero, List.set_cons_succ]
  refine takeA 40 24 (v := ?_) ?_ hHeld ?_
  rotate_left
  · intro w hSw
    try dsimp only at hSw
    go_simp <;> with_reducible rfl
  try simp only [Act.put, List.setIfInBounds_toArray, List.set_cons_zero, List.set_cons_succ]
  refine takeA 41 25 (v := ?_) ?_ hHeld ?_
  rotate_left
  · intro w hSw
    try dsimp only at hSw
    go_simp <;> with_reducible rfl
  try simp only [Act.put, List.setIfInBounds_toArray, List.set_cons_zero, List.set_cons_succ]
  refine wpAnyH_ready (rs := [26]) (by kernel_rfl) (by simp) ?_
  refine AllReadyH.cons rfl (fun K hK => ?_) (AllReadyH.nil)
  have c1 := (blk_cell HQ.out 1).trans rfl
  have z1 := blk_frozen HQ.out 1
  simp at c1
  go_simp
  clear c1 z1
  refine hK.out _ _ (OK.out _ (HB.out.setCell (p := ⟨w.heap.size, 1, none⟩) (Nat.le_refl _) _)) (fun hHeld => ?_)
  clear hK K
  replace HB := Aside0.mk (HB.out.setCell (p := ⟨w.heap.size, 1, none⟩) (Nat.le_refl _) (.int .i64 P))
  replace HQ := Aside0.mk (blk_put HQ.out 1 (.int .i64 P) rfl)
  try simp only [Act.put, List.setIfInBounds_toArray, List.set_cons_zero, List.set_cons_succ]
  refine wpAnyH_ready (rs := [27]) (by kernel_rfl) (by simp) ?_
  refine AllReadyH.cons rfl (fun K hK => ?_) (AllReadyH.nil)
  go_simp
  refine hK.out _ _ hHeld (fun hHeld => ?_)
  clear hK K
  try simp only [Act.put, List.setIfInBounds_toArray, List.set_cons_zero, List.set_cons_succ]
  refine wpAnyH_ready (rs := [28]) (by kernel_rfl) (by simp) ?_
  refine AllReadyH.cons rfl (fun K hK => ?_) (AllReadyH.nil)
  go_simp
  refine hK.out _ _ hHeld (fun hHeld => ?_)
  clear hK K
  try simp only [Act.put, List.setIfInBounds_toArray, List.set_cons_zero, List.set_cons_succ]
  refine wpAnyH_ready (rs := [29]) (by kernel_rfl) (by simp) ?_
  refine AllReadyH.cons rfl (fun K hK => ?_) (AllReadyH.nil)
  have c2 := (blk_cell HQ.out 2).trans rfl
  have z2 := blk_frozen HQ.out 2
  simp at c2
  go_simp
  clear c2 z2
  refine hK.out _ _ (OK.out _ (HB.out.setCell (p := ⟨w.heap.size, 2, none⟩) (Nat.le_refl _) _)) (fun hHeld => ?_)
  clear hK K
  replace HB := Aside0.mk (HB.out.setCell (p := ⟨w.heap.size, 2, none⟩) (Nat.le_refl _) (.string T))
  replace HQ := Aside0.mk (blk_put HQ.out 2 (.string T) rfl)
  try simp only [Act.put, List.setIfInBounds_toArray, List.set_cons_zero, List.set_cons_succ]
  refine wpAnyH_done (by kernel_rfl) ?_ _
  clear hHeld
  go_wp2_with fail
  exact ⟨rfl, w.heap.size, rfl, HB.out, HQ.out⟩
set_option maxRecDepth 100000 in
set_option maxHeartbeats 3200000 in
theorem wrong_past {w0 : World} {g : Nat} {ad : Addr} {c : Nat} {xs : List S29} {i : Nat} {w : World} (HR : Aside0 (Tr w0 g (some ad) c xs i w)) {n : Nat} (HL : Aside0 (xs.length = n + 1)) (hn : n ≤ 200000) (hlt : n < i) (T : ByteArray) (P : Int) (x1 : w.cell? ⟨(ad.add (n * 4)).block, (ad.add (n * 4)).off + 1, none⟩ = some (.string T)) (x3 : w.cell? ⟨(ad.add (n * 4)).block, (ad.add (n * 4)).off + 3, none⟩ = some (.int .i64 P)) :
    Calls Try.prog 68 #[.pointer (some ⟨g, 0, none⟩)] w (WrongPost (wrap64 (P + T.size)) ⟨#[]⟩ w) := by
  have e0 := (blk_cell HR.out.blk 0).trans rfl
  have e1 := (blk_cell HR.out.blk 1).trans rfl
  simp at e0 e1
  rw [HL.out] at e0
  have OK : Aside0 (∀ w', Below w.heap.size w w' → (fun w' => (w'.cell? ⟨g, 0, none⟩ = some (.slice (some ad) (n + 1) c) ∧ w'.cell? ⟨g, 1, none⟩ = some (.int .i64 (i : Int))) ∧ w'.cell? ⟨(ad.add (n * 4)).block, (ad.add (n * 4)).off + 1, none⟩ = some (.string T) ∧ w'.cell? ⟨(ad.add (n * 4)).block, (ad.add (n * 4)).off + 3, none⟩ = some (.int .i64 P)) w') := .mk (fun w' h => ⟨⟨(h.cell (World.block_lt_of_cell? w _ e0)).trans e0, (h.cell (World.block_lt_of_cell? w _ e1)).trans e1⟩, (h.cell (World.block_lt_of_cell? w _ x1)).trans x1, (h.cell (World.block_lt_of_cell? w _ x3)).trans x3⟩)
  clear e0 e1
  go_enter Try.func68, Try.ntmps68
  go_wp2_with fail
  have HB : Aside0 (Below w.heap.size w (w.alloc (.cells #[.int .i64 40, .int .i64 0, .string ⟨#[]⟩] 51))) := .mk ((Below.refl _ _).alloc (Nat.le_refl _) _)
  have HQ := Aside0.mk (heap_alloc_new w (.cells #[.int .i64 40, .int .i64 0, .string ⟨#[]⟩] 51))
  generalize w.alloc (.cells #[.int .i64 40, .int .i64 0, .string ⟨#[]⟩] 51) = wa at *
  refine wp_region_held_drew (S := fun w' => (w'.cell? ⟨g, 0, none⟩ = some (.slice (some ad) (n + 1) c) ∧ w'.cell? ⟨g, 1, none⟩ = some (.int .i64 (i : Int))) ∧ w'.cell? ⟨(ad.add (n * 4)).block, (ad.add (n * 4)).off + 1, none⟩ = some (.string T) ∧ w'.cell? ⟨(ad.add (n * 4)).block, (ad.add (n * 4)).off + 3, none⟩ = some (.int .i64 P)) (by kernel_rfl) (OK.out _ HB.out.drew) (fun hHeld => ?_)
  replace HB := Aside0.mk HB.out.drew
  replace HQ := Aside0.mk (blk_below HQ.out ((Below.refl _ _).drew))
  generalize HW : World.drew _ = wd at *
  clear HW
  refine takeA 6 0 (v := ?_) ?_ hHeld ?_
  rotate_left
  · intro w hSw
    try dsimp only at hSw
    go_simp <;> with_reducible rfl
  try simp only [Act.put, List.setIfInBounds_toArray, List.set_cons_zero, List.set_cons_succ]
  refine takeA 7 1 (v := ?_) ?_ hHeld ?_
  rotate_left
  · intro w hSw
    try dsimp only at hSw
    go_simp <;> with_reducible rfl
  try simp only [Act.put, List.setIfInBounds_toArray, List.set_cons_zero, List.set_cons_succ]
  refine takeA 8 2 (v := ?_) ?_ hHeld ?_
  rotate_left
  · intro w hSw
    try dsimp only at hSw
    go_simp <;> with_reducible rfl
  try simp only [Act.put, List.setIfInBounds_toArray, List.set_cons_zero, List.set_cons_succ]
  refine takeA 9 3 (v := ?_) ?_ hHeld ?_
  rotate_left
  · intro w hSw
    try dsimp only at hSw
    go_simp <;> with_reducible rfl
  try simp only [Act.put, List.setIfInBounds_toArray, List.set_cons_zero, List.set_cons_succ]
  refine takeA 10 4 (v := ?_) ?_ hHeld ?_
  rotate_left
  · intro w hSw
    try dsimp only at hSw
    go_simp <;> with_reducible rfl
  try simp only [Act.put, List.setIfInBounds_toArray, List.set_cons_zero, List.set_cons_succ]
  refine takeA 11 5 (v := ?_) ?_ hHeld ?_
  rotate_left
  · intro w hSw
    try dsimp only at hSw
    go_simp <;> with_reducible rfl
  try simp only [Act.put, List.setIfInBounds_toArray, List.set_cons_zero, List.set_cons_succ]
  refine takeA 12 6 (v := ?_) ?_ hHeld ?_
  rotate_left
  · intro w hSw
    try dsimp only at hSw
    go_simp <;> with_reducible rfl
  try simp only [Act.put, List.setIfInBounds_toArray, List.set_cons_zero, List.set_cons_succ]
  refine takeA 13 7 (v := ?_) ?_ hHeld ?_
  rotate_left
  · intro w hSw
    try dsimp only at hSw
    go_simp <;> with_reducible rfl
  try simp only [Act.put, List.setIfInBounds_toArray, List.set_cons_zero, List.set_cons_succ]
  refine takeA 14 8 (v := ?_) ?_ hHeld ?_
  rotate_left
  · intro w hSw
    try dsimp only at hSw
    go_simp <;> with_reducible rfl
  try simp only [Act.put, List.setIfInBounds_toArray, List.set_cons_zero, List.set_cons_succ]
  refine takeH (d := some 15) (v := .bool false) 9 rfl rfl (by kernel_rfl) (by kernel_rfl) (by kernel_rfl) (fun _ _ _ h => h) (by rfl) (fun w hSw => by (try dsimp only at hSw); go_simp <;> first | done | omega | (simp; omega)) hHeld ?_
  try simp only [Act.put, List.setIfInBounds_toArray, List.set_cons_zero, List.set_cons_succ]
  refine wpAnyH_done (by kernel_rfl) ?_ _
  clear hHeld
  have e0 := (OK.out _ HB.out).1.1
  go_wp2_with fail
  clear e0
  refine wp_region_held_drew (S := fun w' => (w'.cell? ⟨g, 0, none⟩ = some (.slice (some ad) (n + 1) c) ∧ w'.cell? ⟨g, 1, none⟩ = some (.int .i64 (i : Int))) ∧ w'.cell? ⟨(ad.add (n * 4)).block, (ad.add (n * 4)).off + 1, none⟩ = some (.string T) ∧ w'.cell? ⟨(ad.add (n * 4)).block, (ad.add (n * 4)).off + 3, none⟩ = some (.int .i64 P)) (by kernel_rfl) (OK.out _ HB.out.drew) (fun hHeld => ?_)
  replace HB := Aside0.mk HB.out.drew
  replace HQ := Aside0.mk (blk_below HQ.out ((Below.refl _ _).drew))
  generalize HW : World.drew _ = wd at *
  clear HW
  have hW : IntKind.i64.wrap (n : Int) = (n : Int) := IntWalk.i64_in _ (by omega)
  have HW := Aside0.mk hW
  clear hW
  refine takeA 51 0 (v := ?_) ?_ hHeld ?_
  rotate_left
  · intro w hSw
    try dsimp only at hSw
    go_simp <;> with_reducible rfl
  try simp only [Act.put, List.setIfInBounds_toArray, List.set_cons_zero, List.set_cons_succ]
  refine takeA 52 1 (v := ?_) ?_ hHeld ?_
  rotate_left
  · intro w hSw
    try dsimp only at hSw
    go_simp <;> with_reducible rfl
  try simp only [Act.put, List.setIfInBounds_toArray, List.set_cons_zero, List.set_cons_succ]
  refine takeA 53 2 (v := ?_) ?_ hHeld ?_
  rotate_left
  · intro w hSw
    try dsimp only at hSw
    go_simp <;> with_reducible rfl
  try simp only [Act.put, List.setIfInBounds_toArray, List.set_cons_zero, List.set_cons_succ]
  refine takeA 54 3 (v := ?_) ?_ hHeld ?_
  rotate_left
  · intro w hSw
    try dsimp only at hSw
    go_simp <;> with_reducible rfl
  try simp only [Act.put, List.setIfInBounds_toArray, List.set_cons_zero, List.set_cons_succ]
  refine takeA 55 4 (v := ?_) ?_ hHeld ?_
  rotate_left
  · intro w hSw
    try dsimp only at hSw
    go_simp <;> with_reducible rfl
  try simp only [Act.put, List.setIfInBounds_toArray, List.set_cons_zero, List.set_cons_succ]
  refine takeA 56 5 (v := ?_) ?_ hHeld ?_
  rotate_left
  · intro w hSw
    try dsimp only at hSw
    go_simp <;> with_reducible rfl
  try simp only [Act.put, List.setIfInBounds_toArray, List.set_cons_zero, List.set_cons_succ]
  refine takeH (d := some 57) (v := .int .i64 (n : Int)) 6 rfl rfl (by kernel_rfl) (by kernel_rfl) (by kernel_rfl) (fun _ _ _ h => h) (by rfl) (fun w hSw => by (try dsimp only at hSw); go_simp; rw [HW.out]) hHeld ?_
  try simp only [Act.put, List.setIfInBounds_toArray, List.set_cons_zero, List.set_cons_succ]
  refine takeH (d := some 58) (v := .pointer (some (ad.add (n * 4)))) 7 rfl rfl (by kernel_rfl) (by kernel_rfl) (by kernel_rfl) (fun _ _ _ h => h) (by rfl) (fun w hSw => by (try dsimp only at hSw); go_simp <;> first | done | (rw [if_pos (by omega)]) | (intro hcc; omega)) hHeld ?_
  try simp only [Act.put, List.setIfInBounds_toArray, List.set_cons_zero, List.set_cons_succ]
  refine takeA 59 8 (v := ?_) ?_ hHeld ?_
  rotate_left
  · intro w hSw
    try dsimp only at hSw
    go_simp <;> with_reducible rfl
  try simp only [Act.put, List.setIfInBounds_toArray, List.set_cons_zero, List.set_cons_succ]
  refine takeA 60 9 (v := ?_) ?_ hHeld ?_
  rotate_left
  · intro w hSw
    try dsimp only at hSw
    go_simp <;> with_reducible rfl
  try simp only [Act.put, List.setIfInBounds_toArray, List.set_cons_zero, List.set_cons_succ]
  refine takeA 61 10 (v := ?_) ?_ hHeld ?_
  rotate_left
  · intro w hSw
    try dsimp only at hSw
    go_simp <;> with_reducible rfl
  try simp only [Act.put, List.setIfInBounds_toArray, List.set_cons_zero, List.set_cons_succ]
  refine takeA 62 11 (v := ?_) ?_ hHeld ?_
  rotate_left
  · intro w hSw
    try dsimp only at hSw
    go_simp <;> with_reducible rfl
  try simp only [Act.put, List.setIfInBounds_toArray, List.set_cons_zero, List.set_cons_succ]
  refine takeA 63 12 (v := ?_) ?_ hHeld ?_
  rotate_left
  · intro w hSw
    try dsimp only at hSw
    go_simp <;> with_reducible rfl
  try simp only [Act.put, List.setIfInBounds_toArray, List.set_cons_zero, List.set_cons_succ]
  refine takeA 64 13 (v := ?_) ?_ hHeld ?_
  rotate_left
  · intro w hSw
    try dsimp only at hSw
    go_simp <;> with_reducible rfl
  try simp only [Act.put, List.setIfInBounds_toArray, List.set_cons_zero, List.set_cons_succ]
  refine takeA 65 14 (v := ?_) ?_ hHeld ?_
  rotate_left
  · intro w hSw
    try dsimp only at hSw
    go_simp <;> with_reducible rfl
  try simp only [Act.put, List.setIfInBounds_toArray, List.set_cons_zero, List.set_cons_succ]
  refine takeH (d := some 66) (v := .int .i64 (n : Int)) 15 rfl rfl (by kernel_rfl) (by kernel_rfl) (by kernel_rfl) (fun _ _ _ h => h) (by rfl) (fun w hSw => by (try dsimp only at hSw); go_simp; rw [HW.out]) hHeld ?_
  try simp only [Act.put, List.setIfInBounds_toArray, List.set_cons_zero, List.set_cons_succ]
  refine takeH (d := some 67) (v := .pointer (some (ad.add (n * 4)))) 16 rfl rfl (by kernel_rfl) (by kernel_rfl) (by kernel_rfl) (fun _ _ _ h => h) (by rfl) (fun w hSw => by (try dsimp only at hSw); go_simp <;> first | done | (rw [if_pos (by omega)]) | (intro hcc; omega)) hHeld ?_
  try simp only [Act.put, List.setIfInBounds_toArray, List.set_cons_zero, List.set_cons_succ]
  refine takeA 68 17 (v := ?_) ?_ hHeld ?_
  rotate_left
  · intro w hSw
    try dsimp only at hSw
    go_simp <;> with_reducible rfl
  try simp only [Act.put, List.setIfInBounds_toArray, List.set_cons_zero, List.set_cons_succ]
  refine takeA 69 18 (v := ?_) ?_ hHeld ?_
  rotate_left
  · intro w hSw
    try dsimp only at hSw
    go_simp <;> with_reducible rfl
  try simp only [Act.put, List.setIfInBounds_toArray, List.set_cons_zero, List.set_cons_succ]
  refine takeA 70 19 (v := ?_) ?_ hHeld ?_
  rotate_left
  · intro w hSw
    try dsimp only at hSw
    go_simp <;> with_reducible rfl
  try simp only [Act.put, List.setIfInBounds_toArray, List.set_cons_zero, List.set_cons_succ]
  refine takeA 71 20 (v := ?_) ?_ hHeld ?_
  rotate_left
  · intro w hSw
    try dsimp only at hSw
    go_simp <;> with_reducible rfl
  try simp only [Act.put, List.setIfInBounds_toArray, List.set_cons_zero, List.set_cons_succ]
  refine takeA 72 21 (v := ?_) ?_ hHeld ?_
  rotate_left
  · intro w hSw
    try dsimp only at hSw
    go_simp <;> with_reducible rfl
  try simp only [Act.put, List.setIfInBounds_toArray, List.set_cons_zero, List.set_cons_succ]
  refine takeA 73 22 (v := ?_) ?_ hHeld ?_
  rotate_left
  · intro w hSw
    try dsimp only at hSw
    go_simp <;> with_reducible rfl
  try simp only [Act.put, List.setIfInBounds_toArray, List.set_cons_zero, List.set_cons_succ]
  refine wpAnyH_ready (rs := [23]) (by kernel_rfl) (by simp) ?_
  refine AllReadyH.cons rfl (fun K hK => ?_) AllReadyH.nil
  have c1 := (blk_cell HQ.out 1).trans rfl
  have z1 := blk_frozen HQ.out 1
  simp at c1
  go_simp
  clear c1 z1
  refine hK.out _ _ (OK.out _ (HB.out.setCell (p := ⟨w.heap.size, 1, none⟩) (Nat.le_refl _) _)) (fun hHeld => ?_)
  clear hK K
  try simp only [Act.put, List.setIfInBounds_toArray, List.set_cons_zero, List.set_cons_succ]
  refine wpAnyH_done (by kernel_rfl) ?_ _
  clear hHeld
  go_wp2_with fail
  exact ⟨rfl, w.heap.size, rfl, HB.out.setCell (p := ⟨w.heap.size, 1, none⟩) (Nat.le_refl _) _, blk_put HQ.out 1 _ rfl⟩
end Go.Proofs.Ytjmpejbciniceaa.X
/- The contract of types' method wrong. -/
namespace Go.Proofs.Ytjmpejbciniceaa.X
open Go.RowKit Go.Proofs.YtjmpejbciniceaaW.PrintWords Go.Proofs.YtjmpejbciniceaaW.PrintLast Go.Proofs.YtjmpejbciniceaaW.PrintMore
set_option linter.unusedVariables false

/-- The place and the word of the fault at the i-th word. -/
def wrAt (xs : List S29) (i : Nat) : Int := match xs[i]? with
  | some x => x.f3
  | none => match xs.getLast? with
    | some x => wrap64 (x.f3 + x.f1.size)
    | none => 0
def wrWd (xs : List S29) (i : Nat) : ByteArray := match xs[i]? with
  | some x => x.f1
  | none => ⟨#[]⟩
theorem wrong_calls {w0 : World} {g : Nat} {A : Option Addr} {c : Nat} {xs : List S29} {i : Nat} {w : World} (h : Tr w0 g A c xs i w) (hn : xs.length ≤ 200000) : Calls Try.prog 68 #[.pointer (some ⟨g, 0, none⟩)] w (WrongPost (wrAt xs i) (wrWd xs i) w) := by
  have HR := Aside0.mk h
  by_cases h0 : xs.length = 0
  · have e : xs = [] := List.eq_nil_of_length_eq_zero h0
    have e1 : wrAt xs i = 0 := by rw [e]; rfl
    have e2 : wrWd xs i = ⟨#[]⟩ := by rw [e]; rfl
    rw [e1, e2]
    exact wrong_none HR h0
  · by_cases hlt : i < xs.length
    · have hx := List.getElem?_eq_getElem hlt
      obtain ⟨ad, rfl, _, x1, _, x3⟩ := word_at (Kd.C_below h.words h.below) i hlt _ hx
      have e1 : wrAt xs i = xs[i].f3 := by unfold wrAt; rw [hx]
      have e2 : wrWd xs i = xs[i].f1 := by unfold wrWd; rw [hx]
      rw [e1, e2]
      exact wrong_at HR (.mk rfl) hn hlt _ _ x1 x3
    · obtain ⟨n, hnn⟩ : ∃ n, xs.length = n + 1 := ⟨xs.length - 1, by omega⟩
      have hl : n < xs.length := by omega
      have hx := List.getElem?_eq_getElem hl
      obtain ⟨ad, rfl, _, x1, _, x3⟩ := word_at (Kd.C_below h.words h.below) n hl _ hx
      have hz : xs[i]? = none := List.getElem?_eq_none (by omega)
      have e1 : wrAt xs i = wrap64 (xs[n].f3 + xs[n].f1.size) := by unfold wrAt; rw [hz, List.getLast?_eq_getElem?, hnn, Nat.add_sub_cancel, hx]
      have e2 : wrWd xs i = ⟨#[]⟩ := by unfold wrWd; rw [hz]
      rw [e1, e2]
      exact wrong_past HR (.mk hnn) (by omega) (by omega) _ _ x1 x3
end Go.Proofs.Ytjmpejbciniceaa.X
/- The parser of types.Read once more, telling where it gives up. -/
namespace Go.Proofs.Ytjmpejbciniceaa.X
set_option linter.unusedVariables false

mutual
/-- as parF; where it gives up: the words from there on -/
def parE : Nat → Nat → List Tk → Except (List Tk) (S35 × List Tk)
  | 0, _, ts => .error ts
  | f + 1, L, ts =>
    if L = 4 then
      if headIs tkQ ts then .ok (⟨0, []⟩, ts.tail)
      else if headIs tkI ts then .ok (⟨1, []⟩, ts.tail)
      else if headIs tkB ts then .ok (⟨2, []⟩, ts.tail)
      else if headIs tkO ts then
        match parE f 0 ts.tail with
        | .ok x => if headIs tkC x.2 then .ok (x.1, x.2.tail) else .error x.2
        | .error u => .error u
      else .error ts
    else if L = 3 then (match parE f 4 ts with | .ok x => lopE f 3 x.1 x.2 | .error u => .error u)
    else if L = 2 then (match parE f 3 ts with | .ok x => lopE f 2 x.1 x.2 | .error u => .error u)
    else
      match parE f 2 ts with
      | .ok x => if headIs tkA x.2 then (match parE f 0 x.2.tail with | .ok y => .ok (⟨3, [x.1, y.1]⟩, y.2) | .error u => .error u) else .ok x
      | .error u => .error u
def lopE : Nat → Nat → S35 → List Tk → Except (List Tk) (S35 × List Tk)
  | 0, _, _, ts => .error ts
  | f + 1, L, a, ts => if headIs (opOf L) ts then (match parE f (L + 1) ts.tail with | .ok x => lopE f L ⟨kindOf L, [a, x.1]⟩ x.2 | .error u => .error u) else .ok (a, ts)
end
def closeE : Except (List Tk) (S35 × List Tk) → Except (List Tk) (S35 × List Tk)
  | .ok x => if headIs tkC x.2 then .ok (x.1, x.2.tail) else .error x.2
  | .error u => .error u
theorem parE_four (f : Nat) (ts : List Tk) : parE (f + 1) 4 ts =
    if headIs tkQ ts then .ok (⟨0, []⟩, ts.tail)
    else if headIs tkI ts then .ok (⟨1, []⟩, ts.tail)
    else if headIs tkB ts then .ok (⟨2, []⟩, ts.tail)
    else if headIs tkO ts then closeE (parE f 0 ts.tail)
    else .error ts := by
  conv => lhs; unfold parE
  rw [if_pos rfl]
  rfl
theorem parE_three (f : Nat) (ts : List Tk) : parE (f + 1) 3 ts = (match parE f 4 ts with | .ok x => lopE f 3 x.1 x.2 | .error u => .error u) := by
  conv => lhs; unfold parE
  rw [if_neg (by decide), if_pos rfl]
theorem parE_two (f : Nat) (ts : List Tk) : parE (f + 1) 2 ts = (match parE f 3 ts with | .ok x => lopE f 2 x.1 x.2 | .error u => .error u) := by
  conv => lhs; unfold parE
  rw [if_neg (by decide), if_neg (by decide), if_pos rfl]
theorem parE_zero (f : Nat) (ts : List Tk) : parE (f + 1) 0 ts = (match parE f 2 ts with
      | .ok x => if headIs tkA x.2 then (match parE f 0 x.2.tail with | .ok y => .ok (⟨3, [x.1, y.1]⟩, y.2) | .error u => .error u) else .ok x
      | .error u => .error u) := by
  conv => lhs; unfold parE
  rw [if_neg (by decide), if_neg (by decide), if_neg (by decide)]
theorem lopE_succ (f L : Nat) (a : S35) (ts : List Tk) : lopE (f + 1) L a ts = if headIs (opOf L) ts then (match parE f (L + 1) ts.tail with | .ok x => lopE f L ⟨kindOf L, [a, x.1]⟩ x.2 | .error u => .error u) else .ok (a, ts) := by
  conv => lhs; unfold lopE
def okO {α β : Type} : Except α β → Option β
  | .ok x => some x
  | .error _ => none
theorem parF_atom (f : Nat) (ts : List Tk) : parF (f + 1) 4 ts = if headIs tkQ ts then some (⟨0, []⟩, ts.tail) else if headIs tkI ts then some (⟨1, []⟩, ts.tail) else if headIs tkB ts then some (⟨2, []⟩, ts.tail) else if headIs tkO ts then (match parF f 0 ts.tail with | some (a, u) => if headIs tkC u then some (a, u.tail) else none | none => none) else none := by
  rw [parF_eq, if_pos rfl]
  cases ts with
  | nil => rfl
  | cons t r =>
    simp only [headIs, decide_eq_true_eq, List.tail_cons]
    cases parF f 0 r with
    | none => rfl
    | some x => rfl
theorem ok_both (f : Nat) : (∀ L ts, L = 4 ∨ L = 3 ∨ L = 2 ∨ L = 0 → okO (parE f L ts) = parF f L ts) ∧ (∀ L a ts, L = 3 ∨ L = 2 → okO (lopE f L a ts) = lopF f L a ts) := by
  induction f with
  | zero => exact ⟨fun L ts _ => by simp [parE, parF, okO], fun L a ts _ => by simp [lopE, lopF, okO]⟩
  | succ f ih =>
    obtain ⟨ih1, ih2⟩ := ih
    constructor
    · intro L ts hL
      rcases hL with rfl | rfl | rfl | rfl
      · rw [parE_four, parF_atom, ← ih1 0 ts.tail (by simp)]
        by_cases h1 : headIs tkQ ts = true
        · rw [if_pos h1, if_pos h1]; rfl
        rw [if_neg h1, if_neg h1]
        by_cases h2 : headIs tkI ts = true
        · rw [if_pos h2, if_pos h2]; rfl
        rw [if_neg h2, if_neg h2]
        by_cases h3 : headIs tkB ts = true
        · rw [if_pos h3, if_pos h3]; rfl
        rw [if_neg h3, if_neg h3]
        by_cases h4 : headIs tkO ts = true
        · rw [if_pos h4, if_pos h4]
          cases parE f 0 ts.tail with
          | error u => rfl
          | ok x =>
            show okO (if headIs tkC x.2 then .ok (x.1, x.2.tail) else .error x.2) = if headIs tkC x.2 then some (x.1, x.2.tail) else none
            by_cases h5 : headIs tkC x.2 = true
            · rw [if_pos h5, if_pos h5]; rfl
            · rw [if_neg h5, if_neg h5]; rfl
        · rw [if_neg h4, if_neg h4]; rfl
      · rw [parE_three, parF_eq, if_neg (by decide), if_pos rfl, ← ih1 4 ts (by simp)]
        cases parE f 4 ts with
        | error u => rfl
        | ok x => exact ih2 3 _ _ (by simp)
      · rw [parE_two, parF_eq, if_neg (by decide), if_neg (by decide), if_pos rfl, ← ih1 3 ts (by simp)]
        cases parE f 3 ts with
        | error u => rfl
        | ok x => exact ih2 2 _ _ (by simp)
      · rw [parE_zero, parF_eq, if_neg (by decide), if_neg (by decide), if_neg (by decide), ← ih1 2 ts (by simp)]
        cases parE f 2 ts with
        | error u => rfl
        | ok x =>
          show okO (if headIs tkA x.2 then (match parE f 0 x.2.tail with | .ok y => .ok (⟨3, [x.1, y.1]⟩, y.2) | .error u => .error u) else .ok x) = if headIs tkA x.2 then (match parF f 0 x.2.tail with | some (b, u) => some (⟨3, [x.1, b]⟩, u) | none => none) else some x
          by_cases h5 : headIs tkA x.2 = true
          · rw [if_pos h5, if_pos h5, ← ih1 0 x.2.tail (by simp)]
            cases parE f 0 x.2.tail with
            | error u => rfl
            | ok y => rfl
          · rw [if_neg h5, if_neg h5]; rfl
    · intro L a ts hL
      rw [lopE_succ, lopF_eq]
      split
      · rw [← ih1 (L + 1) ts.tail (by rcases hL with rfl | rfl <;> simp)]
        cases parE f (L + 1) ts.tail with
        | error u => rfl
        | ok x => exact ih2 L _ _ hL
      · rfl
theorem ok_par (f : Nat) (ts : List Tk) : okO (parE f 0 ts) = parF f 0 ts := (ok_both f).1 0 ts (by simp)
end Go.Proofs.Ytjmpejbciniceaa.X
/- The reader's words as tokens; what a parse answers in memory. -/
namespace Go.Proofs.Ytjmpejbciniceaa.X
open Go.RowKit Go.Proofs.YtjmpejbciniceaaW.PrintWords Go.Proofs.YtjmpejbciniceaaW.PrintLast Go.Proofs.YtjmpejbciniceaaW.PrintMore
set_option linter.unusedVariables false

def tkS (x : S29) : Tk := (x.f0, x.f1.toList)
def toks (xs : List S29) (i : Nat) : List Tk := (xs.drop i).map tkS
theorem nextIs_iff (xs : List S29) (i : Nat) (k : Int) (s : List UInt8) : nextIs xs i k s ↔ headIs (k, s) (toks xs i) = true := by
  unfold nextIs toks
  by_cases h : i < xs.length
  · rw [List.drop_eq_getElem_cons h, List.getElem?_eq_getElem h, List.map_cons, headIs, decide_eq_true_eq, tkS]
    constructor
    · rintro ⟨x, h1, h2, h3⟩
      injection h1 with h1
      rw [h1, h2, h3]
    · intro h1
      injection h1 with h1 h2
      exact ⟨_, rfl, h1, h2⟩
  · rw [List.drop_eq_nil_of_le (by omega), List.getElem?_eq_none (by omega)]
    simp [headIs]
theorem toks_tail (xs : List S29) (i : Nat) : (toks xs i).tail = toks xs (i + 1) := by
  unfold toks
  rw [← List.map_tail, List.tail_drop]
theorem nextIs_lt {xs : List S29} {i : Nat} {k : Int} {s : List UInt8} (h : nextIs xs i k s) : i < xs.length := by
  obtain ⟨x, h1, _⟩ := h
  exact (List.getElem?_eq_some_iff.1 h1).1
/-- What a parse of words answers: the type at new cells, the reader at the rest; or it gives up with a fault. -/
def ReadPost (w0 : World) (g : Nat) (A : Option Addr) (c : Nat) (xs : List S29) (i0 : Nat) (w : World) (r : Except (List Tk) (S35 × List Tk)) (en : Ending) (w' : World) : Prop :=
  KeepBut w w' g none ∧ match r with
  | .ok x => ∃ v i, en = .returned (.agg #[.int .i8 x.1.f0, v]) ∧ k35.R 35 w' w.heap.size (fun _ => True) v x.1.f1 ∧ Tr w0 g A c xs i w' ∧ i0 ≤ i ∧ i ≤ xs.length ∧ x.2 = toks xs i
  | .error u => ∃ q j, en = .panicked [{ v := .iface 49 (.pointer (some ⟨q, 0, none⟩)), recovered := false }] ∧ u = toks xs j ∧ j ≤ xs.length ∧ w'.heap[q]? = some (.cells #[.int .i64 40, .int .i64 (wrAt xs j), .string (wrWd xs j)] 51 (0, 0)) ∧ Below w0.heap.size w0 w'
/-- Two types in a new row. -/
theorem R_two {w : World} {base : Nat} {ok : Nat → Prop} {g : Nat} {a b : S35} {va vb : Value} (hb : w.heap[g]? = some (.cells #[.int .i8 a.f0, va, .int .i8 b.f0, vb] 35 (0, 0))) (hg : base ≤ g) (hok : ok g)
    (ha : k35.R 35 w base (fun k => ok k ∧ k ≠ g) va a.f1) (hbb : k35.R 35 w base (fun k => ok k ∧ k ≠ g) vb b.f1) : k35.R 35 w base ok (.slice (some ⟨g, 0, none⟩) 2 2) [a, b] := by
  refine ⟨fun k hk => ?_, [.int .i8 a.f0, va, .int .i8 b.f0, vb], ⟨rfl, .inr ⟨g, 2, _, rfl, hg, hb, Nat.le_refl _, by decide, rfl, rfl⟩⟩, rfl, fun j p hj => ?_⟩
  · have : g = k := by simpa [Value.ownBlock] using hk
    exact this ▸ hok
  · have hw : ∀ k, (ok k ∧ k ≠ g) → ok k ∧ some k ≠ (Value.slice (some ⟨g, 0, none⟩) 2 2).ownBlock := fun k hk => ⟨hk.1, fun e => by simp [Value.ownBlock] at e; exact hk.2 e⟩
    match j, hj with
    | 0, hj =>
      obtain rfl : a = p := by simpa using hj
      exact k35_mkM w base _ a (Kd.R_mono ha hw)
    | 1, hj =>
      obtain rfl : b = p := by simpa using hj
      exact k35_mkM w base _ b (Kd.R_mono hbb hw)
/-- .. made by an allocation. -/
theorem R_pair {w : World} {base : Nat} {ok : Nat → Prop} {a b : S35} {va vb : Value} (hbase : base ≤ w.heap.size) (hok : ok w.heap.size) (ha : k35.R 35 w base ok va a.f1) (hb : k35.R 35 w base ok vb b.f1) :
    k35.R 35 (w.alloc (.cells #[.int .i8 a.f0, va, .int .i8 b.f0, vb] 35)) base ok (.slice (some ⟨w.heap.size, 0, none⟩) 2 2) [a, b] := by
  have hB := below1 w #[.int .i8 a.f0, va, .int .i8 b.f0, vb] 35
  refine R_two (heap_alloc_new w _) hbase hok ?_ ?_
  · exact Kd.R_below (Kd.R_mono (Kd.R_bound ha) fun k hk => ⟨hk.1, by omega⟩) hB
  · exact Kd.R_below (Kd.R_mono (Kd.R_bound hb) fun k hk => ⟨hk.1, by omega⟩) hB
/-- What was made behind v0 is none of the blocks g and p. -/
theorem R_apart {v0 w : World} {base : Nat} {g p : Nat} {v : Value} {l : List S35} (h : k35.R 35 w v0.heap.size (fun _ => True) v l) (hb : base ≤ v0.heap.size) (hg : g < v0.heap.size) (hp : p < v0.heap.size) : k35.R 35 w base (fun k => k ≠ g ∧ k ≠ p) v l :=
  Kd.R_lower (Kd.R_mono (Kd.R_bound h) fun k hk => ⟨by omega, by omega⟩) hb
end Go.Proofs.Ytjmpejbciniceaa.X
