/- The contracts of package below. -/
import Derived.Test.YtamhdpllmhafhaaPureBelow
import Derived.Test.YtamhdpllmhafhaaHTake
import Derived.Test.YtamhdpllmhafhaaHGround
import Derived.Test.YtamhdpllmhafhaaHKeep
import Derived.RegionTactic
import Derived.ChangeAlike
import Derived.BigRegion
namespace Go.Proofs.Ytamhdpllmhafhaa.X
open Go.RowKit Go.Proofs.YtamhdpllmhafhaaW.PrintWords Go.Proofs.YtamhdpllmhafhaaW.PrintLast Go.Proofs.YtamhdpllmhafhaaW.PrintMore
set_option linter.unusedVariables false
set_option linter.unusedSimpArgs false

theorem run_store_func {P : Program} (w : World) (a : Addr) (m : Mode) (f : Fn) (b c : Array Value) : (store a (.func f b c) m).run P w = stored P w a (.func f b c) m := run_store P w a _ m rfl
attribute [local go_sem] run_store_func
/-! ### the ways -/
theorem plain_calls (w : World) : Calls Try.prog 67 #[] w fun e w' => e = .returned (.agg #[.func (Fn.func 88) #[] #[], .bool false, .func (Fn.func 67) #[] #[]]) ∧ Below w.heap.size w w' := by
  go_enter Try.func67, Try.ntmps67
  go_wp2_with fail
  have k1 := heap_alloc_new w (.cells #[.func (Fn.func 88) #[] #[], .bool false, .func (Fn.func 67) #[] #[]] 65)
  have e0 := blk_cell k1 0
  have e1 := blk_cell k1 1
  have e2 := blk_cell k1 2
  simp at e0 e1 e2
  exact bodyPost_ret (v := .agg #[.func (Fn.func 88) #[] #[], .bool false, .func (Fn.func 67) #[] #[]]) (by simp [results, Try.results67, go_sem, e0, e1, e2]) rfl ⟨rfl, below1 ..⟩
theorem pos_calls (w : World) : Calls Try.prog 70 #[] w fun e w' => e = .returned (.agg #[.func (Fn.func 91) #[] #[], .bool false, .func (Fn.func 72) #[] #[]]) ∧ Below w.heap.size w w' := by
  go_enter Try.func70, Try.ntmps70
  go_wp2_with fail
  have k1 := heap_alloc_new w (.cells #[.func (Fn.func 91) #[] #[], .bool false, .func (Fn.func 72) #[] #[]] 65)
  have e0 := blk_cell k1 0
  have e1 := blk_cell k1 1
  have e2 := blk_cell k1 2
  simp at e0 e1 e2
  exact bodyPost_ret (v := .agg #[.func (Fn.func 91) #[] #[], .bool false, .func (Fn.func 72) #[] #[]]) (by simp [results, Try.results70, go_sem, e0, e1, e2]) rfl ⟨rfl, below1 ..⟩
theorem neg_calls (w : World) : Calls Try.prog 72 #[] w fun e w' => e = .returned (.agg #[.func (Fn.func 92) #[] #[], .bool true, .func (Fn.func 70) #[] #[]]) ∧ Below w.heap.size w w' := by
  go_enter Try.func72, Try.ntmps72
  go_wp2_with fail
  have k1 := heap_alloc_new w (.cells #[.func (Fn.func 92) #[] #[], .bool true, .func (Fn.func 70) #[] #[]] 65)
  have e0 := blk_cell k1 0
  have e1 := blk_cell k1 1
  have e2 := blk_cell k1 2
  simp at e0 e1 e2
  exact bodyPost_ret (v := .agg #[.func (Fn.func 92) #[] #[], .bool true, .func (Fn.func 70) #[] #[]]) (by simp [results, Try.results72, go_sem, e0, e1, e2]) rfl ⟨rfl, below1 ..⟩

/-! ### pair.ground -/
theorem Ground_far {t : S26} {v : Value} {w : World} (hc : checkI t = 0) (h0 : t.f0 ≠ 0) (h : IsT w v t) : Calls Try.prog 41 #[v] w fun e w' => ∃ G cg, e = .returned (.tuple #[.agg #[.int .i8 (groundS t).f0, .slice G (groundS t).f1.length cg], .bool true]) ∧ IsT w' (.agg #[.int .i8 (groundS t).f0, .slice G (groundS t).f1.length cg]) (groundS t) ∧ (∀ ad, G = some ad → w.heap.size ≤ ad.block) ∧ Below w.heap.size w w' := by
  obtain ⟨A, c, rfl, h1, h2⟩ := h
  have hev := Ground_ev t
  rw [ground_eq hc h0] at hev
  obtain ⟨k, hk⟩ := hev.rounds
  refine (types_Ground.calls k t.f0 A c t.f1 _ _ _ w h2 h1 hk).mono ?_
  rintro e w' ⟨v1, rfl, hR, hB⟩
  have hbase := Kd.R_base hR
  obtain ⟨G, cg, rfl, h3, h4⟩ := Kd.R_reads hR
  exact ⟨G, cg, rfl, ⟨G, cg, rfl, h3, h4⟩, fun ad e => hbase _ (by subst e; rfl), hB⟩
theorem blk_four {w : World} {g : Nat} {t : TypeId} {a b c d a' b' c' d' : Value} (h : w.heap[g]? = some (.cells #[a, b, c, d] t (0, 0))) : ((((w.setCell ⟨g, 0, none⟩ a').setCell ⟨g, 1, none⟩ b').setCell ⟨g, 2, none⟩ c').setCell ⟨g, 3, none⟩ d').heap[g]? = some (.cells #[a', b', c', d'] t (0, 0)) :=
  blk_put (blk_put (blk_put (blk_put h 0 a' (cs' := #[a', b, c, d]) (by simp)) 1 b' (cs' := #[a', b', c, d]) (by simp)) 2 c' (cs' := #[a', b', c', d]) (by simp)) 3 d' (by simp)
theorem four_kept (w : World) (g : Nat) (a' b' c' d' : Value) : ∀ b, b ≠ g → ((((w.setCell ⟨g, 0, none⟩ a').setCell ⟨g, 1, none⟩ b').setCell ⟨g, 2, none⟩ c').setCell ⟨g, 3, none⟩ d').heap[b]? = w.heap[b]? := fun b h => (Below.heap_setCell _ _ _ _ h).trans ((Below.heap_setCell _ _ _ _ h).trans ((Below.heap_setCell _ _ _ _ h).trans (Below.heap_setCell _ _ _ _ h)))
theorem C_zero (w : World) (A : Option Addr) : Kd.C k26 w A 0 [] := ⟨rfl, by simp, fun h => absurd h (by simp)⟩
/-- A ground whose parts lie elsewhere is left by what is written into a block. -/
theorem IsT.ground_far {w w' : World} {g : Nat} {a : S26} {G : Option Addr} {cg : Nat} (hr : rightB a = true) (hG : ∀ ad, G = some ad → ad.block ≠ g) (hk : ∀ b, b ≠ g → w'.heap[b]? = w.heap[b]?)
    (h : IsT w (.agg #[.int .i8 (groundS a).f0, .slice G (groundS a).f1.length cg]) (groundS a)) : IsT w' (.agg #[.int .i8 (groundS a).f0, .slice G (groundS a).f1.length cg]) (groundS a) := by
  rcases right_cases hr with ⟨k, hk', rfl⟩ | ⟨k, x, y, hk', hx, hy, rfl⟩
  · exact ⟨G, cg, rfl, by simp [groundS], C_zero _ _⟩
  · rw [groundS_two] at h ⊢
    obtain ⟨A, c, e, h1, h2⟩ := h
    obtain ⟨rfl, rfl⟩ : G = A ∧ cg = c := by simpa using e
    obtain ⟨ad, B1, d1, hA, hx0, hx1, hl1, hi1⟩ := at_T26 h2 0 (by simp) (by simp)
    obtain ⟨ad', B2, d2, hA', hy0, hy1, hl2, hi2⟩ := at_T26 h2 1 (by simp) (by simp)
    obtain rfl : some ad = G := hA.symm
    obtain rfl : ad = ad' := by simpa using hA'
    have ra : rd_T26 [z26, z26] 0 = z26 := rfl
    have rb : rd_T26 [z26, z26] 1 = z26 := rfl
    simp only [ra, rb] at hx0 hx1 hy0 hy1 hl1 hl2 hi1 hi2
    have hne := hG ad rfl
    have move : ∀ n u, w.cell? (ad.add n) = some u → w'.cell? (ad.add n) = some u := fun n u h => (World.cell?_of_block (w := w) (by have e : (ad.add n).block = ad.block := (by unfold Addr.add; split <;> rfl); rw [e]; exact hk ad.block hne)).trans h
    exact ⟨some ad, cg, rfl, h1, C_four (move 0 _ (by simpa [Addr.add] using hx0)) (move 1 _ (by simpa [Addr.add] using hx1)) (move 2 _ (by simpa [Addr.add] using hy0)) (move 3 _ (by simpa [Addr.add] using hy1)) hl1 hl2 (C_zero _ _) (C_zero _ _)⟩
set_option maxRecDepth 100000 in
set_option maxHeartbeats 1600000 in
theorem pairground_calls {a : S26} {A B : Option Addr} {c n1 d : Nat} {k1 : Int} {w : World} (hc : checkI a = 0) (h0 : a.f0 ≠ 0) (ha : IsT w (.agg #[.int .i8 a.f0, .slice A a.f1.length c]) a) :
    Calls Try.prog 89 #[.agg #[.int .i8 a.f0, .slice A a.f1.length c, .int .i8 k1, .slice B n1 d]] w fun e w' => ∃ G cg, e = .returned (.agg #[.int .i8 a.f0, .slice A a.f1.length c, .int .i8 (groundS a).f0, .slice G (groundS a).f1.length cg]) ∧ IsT w' (.agg #[.int .i8 (groundS a).f0, .slice G (groundS a).f1.length cg]) (groundS a) ∧ Below w.heap.size w w' := by
  have T0 := Aside0.mk ha
  have HC := Aside0.mk hc
  have HZ := Aside0.mk h0
  clear ha hc h0
  go_enter Try.func89, Try.ntmps89
  go_wp2_with fail
  refine (Ground_far HC.out HZ.out (T0.out.below (below2 ..))).mono ?_
  rintro e w1 ⟨G, cg, rfl, hT, hG, hB⟩
  obtain ⟨b1, b2, hB1⟩ := two_blocks hB
  have HB1 := Aside0.mk hB1
  have K1 := Aside0.mk b1
  have K2 := Aside0.mk b2
  have HG := Aside0.mk hG
  have TG := Aside0.mk hT
  have e10 : w1.cell? ⟨w.heap.size, 0, none⟩ = some (.int .i8 a.f0) := (blk_cell b1 0).trans rfl
  have e11 : w1.cell? ⟨w.heap.size, 1, none⟩ = some (.slice A a.f1.length c) := (blk_cell b1 1).trans rfl
  have e20 : w1.cell? ⟨w.heap.size + 1, 0, none⟩ = some (.int .i8 0) := (blk_cell b2 0).trans rfl
  have e21 : w1.cell? ⟨w.heap.size + 1, 1, none⟩ = some (.slice none 0 0) := (blk_cell b2 1).trans rfl
  have e22 : w1.cell? ⟨w.heap.size + 1, 2, none⟩ = some (.int .i8 0) := (blk_cell b2 2).trans rfl
  have e23 : w1.cell? ⟨w.heap.size + 1, 3, none⟩ = some (.slice none 0 0) := (blk_cell b2 3).trans rfl
  have z20 := blk_frozen b2 0
  have z21 := blk_frozen b2 1
  have z22 := blk_frozen b2 2
  have z23 := blk_frozen b2 3
  have q1 := blk_lt b1
  have q2 := blk_lt b2
  clear hB hB1 b1 b2 hG hT
  go_wp2_with fail
  have k2 := blk_alloc (blk_four (a' := .int .i8 a.f0) (b' := .slice A a.f1.length c) (c' := .int .i8 (groundS a).f0) (d' := .slice G (groundS a).f1.length cg) K2.out) (.cells #[.int .i8 (groundS a).f0, .slice G (groundS a).f1.length cg] 26)
  have f0 := blk_cell k2 0
  have f1 := blk_cell k2 1
  have f2 := blk_cell k2 2
  have f3 := blk_cell k2 3
  simp at f0 f1 f2 f3
  have TG1 := IsT.ground_far (g := w.heap.size + 1) (check_nodes HC.out).2.2 (fun ad e => by have := HG.out ad e; simp at this; omega) (four_kept w1 (w.heap.size + 1) (.int .i8 a.f0) (.slice A a.f1.length c) (.int .i8 (groundS a).f0) (.slice G (groundS a).f1.length cg)) TG.out
  have TG2 := TG1.below (below1 _ #[.int .i8 (groundS a).f0, .slice G (groundS a).f1.length cg] 26)
  refine bodyPost_ret (v := .agg #[.int .i8 a.f0, .slice A a.f1.length c, .int .i8 (groundS a).f0, .slice G (groundS a).f1.length cg]) (by simp [results, Try.results89, go_sem, f0, f1, f2, f3]) rfl ⟨G, cg, rfl, TG2, ?_⟩
  exact ((((HB1.out.setCell (p := ⟨w.heap.size + 1, 0, none⟩) (by simp) _).setCell (p := ⟨w.heap.size + 1, 1, none⟩) (by simp) _).setCell (p := ⟨w.heap.size + 1, 2, none⟩) (by simp) _).setCell (p := ⟨w.heap.size + 1, 3, none⟩) (by simp) _).alloc (by simp; omega) _
/-! ### holds: by induction -/
def H3 (n : Nat) : Prop := ∀ (a : S26) (A : Option Addr) (c : Nat) (b : S26) (B : Option Addr) (d : Nat) (w : World), mu a b < n → checkI a = 0 → checkI b = 0 → IsT w (.agg #[.int .i8 a.f0, .slice A a.f1.length c]) a → IsT w (.agg #[.int .i8 b.f0, .slice B b.f1.length d]) b →
  Calls Try.prog 66 #[.agg #[.func (Fn.func 88) #[] #[], .bool false, .func (Fn.func 67) #[] #[]], .agg #[.int .i8 a.f0, .slice A a.f1.length c, .int .i8 b.f0, .slice B b.f1.length d]] w (BPost (bel 0 a b) w) ∧
  Calls Try.prog 66 #[.agg #[.func (Fn.func 91) #[] #[], .bool false, .func (Fn.func 72) #[] #[]], .agg #[.int .i8 a.f0, .slice A a.f1.length c, .int .i8 b.f0, .slice B b.f1.length d]] w (BPost (bel 1 a b) w) ∧
  Calls Try.prog 66 #[.agg #[.func (Fn.func 92) #[] #[], .bool true, .func (Fn.func 70) #[] #[]], .agg #[.int .i8 a.f0, .slice A a.f1.length c, .int .i8 b.f0, .slice B b.f1.length d]] w (BPost (bel 2 a b) w)
set_option maxRecDepth 100000 in
set_option maxHeartbeats 1600000 in
theorem up88 (n : Nat) (a : S26) (A : Option Addr) (c : Nat) (k1 : Int) (B : Option Addr) (n1 d : Nat) (w : World) (IH : Aside0 (H3 n)) (HM : Aside0 (mu a (groundS a) < n)) (HC : Aside0 (checkI a = 0)) (HZ : Aside0 (a.f0 ≠ 0)) (T0 : Aside0 (IsT w (.agg #[.int .i8 a.f0, .slice A a.f1.length c]) a)) :
    Calls Try.prog 88 #[.agg #[.int .i8 a.f0, .slice A a.f1.length c, .int .i8 k1, .slice B n1 d], .agg #[.func (Fn.func 88) #[] #[], .bool false, .func (Fn.func 67) #[] #[]]] w (BPost (bel 0 a (groundS a)) w) := by
  go_enter Try.func88, Try.ntmps88
  go_wp2_with fail
  have hW := below2 w #[.int .i8 a.f0, .slice A a.f1.length c, .int .i8 k1, .slice B n1 d] #[.func (Fn.func 88) #[] #[], .bool false, .func (Fn.func 67) #[] #[]] 78 65
  have k1' := blk_alloc (heap_alloc_new w (.cells #[.int .i8 a.f0, .slice A a.f1.length c, .int .i8 k1, .slice B n1 d] 78)) (.cells #[.func (Fn.func 88) #[] #[], .bool false, .func (Fn.func 67) #[] #[]] 65)
  have k2' := new2 w (.cells #[.int .i8 a.f0, .slice A a.f1.length c, .int .i8 k1, .slice B n1 d] 78) #[.func (Fn.func 88) #[] #[], .bool false, .func (Fn.func 67) #[] #[]] 65
  generalize (w.alloc (.cells #[.int .i8 a.f0, .slice A a.f1.length c, .int .i8 k1, .slice B n1 d] 78)).alloc (.cells #[.func (Fn.func 88) #[] #[], .bool false, .func (Fn.func 67) #[] #[]] 65) = W at *
  replace T0 := Aside0.mk (IsT.below T0.out hW)
  have HB := Aside0.mk hW
  have ok : ∀ w' : World, Below W.heap.size W w' → (w'.cell? ⟨w.heap.size, 0, none⟩ = some (.int .i8 a.f0) ∧ w'.cell? ⟨w.heap.size, 1, none⟩ = some (.slice A a.f1.length c) ∧ w'.cell? ⟨w.heap.size, 2, none⟩ = some (.int .i8 k1) ∧ w'.cell? ⟨w.heap.size, 3, none⟩ = some (.slice B n1 d) ∧ w'.cell? ⟨w.heap.size + 1, 0, none⟩ = some (.func (Fn.func 88) #[] #[]) ∧ w'.cell? ⟨w.heap.size + 1, 1, none⟩ = some (.bool false) ∧ w'.cell? ⟨w.heap.size + 1, 2, none⟩ = some (.func (Fn.func 67) #[] #[])) := fun w' h =>
    ⟨pw_cell_below h ((blk_cell k1' 0).trans rfl), pw_cell_below h ((blk_cell k1' 1).trans rfl), pw_cell_below h ((blk_cell k1' 2).trans rfl), pw_cell_below h ((blk_cell k1' 3).trans rfl), pw_cell_below h ((blk_cell k2' 0).trans rfl), pw_cell_below h ((blk_cell k2' 1).trans rfl), pw_cell_below h ((blk_cell k2' 2).trans rfl)⟩
  have OK := Aside0.mk ok
  have HBW := Aside0.mk (Below.refl W.heap.size W)
  clear ok k1' k2' hW
  go_region_held3 (fun w' => (w'.cell? ⟨w.heap.size, 0, none⟩ = some (.int .i8 a.f0) ∧ w'.cell? ⟨w.heap.size, 1, none⟩ = some (.slice A a.f1.length c) ∧ w'.cell? ⟨w.heap.size, 2, none⟩ = some (.int .i8 k1) ∧ w'.cell? ⟨w.heap.size, 3, none⟩ = some (.slice B n1 d) ∧ w'.cell? ⟨w.heap.size + 1, 0, none⟩ = some (.func (Fn.func 88) #[] #[]) ∧ w'.cell? ⟨w.heap.size + 1, 1, none⟩ = some (.bool false) ∧ w'.cell? ⟨w.heap.size + 1, 2, none⟩ = some (.func (Fn.func 67) #[] #[])))
    (first | exact OK.out _ HBW.out | exact OK.out _ HBW.out.drew | exact OK.out _ HB2.out | exact OK.out _ HB3.out)
    (first
      | (go_at_call 89; refine (pairground_calls HC.out HZ.out (T0.out.below HBW.out.drew)).mono ?_; rintro e w2 ⟨G, cg, rfl, ht, hB⟩; have HB2 := Aside0.mk (below_then HBW.out.drew HBW.out.drew.size hB); have TG := Aside0.mk ht; clear hB ht)
      | (go_at_call 66; refine (IH.out _ _ _ _ _ _ _ HM.out HC.out (check_ground HC.out) (T0.out.below HB2.out) TG.out).1.mono ?_; rintro e w3 ⟨rfl, hB⟩; have HB3 := Aside0.mk (below_then HB2.out HB2.out.size hB); clear hB))
  go_wp2_with fail
  go_ret
  exact ⟨rfl, below_then HB.out HB.out.size HB3.out⟩
set_option maxRecDepth 100000 in
set_option maxHeartbeats 1600000 in
theorem up92 (n : Nat) (a : S26) (A : Option Addr) (c : Nat) (k1 : Int) (B : Option Addr) (n1 d : Nat) (w : World) (IH : Aside0 (H3 n)) (HM : Aside0 (mu a (groundS a) < n)) (HC : Aside0 (checkI a = 0)) (HZ : Aside0 (a.f0 ≠ 0)) (T0 : Aside0 (IsT w (.agg #[.int .i8 a.f0, .slice A a.f1.length c]) a)) :
    Calls Try.prog 92 #[.agg #[.int .i8 a.f0, .slice A a.f1.length c, .int .i8 k1, .slice B n1 d], .agg #[.func (Fn.func 92) #[] #[], .bool true, .func (Fn.func 70) #[] #[]]] w (BPost (bel 2 a (groundS a)) w) := by
  go_enter Try.func92, Try.ntmps92
  go_wp2_with fail
  have hW := below2 w #[.int .i8 a.f0, .slice A a.f1.length c, .int .i8 k1, .slice B n1 d] #[.func (Fn.func 92) #[] #[], .bool true, .func (Fn.func 70) #[] #[]] 78 65
  have k1' := blk_alloc (heap_alloc_new w (.cells #[.int .i8 a.f0, .slice A a.f1.length c, .int .i8 k1, .slice B n1 d] 78)) (.cells #[.func (Fn.func 92) #[] #[], .bool true, .func (Fn.func 70) #[] #[]] 65)
  have k2' := new2 w (.cells #[.int .i8 a.f0, .slice A a.f1.length c, .int .i8 k1, .slice B n1 d] 78) #[.func (Fn.func 92) #[] #[], .bool true, .func (Fn.func 70) #[] #[]] 65
  generalize (w.alloc (.cells #[.int .i8 a.f0, .slice A a.f1.length c, .int .i8 k1, .slice B n1 d] 78)).alloc (.cells #[.func (Fn.func 92) #[] #[], .bool true, .func (Fn.func 70) #[] #[]] 65) = W at *
  replace T0 := Aside0.mk (IsT.below T0.out hW)
  have HB := Aside0.mk hW
  have ok : ∀ w' : World, Below W.heap.size W w' → (w'.cell? ⟨w.heap.size, 0, none⟩ = some (.int .i8 a.f0) ∧ w'.cell? ⟨w.heap.size, 1, none⟩ = some (.slice A a.f1.length c) ∧ w'.cell? ⟨w.heap.size, 2, none⟩ = some (.int .i8 k1) ∧ w'.cell? ⟨w.heap.size, 3, none⟩ = some (.slice B n1 d) ∧ w'.cell? ⟨w.heap.size + 1, 0, none⟩ = some (.func (Fn.func 92) #[] #[]) ∧ w'.cell? ⟨w.heap.size + 1, 1, none⟩ = some (.bool true) ∧ w'.cell? ⟨w.heap.size + 1, 2, none⟩ = some (.func (Fn.func 70) #[] #[])) := fun w' h =>
    ⟨pw_cell_below h ((blk_cell k1' 0).trans rfl), pw_cell_below h ((blk_cell k1' 1).trans rfl), pw_cell_below h ((blk_cell k1' 2).trans rfl), pw_cell_below h ((blk_cell k1' 3).trans rfl), pw_cell_below h ((blk_cell k2' 0).trans rfl), pw_cell_below h ((blk_cell k2' 1).trans rfl), pw_cell_below h ((blk_cell k2' 2).trans rfl)⟩
  have OK := Aside0.mk ok
  have HBW := Aside0.mk (Below.refl W.heap.size W)
  clear ok k1' k2' hW
  go_region_held3 (fun w' => (w'.cell? ⟨w.heap.size, 0, none⟩ = some (.int .i8 a.f0) ∧ w'.cell? ⟨w.heap.size, 1, none⟩ = some (.slice A a.f1.length c) ∧ w'.cell? ⟨w.heap.size, 2, none⟩ = some (.int .i8 k1) ∧ w'.cell? ⟨w.heap.size, 3, none⟩ = some (.slice B n1 d) ∧ w'.cell? ⟨w.heap.size + 1, 0, none⟩ = some (.func (Fn.func 92) #[] #[]) ∧ w'.cell? ⟨w.heap.size + 1, 1, none⟩ = some (.bool true) ∧ w'.cell? ⟨w.heap.size + 1, 2, none⟩ = some (.func (Fn.func 70) #[] #[])))
    (first | exact OK.out _ HBW.out | exact OK.out _ HBW.out.drew | exact OK.out _ HB2.out | exact OK.out _ HB3.out)
    (first
      | (go_at_call 89; refine (pairground_calls HC.out HZ.out (T0.out.below HBW.out.drew)).mono ?_; rintro e w2 ⟨G, cg, rfl, ht, hB⟩; have HB2 := Aside0.mk (below_then HBW.out.drew HBW.out.drew.size hB); have TG := Aside0.mk ht; clear hB ht)
      | (go_at_call 66; refine (IH.out _ _ _ _ _ _ _ HM.out HC.out (check_ground HC.out) (T0.out.below HB2.out) TG.out).2.2.mono ?_; rintro e w3 ⟨rfl, hB⟩; have HB3 := Aside0.mk (below_then HB2.out HB2.out.size hB); clear hB))
  go_wp2_with fail
  go_ret
  exact ⟨rfl, below_then HB.out HB.out.size HB3.out⟩
theorem up91 (a0 b0 : Int) (A B : Option Addr) (n0 n1 c d : Nat) (w : World) : Calls Try.prog 91 #[.agg #[.int .i8 a0, .slice A n0 c, .int .i8 b0, .slice B n1 d], .agg #[.func (Fn.func 91) #[] #[], .bool false, .func (Fn.func 72) #[] #[]]] w (BPost true w) := by
  go_enter Try.func91, Try.ntmps91
  go_wp2_with fail
  go_ret
  exact ⟨rfl, below2 ..⟩
theorem eq76 (a b c d : Int) (w : World) : (Op.equalIn 10000 76 (.agg #[.int .i8 a, .int .i8 b]) (.agg #[.int .i8 c, .int .i8 d])).run Try.prog w = .ok (a == c && b == d) w := by
  have u3 := Try.underlying23
  have a3 := Try.isAgg23
  have z3 := Try.sizeOf23
  rw [show (10000 : Nat) = 9999 + 1 from rfl, Op.equalIn]
  simp only [Sem.run_bind, run_underlying Try.underlying76, Result.andThen_ok]
  simp only [Std.Legacy.Range.forIn_eq_forIn_range', Std.Legacy.Range.size, Nat.sub_zero, Nat.add_sub_cancel, Nat.div_one, List.range'_succ, List.range'_zero, List.forIn_cons, List.forIn_nil]
  go_simp
  by_cases h1 : a = c <;> by_cases h2 : b = d <;> simp [h1, h2]
attribute [local go_sem] eq76
set_option maxHeartbeats 800000 in
theorem h0_zz (k0 k1 : Int) (A B : Option Addr) (n0 n1 c d : Nat) (w : World) (z0 : (k0 == 0) = true) (z1 : (k1 == 0) = true) :
    Calls Try.prog 66 #[.agg #[.func (Fn.func 88) #[] #[], .bool false, .func (Fn.func 67) #[] #[]], .agg #[.int .i8 k0, .slice A n0 c, .int .i8 k1, .slice B n1 d]] w (BPost true w) := by
  try subst l0
  go_enter Try.func66, Try.ntmps66
  go_wp2_with fail
  go_ret
  exact ⟨rfl, below3 ..⟩
set_option maxHeartbeats 800000 in
theorem h0_z (k0 k1 : Int) (A B : Option Addr) (n0 n1 c d : Nat) (w : World) (z0 : (k0 == 0) = true) (z1 : (k1 == 0) = false) :
    Calls Try.prog 66 #[.agg #[.func (Fn.func 88) #[] #[], .bool false, .func (Fn.func 67) #[] #[]], .agg #[.int .i8 k0, .slice A n0 c, .int .i8 k1, .slice B n1 d]] w (BPost false w) := by
  try subst l0
  go_enter Try.func66, Try.ntmps66
  go_wp2_with fail
  go_ret
  exact ⟨rfl, below3 ..⟩
set_option maxHeartbeats 800000 in
theorem h0_ne (k0 k1 : Int) (A B : Option Addr) (n0 n1 c d : Nat) (w : World) (z0 : (k0 == 0) = false) (z1 : (k1 == 0) = false) (ne : (k0 != k1) = true) :
    Calls Try.prog 66 #[.agg #[.func (Fn.func 88) #[] #[], .bool false, .func (Fn.func 67) #[] #[]], .agg #[.int .i8 k0, .slice A n0 c, .int .i8 k1, .slice B n1 d]] w (BPost false w) := by
  try subst l0
  go_enter Try.func66, Try.ntmps66
  go_wp2_with fail
  go_ret
  exact ⟨rfl, below3 ..⟩
set_option maxHeartbeats 800000 in
theorem h0_leaf (k0 k1 : Int) (A B : Option Addr) (n0 n1 c d : Nat) (w : World) (z0 : (k0 == 0) = false) (z1 : (k1 == 0) = false) (ne : (k0 != k1) = false) (l0 : n0 = 0) :
    Calls Try.prog 66 #[.agg #[.func (Fn.func 88) #[] #[], .bool false, .func (Fn.func 67) #[] #[]], .agg #[.int .i8 k0, .slice A n0 c, .int .i8 k1, .slice B n1 d]] w (BPost true w) := by
  try subst l0
  go_enter Try.func66, Try.ntmps66
  go_wp2_with fail
  go_ret
  exact ⟨rfl, below3 ..⟩
set_option maxHeartbeats 800000 in
theorem h1_zz (k0 k1 : Int) (A B : Option Addr) (n0 n1 c d : Nat) (w : World) (z0 : (k0 == 0) = true) (z1 : (k1 == 0) = true) :
    Calls Try.prog 66 #[.agg #[.func (Fn.func 91) #[] #[], .bool false, .func (Fn.func 72) #[] #[]], .agg #[.int .i8 k0, .slice A n0 c, .int .i8 k1, .slice B n1 d]] w (BPost true w) := by
  try subst l0
  go_enter Try.func66, Try.ntmps66
  go_wp2_with fail
  go_ret
  exact ⟨rfl, below3 ..⟩
set_option maxHeartbeats 800000 in
theorem h1_z (k0 k1 : Int) (A B : Option Addr) (n0 n1 c d : Nat) (w : World) (z0 : (k0 == 0) = true) (z1 : (k1 == 0) = false) :
    Calls Try.prog 66 #[.agg #[.func (Fn.func 91) #[] #[], .bool false, .func (Fn.func 72) #[] #[]], .agg #[.int .i8 k0, .slice A n0 c, .int .i8 k1, .slice B n1 d]] w (BPost false w) := by
  try subst l0
  go_enter Try.func66, Try.ntmps66
  go_wp2_with fail
  go_ret
  exact ⟨rfl, below3 ..⟩
set_option maxHeartbeats 800000 in
theorem h1_ne (k0 k1 : Int) (A B : Option Addr) (n0 n1 c d : Nat) (w : World) (z0 : (k0 == 0) = false) (z1 : (k1 == 0) = false) (ne : (k0 != k1) = true) :
    Calls Try.prog 66 #[.agg #[.func (Fn.func 91) #[] #[], .bool false, .func (Fn.func 72) #[] #[]], .agg #[.int .i8 k0, .slice A n0 c, .int .i8 k1, .slice B n1 d]] w (BPost false w) := by
  try subst l0
  go_enter Try.func66, Try.ntmps66
  go_wp2_with fail
  go_ret
  exact ⟨rfl, below3 ..⟩
set_option maxHeartbeats 800000 in
theorem h1_leaf (k0 k1 : Int) (A B : Option Addr) (n0 n1 c d : Nat) (w : World) (z0 : (k0 == 0) = false) (z1 : (k1 == 0) = false) (ne : (k0 != k1) = false) (l0 : n0 = 0) :
    Calls Try.prog 66 #[.agg #[.func (Fn.func 91) #[] #[], .bool false, .func (Fn.func 72) #[] #[]], .agg #[.int .i8 k0, .slice A n0 c, .int .i8 k1, .slice B n1 d]] w (BPost true w) := by
  try subst l0
  go_enter Try.func66, Try.ntmps66
  go_wp2_with fail
  go_ret
  exact ⟨rfl, below3 ..⟩
set_option maxHeartbeats 800000 in
theorem h2_zz (k0 k1 : Int) (A B : Option Addr) (n0 n1 c d : Nat) (w : World) (z0 : (k0 == 0) = true) (z1 : (k1 == 0) = true) :
    Calls Try.prog 66 #[.agg #[.func (Fn.func 92) #[] #[], .bool true, .func (Fn.func 70) #[] #[]], .agg #[.int .i8 k0, .slice A n0 c, .int .i8 k1, .slice B n1 d]] w (BPost true w) := by
  try subst l0
  go_enter Try.func66, Try.ntmps66
  go_wp2_with fail
  go_ret
  exact ⟨rfl, below3 ..⟩
set_option maxHeartbeats 800000 in
theorem h2_z (k0 k1 : Int) (A B : Option Addr) (n0 n1 c d : Nat) (w : World) (z0 : (k0 == 0) = true) (z1 : (k1 == 0) = false) :
    Calls Try.prog 66 #[.agg #[.func (Fn.func 92) #[] #[], .bool true, .func (Fn.func 70) #[] #[]], .agg #[.int .i8 k0, .slice A n0 c, .int .i8 k1, .slice B n1 d]] w (BPost true w) := by
  try subst l0
  go_enter Try.func66, Try.ntmps66
  go_wp2_with fail
  go_ret
  exact ⟨rfl, below3 ..⟩
set_option maxHeartbeats 800000 in
theorem h2_ne (k0 k1 : Int) (A B : Option Addr) (n0 n1 c d : Nat) (w : World) (z0 : (k0 == 0) = false) (z1 : (k1 == 0) = false) (ne : (k0 != k1) = true) :
    Calls Try.prog 66 #[.agg #[.func (Fn.func 92) #[] #[], .bool true, .func (Fn.func 70) #[] #[]], .agg #[.int .i8 k0, .slice A n0 c, .int .i8 k1, .slice B n1 d]] w (BPost false w) := by
  try subst l0
  go_enter Try.func66, Try.ntmps66
  go_wp2_with fail
  go_ret
  exact ⟨rfl, below3 ..⟩
set_option maxHeartbeats 800000 in
theorem h2_leaf (k0 k1 : Int) (A B : Option Addr) (n0 n1 c d : Nat) (w : World) (z0 : (k0 == 0) = false) (z1 : (k1 == 0) = false) (ne : (k0 != k1) = false) (l0 : n0 = 0) :
    Calls Try.prog 66 #[.agg #[.func (Fn.func 92) #[] #[], .bool true, .func (Fn.func 70) #[] #[]], .agg #[.int .i8 k0, .slice A n0 c, .int .i8 k1, .slice B n1 d]] w (BPost true w) := by
  try subst l0
  go_enter Try.func66, Try.ntmps66
  go_wp2_with fail
  go_ret
  exact ⟨rfl, below3 ..⟩
end Go.Proofs.Ytamhdpllmhafhaa.X
