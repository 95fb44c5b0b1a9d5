/- The contract of the law's helper opened: of a right type, a part of it made unknown. -/
import Derived.Test.YtamhdpllmhafhaaPureAgree
import Derived.Test.YtamhdpllmhafhaaHOf
import Derived.Test.YtamhdpllmhafhaaHKeep
namespace Go.Proofs.Ytamhdpllmhafhaa.X
open Go.RowKit Go.Proofs.YtamhdpllmhafhaaW.PrintWords Go.Proofs.YtamhdpllmhafhaaW.PrintLast Go.Proofs.YtamhdpllmhafhaaW.PrintMore
set_option linter.unusedVariables false
set_option linter.unusedSimpArgs false

def OpPost (t : S26) (w : World) (e : Ending) (w' : World) : Prop := ∃ v c m, e = .returned (.tuple #[v, .int .i64 m]) ∧ IsT w' v c ∧ Opens t c ∧ Below w.heap.size w w'
theorem blk_val {w w1 : World} {g : Nat} {o o' : Obj} (h : w.heap[g]? = some o) (e : o = o') : w.heap[g]? = some o' := e ▸ h
/-- A variable of two cells, stored anew. -/
theorem blk_two {w : World} {g : Nat} {t : TypeId} {a b a' b' : Value} (h : w.heap[g]? = some (.cells #[a, b] t (0, 0))) : ((w.setCell ⟨g, 0, none⟩ a').setCell ⟨g, 1, none⟩ b').heap[g]? = some (.cells #[a', b'] t (0, 0)) :=
  blk_put (blk_put h 0 a' (cs' := #[a', b]) (by simp)) 1 b' (by simp)
theorem blk_two_far {w : World} {g g' : Nat} {t : TypeId} {cs : Array Value} {a' b' : Value} (h : w.heap[g']? = some (.cells cs t (0, 0))) (hne : g' ≠ g) : ((w.setCell ⟨g, 0, none⟩ a').setCell ⟨g, 1, none⟩ b').heap[g']? = some (.cells cs t (0, 0)) :=
  blk_far (blk_far h hne _) hne _
theorem below_two {w w1 : World} {B g : Nat} {a' b' : Value} (h : Below B w w1) (hB : B ≤ g) : Below B w ((w1.setCell ⟨g, 0, none⟩ a').setCell ⟨g, 1, none⟩ b') := (h.setCell (p := ⟨g, 0, none⟩) hB a').setCell (p := ⟨g, 1, none⟩) hB b'

theorem C_four {w : World} {ad : Addr} {a b : S26} {Aa Ab : Option Addr} {ca cb : Nat} (h0 : w.cell? (ad.add 0) = some (.int .i8 a.f0)) (h1 : w.cell? (ad.add 1) = some (.slice Aa a.f1.length ca)) (h2 : w.cell? (ad.add 2) = some (.int .i8 b.f0)) (h3 : w.cell? (ad.add 3) = some (.slice Ab b.f1.length cb))
    (ha1 : a.f1.length ≤ ca) (hb1 : b.f1.length ≤ cb) (hca : Kd.C k26 w Aa a.f1.length a.f1) (hcb : Kd.C k26 w Ab b.f1.length b.f1) : Kd.C k26 w (some ad) 2 [a, b] := by
  refine ⟨rfl, by simp, fun _ => ⟨_, rfl, fun j p hj => ?_⟩⟩
  match j, hj with
  | 0, hj =>
    obtain rfl : a = p := by simpa using hj
    refine ⟨_, rfl, k26_mk w a ha1 hca, fun i u hu => ?_⟩
    match i, hu with
    | 0, hu => exact h0.trans hu
    | 1, hu => exact h1.trans hu
  | 1, hj =>
    obtain rfl : b = p := by simpa using hj
    refine ⟨_, rfl, k26_mk w b hb1 hcb, fun i u hu => ?_⟩
    match i, hu with
    | 0, hu => exact h2.trans hu
    | 1, hu => exact h3.trans hu
/-- A right type's parts never lie in a block of two cells: what is written there leaves it. -/
theorem IsT.far {w w' : World} {g : Nat} {p q : Value} {ty : TypeId} (hb : w.heap[g]? = some (.cells #[p, q] ty (0, 0))) (hk : ∀ b, b ≠ g → w'.heap[b]? = w.heap[b]?) {t : S26} (hr : rightB t = true) : ∀ {v : Value}, IsT w v t → IsT w' v t := by
  refine right_ind (P := fun t => ∀ {v : Value}, IsT w v t → IsT w' v t) (fun k hk v h => ?_) (fun k a b hk2 ha hb2 iha ihb v h => ?_) t hr
  · obtain ⟨A, c, rfl, h1, h2⟩ := h
    exact ⟨A, c, rfl, h1, ⟨rfl, by simp, fun h => absurd h (by simp)⟩⟩
  · obtain ⟨A, c, rfl, h1, h2⟩ := h
    obtain ⟨ad, B1, d1, hA, hx0, hx1, hl1, hi1⟩ := at_T26 h2 0 (by simp) (by simp)
    obtain ⟨ad', B2, d2, hA', hy0, hy1, hl2, hi2⟩ := at_T26 h2 1 (by simp) (by simp)
    obtain rfl : some ad = A := hA.symm
    obtain rfl : ad = ad' := by simpa using hA'
    have ra : rd_T26 [a, b] 0 = a := rfl
    have rb : rd_T26 [a, b] 1 = b := rfl
    simp only [ra, rb] at hx0 hx1 hy0 hy1 hl1 hl2 hi1 hi2
    have hne : ad.block ≠ g := by
      intro e
      have hc := blk_cell hb (ad.off + 3)
      simp [Addr.add] at hy1
      rw [← e] at hc
      rw [hc] at hy1
      simp at hy1
    obtain ⟨_, _, e1, _, k1⟩ := iha ⟨_, _, rfl, hl1, hi1⟩
    obtain ⟨_, _, e2, _, k2⟩ := ihb ⟨_, _, rfl, hl2, hi2⟩
    simp at e1 e2
    obtain ⟨rfl, rfl⟩ := e1
    obtain ⟨rfl, rfl⟩ := e2
    have move : ∀ n u, w.cell? (ad.add n) = some u → w'.cell? (ad.add n) = some u := fun n u h => (World.cell?_of_block (w := w) (by have e : (ad.add n).block = ad.block := (by unfold Addr.add; split <;> rfl); rw [e]; exact hk ad.block hne)).trans h
    exact ⟨some ad, c, rfl, h1, C_four (move 0 _ (by simpa [Addr.add] using hx0)) (move 1 _ (by simpa [Addr.add] using hx1)) (move 2 _ (by simpa [Addr.add] using hy0)) (move 3 _ (by simpa [Addr.add] using hy1)) hl1 hl2 k1 k2⟩
theorem two_kept (w : World) (g : Nat) (a' b' : Value) : ∀ b, b ≠ g → ((w.setCell ⟨g, 0, none⟩ a').setCell ⟨g, 1, none⟩ b').heap[b]? = w.heap[b]? := fun b h => (Below.heap_setCell _ _ _ _ h).trans (Below.heap_setCell _ _ _ _ h)

set_option maxRecDepth 100000 in
set_option maxHeartbeats 1600000 in
theorem opened_zero (t : S26) (v : Value) (w : World) (h : IsT w v t) : Calls Try.prog 40 #[v, .int .i64 0] w (OpPost t w) := by
  obtain ⟨A, c, rfl, h1, h2⟩ := h
  clear h1 h2
  go_enter Try.func40, Try.ntmps40
  go_wp2_with fail
  have k1 := new2 w (.cells #[.int .i8 t.f0, .slice A t.f1.length c] 26) #[.int .i8 0, .slice none 0 0] 26
  have e1 := blk_cell k1 0
  have e2 := blk_cell k1 1
  simp at e1 e2
  refine bodyPost_ret (v := .tuple #[.agg #[.int .i8 0, .slice none 0 0], .int .i64 (-1)]) (by simp [results, Try.results40, go_sem, e1, e2]) rfl ⟨_, _, _, rfl, IsT.zero _, .none t, below2 ..⟩
set_option maxRecDepth 100000 in
set_option maxHeartbeats 1600000 in
theorem opened_leaf (k : Int) (v : Value) (w : World) (s : Int) (hs : s ≠ 0) (h : IsT w v ⟨k, []⟩) : Calls Try.prog 40 #[v, .int .i64 s] w (OpPost ⟨k, []⟩ w) := by
  have T0 := Aside0.mk h
  obtain ⟨A, c, rfl, h1, h2⟩ := h
  have d : (s == 0) = false := by simp [hs]
  clear h1 h2 hs
  go_enter Try.func40, Try.ntmps40
  go_wp2_with fail
  have k1 := new2 w (.cells #[.int .i8 k, .slice A 0 c] 26) #[.int .i8 k, .slice A 0 c] 26
  have e1 := blk_cell k1 0
  have e2 := blk_cell k1 1
  simp at e1 e2
  refine bodyPost_ret (v := .tuple #[.agg #[.int .i8 k, .slice A 0 c], .int .i64 (wrap64 (s - 1))]) (by simp [results, Try.results40, go_sem, e1, e2]) rfl ⟨_, _, _, rfl, T0.out.below (below2 ..), .same _, below2 ..⟩
set_option maxRecDepth 100000 in
set_option maxHeartbeats 1600000 in
theorem opened_node (k : Int) (a b : S26) (v : Value) (w : World) (s : Int) (hs : s ≠ 0) (hk : nodeK k) (RA : Aside0 (rightB a = true)) (RB : Aside0 (rightB b = true)) (h : IsT w v ⟨k, [a, b]⟩)
    (iha : Aside0 (∀ v w s, IsT w v a → Calls Try.prog 40 #[v, .int .i64 s] w (OpPost a w))) (ihb : Aside0 (∀ v w s, IsT w v b → Calls Try.prog 40 #[v, .int .i64 s] w (OpPost b w))) :
    Calls Try.prog 40 #[v, .int .i64 s] w (OpPost ⟨k, [a, b]⟩ w) := by
  obtain ⟨A, c, rfl, h1, h2⟩ := h
  have h2' := h2
  obtain ⟨ad, B1, d1, hA, hx0, hx1, hl1, hi1⟩ := at_T26 h2 0 (by simp) (by simp)
  obtain ⟨ad', B2, dd, hA', hy0, hy1, hl2, hi2⟩ := at_T26 h2 1 (by simp) (by simp)
  obtain rfl : some ad = A := hA.symm
  obtain rfl : ad = ad' := by simpa using hA'
  have ra : rd_T26 [a, b] 0 = a := rfl
  have rb : rd_T26 [a, b] 1 = b := rfl
  simp only [ra, rb] at hx0 hx1 hy0 hy1 hl1 hl2 hi1 hi2
  have TA := Aside0.mk (IsT.mk (k := a.f0) hl1 hi1)
  have TB := Aside0.mk (IsT.mk (k := b.f0) hl2 hi2)
  rw [S26.eta] at TA TB
  have hlt := World.block_lt_of_cell? w _ hx0
  have d : (s == 0) = false := by simp [hs]
  simp [Addr.add] at hx0 hx1 hy0 hy1 hlt
  clear h1 h2 h2' hA hA' hi1 hi2 hl1 hl2 hs
  have hkA := Aside0.mk hk
  clear hk
  by_cases hg : 0 ≤ wrap64 (s - 1)
  · have d2 : decide (0 ≤ wrap64 (s - 1)) = true := by simp [hg]
    clear hg
    go_enter Try.func40, Try.ntmps40
    go_wp2_with fail
    refine (iha.out _ _ _ (TA.out.below (below3 ..))).mono ?_
    rintro e w4 ⟨v1, x, m, rfl, hx, ho, hB⟩
    obtain ⟨Ax, cx, rfl, hl1, hc1⟩ := hx
    obtain ⟨b1, b2, b3, hB4⟩ := three_blocks hB
    have K1 := Aside0.mk b1
    have K2 := Aside0.mk b2
    have K3 := Aside0.mk b3
    have TX := Aside0.mk (IsT.mk (k := x.f0) hl1 hc1)
    rw [S26.eta] at TX
    have HO := Aside0.mk ho
    replace TB := Aside0.mk (IsT.below TB.out hB4)
    have HB4 := Aside0.mk hB4
    replace hy0 := pw_cell_below hB4 hy0
    replace hy1 := pw_cell_below hB4 hy1
    have q0 := hB4.size
    have e10 : w4.cell? ⟨w.heap.size, 0, none⟩ = some (.int .i8 k) := (blk_cell b1 0).trans rfl
    have e11 : w4.cell? ⟨w.heap.size, 1, none⟩ = some (.slice (some ad) 2 c) := (blk_cell b1 1).trans rfl
    have e30 : w4.cell? ⟨w.heap.size + 1 + 1, 0, none⟩ = some (.int .i8 a.f0) := (blk_cell b3 0).trans rfl
    have e31 : w4.cell? ⟨w.heap.size + 1 + 1, 1, none⟩ = some (.slice B1 a.f1.length d1) := (blk_cell b3 1).trans rfl
    have z30 := blk_frozen b3 0
    have z31 := blk_frozen b3 1
    have q3 := blk_lt b3
    have q1 : w.heap.size < w4.heap.size := by omega
    have q2 : w.heap.size + 1 < w4.heap.size := by omega
    clear hx0 hx1 hB hB4 b1 b2 b3 hl1 hc1 ho d d2 TA
    by_cases hg : 0 ≤ m
    · have d2 : decide (0 ≤ m) = true := by simp [hg]
      clear hg
      go_wp2_with fail
      have RX := Aside0.mk (HO.out.right RA.out).1
      have k1 := blk_alloc (blk_two_far (a' := .int .i8 x.f0) (b' := .slice Ax x.f1.length cx) K1.out (g := w.heap.size + 1 + 1) (by omega)) (.cells #[.int .i8 b.f0, .slice B2 b.f1.length dd] 26)
      have k2 := blk_alloc (blk_two_far (a' := .int .i8 x.f0) (b' := .slice Ax x.f1.length cx) K2.out (g := w.heap.size + 1 + 1) (by omega)) (.cells #[.int .i8 b.f0, .slice B2 b.f1.length dd] 26)
      have k3 := blk_alloc (blk_two (a' := .int .i8 x.f0) (b' := .slice Ax x.f1.length cx) K3.out) (.cells #[.int .i8 b.f0, .slice B2 b.f1.length dd] 26)
      have k4 := heap_alloc_new ((w4.setCell ⟨w.heap.size + 1 + 1, 0, none⟩ (.int .i8 x.f0)).setCell ⟨w.heap.size + 1 + 1, 1, none⟩ (.slice Ax x.f1.length cx)) (.cells #[.int .i8 b.f0, .slice B2 b.f1.length dd] 26)
      have hTX := (IsT.far K3.out (two_kept w4 (w.heap.size + 1 + 1) (.int .i8 x.f0) (.slice Ax x.f1.length cx)) RX.out TX.out).below (below1 _ #[.int .i8 b.f0, .slice B2 b.f1.length dd] 26)
      have hTB := (IsT.far K3.out (two_kept w4 (w.heap.size + 1 + 1) (.int .i8 x.f0) (.slice Ax x.f1.length cx)) RB.out TB.out).below (below1 _ #[.int .i8 b.f0, .slice B2 b.f1.length dd] 26)
      have hHB := (below_two (a' := .int .i8 x.f0) (b' := .slice Ax x.f1.length cx) HB4.out (g := w.heap.size + 1 + 1) (by omega)).alloc (by simpa using q0) (.cells #[.int .i8 b.f0, .slice B2 b.f1.length dd] 26)
      clear e10 e11 e30 e31 z30 z31 hy0 hy1 K1 K2 K3 TX TB HB4
      have hn : ((w4.setCell ⟨w.heap.size + 1 + 1, 0, none⟩ (.int .i8 x.f0)).setCell ⟨w.heap.size + 1 + 1, 1, none⟩ (.slice Ax x.f1.length cx)).heap.size = w4.heap.size := by simp
      rw [hn] at k4
      clear hn
      generalize (((w4.setCell ⟨w.heap.size + 1 + 1, 0, none⟩ (.int .i8 x.f0)).setCell ⟨w.heap.size + 1 + 1, 1, none⟩ (.slice Ax x.f1.length cx)).alloc (.cells #[.int .i8 b.f0, .slice B2 b.f1.length dd] 26)) = W5 at *
      generalize w4.heap.size = n4 at *
      have K1 := Aside0.mk k1
      have K2 := Aside0.mk k2
      have K3 := Aside0.mk k3
      have K4 := Aside0.mk k4
      have TX := Aside0.mk hTX
      have TB := Aside0.mk hTB
      have HB5 := Aside0.mk hHB
      clear k1 k2 k3 k4 hTX hTB hHB
      refine (ihb.out _ _ _ TB.out).mono ?_
      rintro e w6 ⟨v2, y, m2, rfl, hy, ho2, hB⟩
      obtain ⟨Ay, cy, rfl, hl1, hc1⟩ := hy
      have TY := Aside0.mk (IsT.mk (k := y.f0) hl1 hc1)
      rw [S26.eta] at TY
      have HO2 := Aside0.mk ho2
      have RY := Aside0.mk (ho2.right RB.out).1
      replace K1 := Aside0.mk (blk_below K1.out hB)
      replace K2 := Aside0.mk (blk_below K2.out hB)
      replace K3 := Aside0.mk (blk_below K3.out hB)
      replace K4 := Aside0.mk (blk_below K4.out hB)
      replace TX := Aside0.mk (IsT.below TX.out hB)
      have HB6 := Aside0.mk (below_then HB5.out HB5.out.size hB)
      have q6 := blk_lt K4.out
      clear hl1 hc1 hB ho2 d2 TB
      have e10 : w6.cell? ⟨w.heap.size, 0, none⟩ = some (.int .i8 k) := (blk_cell K1.out 0).trans rfl
      have e30 : w6.cell? ⟨w.heap.size + 1 + 1, 0, none⟩ = some (.int .i8 x.f0) := (blk_cell K3.out 0).trans rfl
      have e31 : w6.cell? ⟨w.heap.size + 1 + 1, 1, none⟩ = some (.slice Ax x.f1.length cx) := (blk_cell K3.out 1).trans rfl
      have e40 : w6.cell? ⟨n4, 0, none⟩ = some (.int .i8 b.f0) := (blk_cell K4.out 0).trans rfl
      have e41 : w6.cell? ⟨n4, 1, none⟩ = some (.slice B2 b.f1.length dd) := (blk_cell K4.out 1).trans rfl
      have z40 := blk_frozen K4.out 0
      have z41 := blk_frozen K4.out 1
      go_wp2_with fail
      have TX' := Aside0.mk (IsT.far K4.out (two_kept w6 n4 (.int .i8 y.f0) (.slice Ay y.f1.length cy)) RX.out TX.out)
      have TY' := Aside0.mk (IsT.far K4.out (two_kept w6 n4 (.int .i8 y.f0) (.slice Ay y.f1.length cy)) RY.out TY.out)
      have k2 := blk_two_far (a' := .int .i8 y.f0) (b' := .slice Ay y.f1.length cy) K2.out (g := n4) (by omega)
      have HB7 := Aside0.mk (below_two (a' := .int .i8 y.f0) (b' := .slice Ay y.f1.length cy) HB6.out (g := n4) (by omega))
      have K2e := Aside0.mk k2
      clear k2
      refine (Of_calls TX'.out TY'.out).mono ?_
      rintro e w8 ⟨v3, rfl, ht, hB⟩
      have RT := Aside0.mk (((Opens.two hkA.out HO.out HO2.out).right (by rw [right_two _ _ _ hkA.out, RA.out, RB.out]; rfl)).1)
      obtain ⟨A3, c3, rfl, hl1, hc1⟩ := ht
      have TT := Aside0.mk (IsT.mk (k := k) hl1 hc1)
      replace K2e := Aside0.mk (blk_below K2e.out hB)
      have HB8 := Aside0.mk (below_then HB7.out HB7.out.size hB)
      clear hl1 hc1 hB
      have e20 : w8.cell? ⟨w.heap.size + 1, 0, none⟩ = some (.int .i8 0) := (blk_cell K2e.out 0).trans rfl
      have e21 : w8.cell? ⟨w.heap.size + 1, 1, none⟩ = some (.slice none 0 0) := (blk_cell K2e.out 1).trans rfl
      have z20 := blk_frozen K2e.out 0
      have z21 := blk_frozen K2e.out 1
      go_wp2_with fail
      have k9 := blk_two (a' := .int .i8 k) (b' := .slice A3 2 c3) K2e.out
      have e1 := blk_cell k9 0
      have e2 := blk_cell k9 1
      simp at e1 e2
      refine bodyPost_ret (v := .tuple #[.agg #[.int .i8 k, .slice A3 2 c3], .int .i64 m2]) (by simp [results, Try.results40, go_sem, e1, e2]) rfl ⟨_, ⟨k, [x, y]⟩, _, rfl, IsT.far K2e.out (two_kept w8 (w.heap.size + 1) (.int .i8 k) (.slice A3 2 c3)) RT.out TT.out, .two hkA.out HO.out HO2.out, below_two HB8.out (by omega)⟩
    · have d2 : decide (0 ≤ m) = false := by simp [hg]
      clear hg
      go_wp2_with fail
      have RX := Aside0.mk (HO.out.right RA.out).1
      have k1 := blk_alloc (blk_two_far (a' := .int .i8 x.f0) (b' := .slice Ax x.f1.length cx) K1.out (g := w.heap.size + 1 + 1) (by omega)) (.cells #[.int .i8 b.f0, .slice B2 b.f1.length dd] 26)
      have k2 := blk_alloc (blk_two_far (a' := .int .i8 x.f0) (b' := .slice Ax x.f1.length cx) K2.out (g := w.heap.size + 1 + 1) (by omega)) (.cells #[.int .i8 b.f0, .slice B2 b.f1.length dd] 26)
      have k3 := blk_alloc (blk_two (a' := .int .i8 x.f0) (b' := .slice Ax x.f1.length cx) K3.out) (.cells #[.int .i8 b.f0, .slice B2 b.f1.length dd] 26)
      have k4 := heap_alloc_new ((w4.setCell ⟨w.heap.size + 1 + 1, 0, none⟩ (.int .i8 x.f0)).setCell ⟨w.heap.size + 1 + 1, 1, none⟩ (.slice Ax x.f1.length cx)) (.cells #[.int .i8 b.f0, .slice B2 b.f1.length dd] 26)
      have hTX := (IsT.far K3.out (two_kept w4 (w.heap.size + 1 + 1) (.int .i8 x.f0) (.slice Ax x.f1.length cx)) RX.out TX.out).below (below1 _ #[.int .i8 b.f0, .slice B2 b.f1.length dd] 26)
      have hTB := (IsT.far K3.out (two_kept w4 (w.heap.size + 1 + 1) (.int .i8 x.f0) (.slice Ax x.f1.length cx)) RB.out TB.out).below (below1 _ #[.int .i8 b.f0, .slice B2 b.f1.length dd] 26)
      have hHB := (below_two (a' := .int .i8 x.f0) (b' := .slice Ax x.f1.length cx) HB4.out (g := w.heap.size + 1 + 1) (by omega)).alloc (by simpa using q0) (.cells #[.int .i8 b.f0, .slice B2 b.f1.length dd] 26)
      clear e10 e11 e30 e31 z30 z31 hy0 hy1 K1 K2 K3 TX TB HB4
      have hn : ((w4.setCell ⟨w.heap.size + 1 + 1, 0, none⟩ (.int .i8 x.f0)).setCell ⟨w.heap.size + 1 + 1, 1, none⟩ (.slice Ax x.f1.length cx)).heap.size = w4.heap.size := by simp
      rw [hn] at k4
      clear hn
      generalize (((w4.setCell ⟨w.heap.size + 1 + 1, 0, none⟩ (.int .i8 x.f0)).setCell ⟨w.heap.size + 1 + 1, 1, none⟩ (.slice Ax x.f1.length cx)).alloc (.cells #[.int .i8 b.f0, .slice B2 b.f1.length dd] 26)) = W5 at *
      generalize w4.heap.size = n4 at *
      have K1 := Aside0.mk k1
      have K2 := Aside0.mk k2
      have K3 := Aside0.mk k3
      have K4 := Aside0.mk k4
      have TX := Aside0.mk hTX
      have TB := Aside0.mk hTB
      have HB5 := Aside0.mk hHB
      clear k1 k2 k3 k4 hTX hTB hHB
      have k2 := K2.out
      have HB7 := HB5
      have HS := Aside0.mk (Opens.same b)
      have K2e := Aside0.mk k2
      clear k2
      refine (Of_calls TX.out TB.out).mono ?_
      rintro e w8 ⟨v3, rfl, ht, hB⟩
      have RT := Aside0.mk (((Opens.two hkA.out HO.out HS.out).right (by rw [right_two _ _ _ hkA.out, RA.out, RB.out]; rfl)).1)
      obtain ⟨A3, c3, rfl, hl1, hc1⟩ := ht
      have TT := Aside0.mk (IsT.mk (k := k) hl1 hc1)
      replace K2e := Aside0.mk (blk_below K2e.out hB)
      have HB8 := Aside0.mk (below_then HB7.out HB7.out.size hB)
      clear hl1 hc1 hB
      have e20 : w8.cell? ⟨w.heap.size + 1, 0, none⟩ = some (.int .i8 0) := (blk_cell K2e.out 0).trans rfl
      have e21 : w8.cell? ⟨w.heap.size + 1, 1, none⟩ = some (.slice none 0 0) := (blk_cell K2e.out 1).trans rfl
      have z20 := blk_frozen K2e.out 0
      have z21 := blk_frozen K2e.out 1
      go_wp2_with fail
      have k9 := blk_two (a' := .int .i8 k) (b' := .slice A3 2 c3) K2e.out
      have e1 := blk_cell k9 0
      have e2 := blk_cell k9 1
      simp at e1 e2
      refine bodyPost_ret (v := .tuple #[.agg #[.int .i8 k, .slice A3 2 c3], .int .i64 m]) (by simp [results, Try.results40, go_sem, e1, e2]) rfl ⟨_, ⟨k, [x, b]⟩, _, rfl, IsT.far K2e.out (two_kept w8 (w.heap.size + 1) (.int .i8 k) (.slice A3 2 c3)) RT.out TT.out, .two hkA.out HO.out HS.out, below_two HB8.out (by omega)⟩
  · have d2 : decide (0 ≤ wrap64 (s - 1)) = false := by simp [hg]
    clear hg
    have hlt1 : ad.block < w.heap.size + 1 := by omega
    have hlt2 : ad.block < w.heap.size + 1 + 1 := by omega
    go_enter Try.func40, Try.ntmps40
    go_wp2_with fail
    have k2 := blk_alloc (blk_alloc (new2 w (.cells #[.int .i8 k, .slice (some ad) 2 c] 26) #[.int .i8 0, .slice none 0 0] 26) (.cells #[.int .i8 a.f0, .slice B1 a.f1.length d1] 26)) (.cells #[.int .i8 b.f0, .slice B2 b.f1.length dd] 26)
    have HB7 := Aside0.mk ((below3 w #[.int .i8 k, .slice (some ad) 2 c] #[.int .i8 0, .slice none 0 0] #[.int .i8 a.f0, .slice B1 a.f1.length d1] 26 26 26).alloc (by simp; omega) (.cells #[.int .i8 b.f0, .slice B2 b.f1.length dd] 26))
    replace TA := Aside0.mk (IsT.below TA.out HB7.out)
    replace TB := Aside0.mk (IsT.below TB.out HB7.out)
    have HS := Aside0.mk (Opens.same a)
    have HS2 := Aside0.mk (Opens.same b)
    clear hx0 hx1 hy0 hy1
    have K2e := Aside0.mk k2
    clear k2
    refine (Of_calls TA.out TB.out).mono ?_
    rintro e w8 ⟨v3, rfl, ht, hB⟩
    have RT := Aside0.mk (((Opens.two hkA.out HS.out HS2.out).right (by rw [right_two _ _ _ hkA.out, RA.out, RB.out]; rfl)).1)
    obtain ⟨A3, c3, rfl, hl1, hc1⟩ := ht
    have TT := Aside0.mk (IsT.mk (k := k) hl1 hc1)
    replace K2e := Aside0.mk (blk_below K2e.out hB)
    have HB8 := Aside0.mk (below_then HB7.out HB7.out.size hB)
    clear hl1 hc1 hB
    have e20 : w8.cell? ⟨w.heap.size + 1, 0, none⟩ = some (.int .i8 0) := (blk_cell K2e.out 0).trans rfl
    have e21 : w8.cell? ⟨w.heap.size + 1, 1, none⟩ = some (.slice none 0 0) := (blk_cell K2e.out 1).trans rfl
    have z20 := blk_frozen K2e.out 0
    have z21 := blk_frozen K2e.out 1
    go_wp2_with fail
    have k9 := blk_two (a' := .int .i8 k) (b' := .slice A3 2 c3) K2e.out
    have e1 := blk_cell k9 0
    have e2 := blk_cell k9 1
    simp at e1 e2
    refine bodyPost_ret (v := .tuple #[.agg #[.int .i8 k, .slice A3 2 c3], .int .i64 (wrap64 (s - 1))]) (by simp [results, Try.results40, go_sem, e1, e2]) rfl ⟨_, ⟨k, [a, b]⟩, _, rfl, IsT.far K2e.out (two_kept w8 (w.heap.size + 1) (.int .i8 k) (.slice A3 2 c3)) RT.out TT.out, .two hkA.out HS.out HS2.out, below_two HB8.out (by omega)⟩
theorem opened_calls (n : Nat) : ∀ t : S26, nodes t < n → rightB t = true → ∀ v w s, IsT w v t → Calls Try.prog 40 #[v, .int .i64 s] w (OpPost t w) := by
  induction n with
  | zero => intro t h; omega
  | succ n ih =>
    intro t hn hr v w s h
    by_cases hs : s = 0
    · subst hs; exact opened_zero t v w h
    · rcases right_cases hr with ⟨k, hk, rfl⟩ | ⟨k, a, b, hk, ha, hb, rfl⟩
      · exact opened_leaf k v w s hs h
      · rw [nodes_two] at hn
        have := nodes_pos a
        have := nodes_pos b
        exact opened_node k a b v w s hs hk (Aside0.mk ha) (Aside0.mk hb) h (Aside0.mk (ih a (by omega) ha)) (Aside0.mk (ih b (by omega) hb))
end Go.Proofs.Ytamhdpllmhafhaa.X
