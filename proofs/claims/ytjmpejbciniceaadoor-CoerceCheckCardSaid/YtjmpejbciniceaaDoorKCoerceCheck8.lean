/- Texts of this claim, joined: HKeep, HFar, HReg, HCo4, HCo5, HCo6, HOf, HCo7, HCo8. -/
import Derived.Test.YtjmpejbciniceaaDoorKCoerceCheck1
import Derived.Test.YtjmpejbciniceaaDoorKCoerceCheck3
import Derived.Test.YtjmpejbciniceaaDoorKCoerceCheck5
import Derived.Test.YtjmpejbciniceaaDoorKCoerceCheck7
namespace Go.Proofs.YtjmpejbciniceaaDoor.X
open Go.ChangeShapes Go.WideShapes Go.ChangeAt Go.RowKit Go.Proofs.YtjmpejbciniceaaDoorW.PrintWords
set_option linter.unusedVariables false
theorem IsT.leaf (w : World) (k : Int) : IsT w (.agg #[.int .i8 k, .slice none 0 0]) ⟨k, []⟩ := ⟨none, 0, rfl, Nat.le_refl _, rfl, by simp, fun h => absurd h (by simp)⟩
theorem below1 (w : World) (a : Array Value) (ta : TypeId) : Below w.heap.size w (w.alloc (.cells a ta)) := (Below.refl _ _).alloc (Nat.le_refl _) _
theorem one_block {w : World} {a : Array Value} {ta : TypeId} {w1 : World} (hB : Below (w.alloc (.cells a ta)).heap.size (w.alloc (.cells a ta)) w1) :
    w1.heap[w.heap.size]? = some (.cells a ta (0, 0)) ∧ Below w.heap.size w w1 := by
  have h1 := heap_alloc_new w (.cells a ta)
  have hb : Below w.heap.size w (w.alloc (.cells a ta)) := (Below.refl _ _).alloc (Nat.le_refl _) _
  exact ⟨blk_below h1 hB, below_then hb hb.size hB⟩
theorem C_four {w : World} {ad : Addr} {a b : S43} {Aa Ab : Option Addr} {ca cb : Nat} (h0 : w.cell? (ad.add 0) = some (.int .i8 a.f0)) (h1 : w.cell? (ad.add 1) = some (.slice Aa a.f1.length ca)) (h2 : w.cell? (ad.add 2) = some (.int .i8 b.f0)) (h3 : w.cell? (ad.add 3) = some (.slice Ab b.f1.length cb))
    (ha1 : a.f1.length ≤ ca) (hb1 : b.f1.length ≤ cb) (hca : Kd.C k43 w Aa a.f1.length a.f1) (hcb : Kd.C k43 w Ab b.f1.length b.f1) : Kd.C k43 w (some ad) 2 [a, b] := by
  refine ⟨rfl, by simp, fun _ => ⟨_, rfl, fun j p hj => ?_⟩⟩
  match j, hj with
  | 0, hj =>
    obtain rfl : a = p := by simpa using hj
    refine ⟨_, rfl, k43_mk w a ha1 hca, fun i u hu => ?_⟩
    match i, hu with
    | 0, hu => exact h0.trans hu
    | 1, hu => exact h1.trans hu
  | 1, hj =>
    obtain rfl : b = p := by simpa using hj
    refine ⟨_, rfl, k43_mk w b hb1 hcb, fun i u hu => ?_⟩
    match i, hu with
    | 0, hu => exact h2.trans hu
    | 1, hu => exact h3.trans hu
theorem IsT.open2 {w : World} {v : Value} {k : Int} {x y : S43} (h : IsT w v ⟨k, [x, y]⟩) : ∃ (ad : Addr) (c : Nat) (Bx : Option Addr) (dx : Nat) (By : Option Addr) (dy : Nat), v = .agg #[.int .i8 k, .slice (some ad) 2 c] ∧
    (w.cell? ad = some (.int .i8 x.f0) ∧ w.cell? ⟨ad.block, ad.off + 1, none⟩ = some (.slice Bx x.f1.length dx) ∧ w.cell? ⟨ad.block, ad.off + 2, none⟩ = some (.int .i8 y.f0) ∧ w.cell? ⟨ad.block, ad.off + 2 + 1, none⟩ = some (.slice By y.f1.length dy)) ∧ IsT w (.agg #[.int .i8 x.f0, .slice Bx x.f1.length dx]) x ∧ IsT w (.agg #[.int .i8 y.f0, .slice By y.f1.length dy]) y ∧ ad.block < w.heap.size := by
  obtain ⟨A, c, rfl, h1, h2⟩ := h
  obtain ⟨ad, B1, d1, hA, hx0, hx1, hl1, hi1⟩ := at_T43 h2 0 (by simp) (by simp)
  obtain ⟨ad', B2, d2, hA', hy0, hy1, hl2, hi2⟩ := at_T43 h2 1 (by simp) (by simp)
  obtain rfl : some ad = A := hA.symm
  obtain rfl : ad = ad' := by simpa using hA'
  have ra : rd_T43 [x, y] 0 = x := rfl
  have rb : rd_T43 [x, y] 1 = y := rfl
  simp only [ra, rb] at hx0 hx1 hy0 hy1 hl1 hl2 hi1 hi2
  have hlt := World.block_lt_of_cell? w _ hx0
  simp [Addr.add] at hx0 hx1 hy0 hy1 hlt
  have TA := IsT.mk (k := x.f0) hl1 hi1
  have TB := IsT.mk (k := y.f0) hl2 hi2
  rw [S43.eta] at TA TB
  exact ⟨ad, c, B1, d1, B2, d2, rfl, ⟨hx0, hx1, hy0, hy1⟩, TA, TB, hlt⟩
theorem four_of {W w' : World} {ad : Addr} {x y : S43} {Bx By : Option Addr} {dx dy : Nat} (h : (W.cell? ad = some (.int .i8 x.f0) ∧ W.cell? ⟨ad.block, ad.off + 1, none⟩ = some (.slice Bx x.f1.length dx) ∧ W.cell? ⟨ad.block, ad.off + 2, none⟩ = some (.int .i8 y.f0) ∧ W.cell? ⟨ad.block, ad.off + 2 + 1, none⟩ = some (.slice By y.f1.length dy))) (hB : Below W.heap.size W w') : (w'.cell? ad = some (.int .i8 x.f0) ∧ w'.cell? ⟨ad.block, ad.off + 1, none⟩ = some (.slice Bx x.f1.length dx) ∧ w'.cell? ⟨ad.block, ad.off + 2, none⟩ = some (.int .i8 y.f0) ∧ w'.cell? ⟨ad.block, ad.off + 2 + 1, none⟩ = some (.slice By y.f1.length dy)) :=
  ⟨pw_cell_below hB h.1, pw_cell_below hB h.2.1, pw_cell_below hB h.2.2.1, pw_cell_below hB h.2.2.2⟩
end Go.Proofs.YtjmpejbciniceaaDoor.X
namespace Go.Proofs.YtjmpejbciniceaaDoor.X
open Go.RowKit Go.Proofs.YtjmpejbciniceaaDoorW.PrintWords Go.Proofs.YtjmpejbciniceaaDoorW.PrintLast Go.Proofs.YtjmpejbciniceaaDoorW.PrintMore
set_option linter.unusedVariables false
set_option linter.unusedSimpArgs false
theorem kept2 (w : World) (g : Nat) (a' b' : Value) : ∀ b, b ≠ g → ((w.setCell ⟨g, 0, none⟩ a').setCell ⟨g, 1, none⟩ b').heap[b]? = w.heap[b]? := fun b h => (Below.heap_setCell _ _ _ _ h).trans (Below.heap_setCell _ _ _ _ h)
theorem isT_far {w w' : World} {g : Nat} {p q : Value} {ty : TypeId} (hb : w.heap[g]? = some (.cells #[p, q] ty (0, 0))) (hk : ∀ b, b ≠ g → w'.heap[b]? = w.heap[b]?) {t : S43} (hr : rightB t = true) : ∀ {v : Value}, IsT w v t → IsT w' v t := by
  refine right_ind (P := fun t => ∀ {v : Value}, IsT w v t → IsT w' v t) (fun k hk v h => ?_) (fun k a b hk2 ha hb2 iha ihb v h => ?_) t hr
  · obtain ⟨A, c, rfl, h1, h2⟩ := h
    exact ⟨A, c, rfl, h1, ⟨rfl, by simp, fun h => absurd h (by simp)⟩⟩
  · obtain ⟨A, c, rfl, h1, h2⟩ := h
    obtain ⟨ad, B1, d1, hA, hx0, hx1, hl1, hi1⟩ := at_T43 h2 0 (by simp) (by simp)
    obtain ⟨ad', B2, d2, hA', hy0, hy1, hl2, hi2⟩ := at_T43 h2 1 (by simp) (by simp)
    obtain rfl : some ad = A := hA.symm
    obtain rfl : ad = ad' := by simpa using hA'
    have ra : rd_T43 [a, b] 0 = a := rfl
    have rb : rd_T43 [a, b] 1 = b := rfl
    simp only [ra, rb] at hx0 hx1 hy0 hy1 hl1 hl2 hi1 hi2
    have hne : ad.block ≠ g := by
      intro e
      have hc := blk_cell hb (ad.off + 3)
      simp [Addr.add] at hy1
      rw [← e] at hc
      rw [hc] at hy1
      simp at hy1
    obtain ⟨_, _, e1, _, k1⟩ := iha ⟨_, _, rfl, hl1, hi1⟩
    obtain ⟨_, _, e2, _, k2⟩ := ihb ⟨_, _, rfl, hl2, hi2⟩
    simp at e1 e2
    obtain ⟨rfl, rfl⟩ := e1
    obtain ⟨rfl, rfl⟩ := e2
    have move : ∀ n u, w.cell? (ad.add n) = some u → w'.cell? (ad.add n) = some u := fun n u h => (World.cell?_of_block (w := w) (by have e : (ad.add n).block = ad.block := (by unfold Addr.add; split <;> rfl); rw [e]; exact hk ad.block hne)).trans h
    exact ⟨some ad, c, rfl, h1, C_four (move 0 _ (by simpa [Addr.add] using hx0)) (move 1 _ (by simpa [Addr.add] using hx1)) (move 2 _ (by simpa [Addr.add] using hy0)) (move 3 _ (by simpa [Addr.add] using hy1)) hl1 hl2 k1 k2⟩
end Go.Proofs.YtjmpejbciniceaaDoor.X
namespace Go.Proofs.YtjmpejbciniceaaDoor.X
open Go.RowKit Go.Proofs.YtjmpejbciniceaaDoorW.PrintWords Go.Proofs.YtjmpejbciniceaaDoorW.PrintLast Go.Proofs.YtjmpejbciniceaaDoorW.PrintMore
set_option linter.unusedVariables false
set_option linter.unusedSimpArgs false
theorem blk_putf {w : World} {g : Nat} {o : Obj} (h : w.heap[g]? = some o) {p : Addr} {u : Value} (hp : g ≠ p.block) : (w.setCell p u).heap[g]? = some o := (Below.heap_setCell w p u g hp).trans h
theorem put_two {w : World} {g : Nat} {c0 c1 : Value} {t : TypeId} (h : w.heap[g]? = some (.cells #[c0, c1] t (0, 0))) (x0 x1 : Value) : ((w.setCell ⟨g, 0, none⟩ x0).setCell ⟨g, 1, none⟩ x1).heap[g]? = some (.cells #[x0, x1] t (0, 0)) :=
  blk_put (cs := #[x0, c1]) (blk_put h 0 _ rfl) 1 _ rfl
theorem put_two_far {w : World} {g k : Nat} {o : Obj} (h : w.heap[k]? = some o) (hk : k ≠ g) (x0 x1 : Value) : ((w.setCell ⟨g, 0, none⟩ x0).setCell ⟨g, 1, none⟩ x1).heap[k]? = some o :=
  blk_putf (blk_putf h hk) hk
def put2 (w : World) (g : Nat) (x y : Value) : World := (w.setCell ⟨g, 0, none⟩ x).setCell ⟨g, 1, none⟩ y
theorem far2 {w : World} {g b o : Nat} {v x y : Value} (h : w.cell? ⟨b, o, none⟩ = some v) (hb : b ≠ g) : (put2 w g x y).cell? ⟨b, o, none⟩ = some v := by
  unfold put2
  rw [World.cell?_setCell_far _ _ _ _ (by show g ≠ b; omega), World.cell?_setCell_far _ _ _ _ (by show g ≠ b; omega)]
  exact h
theorem kOwn {w w' : World} {g : Nat} {c0 c1 x y : Value} {t : TypeId} (hp : w' = put2 w g x y) (h : w.heap[g]? = some (.cells #[c0, c1] t (0, 0))) : w'.heap[g]? = some (.cells #[x, y] t (0, 0)) := hp ▸ put_two h x y
theorem kFar {w w' : World} {g k : Nat} {o : Obj} {x y : Value} (hp : w' = put2 w g x y) (h : w.heap[k]? = some o) (hk : k ≠ g) : w'.heap[k]? = some o := hp ▸ put_two_far h hk x y
theorem tFar {w w' : World} {g : Nat} {c0 c1 x y : Value} (hp : w' = put2 w g x y) (hb : w.heap[g]? = some (.cells #[c0, c1] 43 (0, 0))) {t : S43} (hr : rightB t = true) {v : Value} (h : IsT w v t) : IsT w' v t := hp ▸ isT_far hb (kept2 w g x y) hr h
theorem bFar {B : Nat} {w w1 w' : World} {g : Nat} {x y : Value} (hp : w' = put2 w1 g x y) (h : Below B w w1) (hg : B ≤ g) : Below B w w' := hp ▸ (h.setCell (p := ⟨g, 0, none⟩) hg x).setCell (p := ⟨g, 1, none⟩) hg y
theorem retK {fn : Func} {R : Ending → World → Prop} {a : Act} {w : World} {g1 g2 : Nat} {x1 y1 x2 y2 v4 : Value} (h1 : w.heap[g1]? = some (.cells #[x1, y1] 43 (0, 0))) (h2 : w.heap[g2]? = some (.cells #[x2, y2] 43 (0, 0)))
    (hR : R (.returned (.tuple #[.agg #[x1, y1], .agg #[x2, y2], v4])) w) (hf : fn.results = #[.cell 2 43, .cell 3 43, .tmp 4] := by rfl) (ha : a.tmps.getD 2 undef = .pointer (some ⟨g1, 0, none⟩) := by rfl) (hb : a.tmps.getD 3 undef = .pointer (some ⟨g2, 0, none⟩) := by rfl) (hv : a.tmps.getD 4 undef = v4 := by rfl) (hd : a.defers = [] := by rfl) :
    bodyPost Tryd.prog fn R .ret a w := by
  subst hv
  exact bodyPost_ret (results_list (rs := [.cell 2 43, .cell 3 43, .tmp 4]) hf (by simp) (.cell g1 43 _ (0, 0) _ ha h1 Tryd.underlying43 rfl (by kernel_rfl) (.cell g2 43 _ (0, 0) _ hb h2 Tryd.underlying43 rfl (by kernel_rfl) (.tmp .nil)))) hd hR
section
variable {ops : Array Oper} {Q : Exit → Act → World → Prop} {md : Region.Mode} {S : World → Prop}
theorem sK (i : Nat) {oi : Oper} {fuel : Nat} {listed : Array Bool} {a : Act} {w : World} {g : Nat} {c0 c1 : Value} {k : Int} {A : Option Addr} {n c : Nat} {p q : Operand}
    (hb : w.heap[g]? = some (.cells #[c0, c1] 43 (0, 0))) (hS : S (put2 w g (.int .i8 k) (.slice A n c))) (h : ∀ w', S w' → w' = put2 w g (.int .i8 k) (.slice A n c) → wpAnyH Tryd.prog md ops Q S fuel (listed.setIfInBounds i true) a w')
    (hi : ops[i]? = some oi := by rfl) (hd : oi.dst = none := by rfl) (ho : oi.op = .store 43 p q := by rfl) (hp : a.eval p = .pointer (some ⟨g, 0, none⟩) := by rfl) (hq : a.eval q = .agg #[.int .i8 k, .slice A n c] := by rfl)
    (hr : Region.ready md ops listed = [i] := by kernel_rfl) (hw : Region.wanted oi (yielded ops a.tmps) = true := by rfl) : wpAnyH Tryd.prog md ops Q S (fuel + 1) listed a w := by
  have c0' := (blk_cell hb 0).trans rfl
  have c1' := (blk_cell hb 1).trans rfl
  have z0 := blk_frozen hb 0
  have z1 := blk_frozen hb 1
  simp at c0' c1'
  have hx : (execOp a.eval oi).run Tryd.prog w = .ok .skip (put2 w g (.int .i8 k) (.slice A n c)) := by
    unfold put2
    cases oi with
    | mk d o t ps af gu =>
      simp only at ho
      subst ho
      simp only [execOp, hp, hq]
      go_simp
  refine wpAnyH_ready hr (by simp) (AllReadyH.cons hi (fun K hK => ?_) AllReadyH.nil)
  rw [if_pos hw]
  unfold Oper.wp
  rw [hx]
  simp only [Oper.upon, hd]
  exact hK.out _ _ hS (fun hS' => h _ hS' rfl)
end
theorem three (w : World) (o0 o1 o2 : Obj) : (((w.alloc o0).alloc o1).alloc o2).heap[w.heap.size]? = some o0 ∧ (((w.alloc o0).alloc o1).alloc o2).heap[w.heap.size + 1]? = some o1 ∧ (((w.alloc o0).alloc o1).alloc o2).heap[w.heap.size + 2]? = some o2 ∧ Below w.heap.size w (((w.alloc o0).alloc o1).alloc o2) :=
  ⟨blk_alloc (blk_alloc (heap_alloc_new w o0) o1) o2, by have := blk_alloc (heap_alloc_new (w.alloc o0) o1) o2; simpa using this, by have := heap_alloc_new ((w.alloc o0).alloc o1) o2; simpa using this, (((Below.refl _ _).alloc (Nat.le_refl _) _).alloc (by simp) _).alloc (by simp; omega) _⟩
theorem retP {fn : Func} {R : Ending → World → Prop} {a : Act} {w : World} {g1 g2 : Nat} {c0 c1 d0 d1 x1 y1 x2 y2 v4 : Value} (h1 : w.heap[g1]? = some (.cells #[c0, c1] 43 (0, 0))) (h2 : w.heap[g2]? = some (.cells #[d0, d1] 43 (0, 0))) (hne : g1 ≠ g2)
    (hR : R (.returned (.tuple #[.agg #[x1, y1], .agg #[x2, y2], v4])) (put2 (put2 w g1 x1 y1) g2 x2 y2)) (hf : fn.results = #[.cell 2 43, .cell 3 43, .tmp 4] := by rfl) (ha : a.tmps.getD 2 undef = .pointer (some ⟨g1, 0, none⟩) := by rfl) (hb : a.tmps.getD 3 undef = .pointer (some ⟨g2, 0, none⟩) := by rfl) (hv : a.tmps.getD 4 undef = v4 := by rfl) (hd : a.defers = [] := by rfl) :
    bodyPost Tryd.prog fn R .ret a ((((w.setCell ⟨g1, 0, none⟩ x1).setCell ⟨g1, 1, none⟩ y1).setCell ⟨g2, 0, none⟩ x2).setCell ⟨g2, 1, none⟩ y2) :=
  retK (put_two_far (put_two h1 x1 y1) hne x2 y2) (put_two (put_two_far h2 (Ne.symm hne) x1 y1) x2 y2) hR hf ha hb hv hd
end Go.Proofs.YtjmpejbciniceaaDoor.X
namespace Go.Proofs.YtjmpejbciniceaaDoor.X
open Go.RowKit Go.Proofs.YtjmpejbciniceaaDoorW.PrintWords Go.Proofs.YtjmpejbciniceaaDoorW.PrintLast Go.Proofs.YtjmpejbciniceaaDoorW.PrintMore
set_option linter.unusedVariables false
set_option linter.unusedSimpArgs false
theorem check_ends {x : S54} (h : cocheckI x = 0) : (endsC x).isSome = true := by
  unfold cocheckI at h
  split at h
  · simp at h
  · split at h
    · simp at h
    · cases hx : endsC x with
      | none => rw [hx] at h; simp at h
      | some v => rfl
theorem typed_calls (k : Int) (w : World) : Calls Tryd.prog 97 #[.int .i8 k] w fun e w' => e = .returned (.bool (leafB k)) ∧ Below w.heap.size w w' := (lychgateref15_typed.calls k _ w (typed_is k)).mono fun _ _ h => ⟨h.1, h.2.below⟩
theorem toed_calls (k : Int) (w : World) : Calls Tryd.prog 98 #[.int .i8 k] w fun e w' => e = .returned (.bool (decide (k = 1))) ∧ Below w.heap.size w w' := (lychgateref15_toed.calls k _ w (toed_is k)).mono fun _ _ h => ⟨h.1, h.2.below⟩
theorem labelled_calls (k : Int) (w : World) : Calls Tryd.prog 99 #[.int .i8 k] w fun e w' => e = .returned (.bool (decide (k = 1) || decide (k = 3))) ∧ Below w.heap.size w w' := (lychgateref15_labelled.calls k _ w (labelled_is k)).mono fun _ _ h => ⟨h.1, h.2.below⟩
theorem kid_at {w : World} {A : Option Addr} {n : Nat} {xs : List S54} (h : Kd.C k54 w A n xs) (i : Int) (h0 : 0 ≤ i) (h1 : i < n) {x : S54} (hx : rd_T54 xs i = x) : ∃ ad A2 c2 A4 c4 A7 c7, A = some ad ∧ (w.cell? (ad.add (i.toNat * 8)) = some (.int .i8 x.f0) ∧ w.cell? ⟨(ad.add (i.toNat * 8)).block, (ad.add (i.toNat * 8)).off + 1, none⟩ = some (.int .i8 x.f1.f0) ∧ w.cell? ⟨(ad.add (i.toNat * 8)).block, (ad.add (i.toNat * 8)).off + 2, none⟩ = some (.slice A2 x.f1.f1.length c2) ∧ w.cell? ⟨(ad.add (i.toNat * 8)).block, (ad.add (i.toNat * 8)).off + 3, none⟩ = some (.int .i8 x.f2.f0) ∧ w.cell? ⟨(ad.add (i.toNat * 8)).block, (ad.add (i.toNat * 8)).off + 4, none⟩ = some (.slice A4 x.f2.f1.length c4) ∧ w.cell? ⟨(ad.add (i.toNat * 8)).block, (ad.add (i.toNat * 8)).off + 5, none⟩ = some (.int .i64 x.f3) ∧ w.cell? ⟨(ad.add (i.toNat * 8)).block, (ad.add (i.toNat * 8)).off + 6, none⟩ = some (.bool x.f4) ∧ w.cell? ⟨(ad.add (i.toNat * 8)).block, (ad.add (i.toNat * 8)).off + 7, none⟩ = some (.slice A7 x.f5.length c7)) ∧
    IsC w (.agg #[.int .i8 x.f0, .int .i8 x.f1.f0, .slice A2 x.f1.f1.length c2, .int .i8 x.f2.f0, .slice A4 x.f2.f1.length c4, .int .i64 x.f3, .bool x.f4, .slice A7 x.f5.length c7]) x := by
  obtain ⟨ad, A2, c2, A4, c4, A7, c7, e, k0, k1, k2, k3, k4, k5, k6, k7, l1, l2, l3, l4, l5, l6⟩ := at_T54 h i h0 h1
  rw [hx] at k0 k1 k2 k3 k4 k5 k6 k7 l1 l2 l3 l4 l5 l6
  exact ⟨ad, A2, c2, A4, c4, A7, c7, e, ⟨k0, k1, k2, k3, k4, k5, k6, k7⟩, A2, c2, A4, c4, A7, c7, rfl, l1, l2, l3, l4, l5, l6⟩
def CheckPost (x : S54) (w : World) (e : Ending) (w' : World) : Prop := ∃ va vb ta tb, e = .returned (.tuple #[va, vb, .int .i64 (cocheckI x)]) ∧ IsT w' va ta ∧ IsT w' vb tb ∧ (cocheckI x = 0 → endsC x = some (ta, tb)) ∧ (cocheckI x ≠ 0 → ta = z43 ∧ tb = z43) ∧ Below w.heap.size w w'
set_option maxRecDepth 100000 in
set_option maxHeartbeats 3200000 in
theorem rright_calls (HC : Aside0 (∀ (x : S54) (v : Value) (w : World), IsC w v x → Calls Tryd.prog 17 #[v] w (CheckPost x w))) {x : S54} {v : Value} {w : World} (hx : IsC w v x) : Calls Tryd.prog 52 #[v] w (SaysB (decide (cocheckI x = 0)) w) := by
  have HX := Aside0.mk hx
  obtain ⟨A2, c2, A4, c4, A7, c7, rfl, -⟩ := hx
  have hB0 : Below w.heap.size w (w.alloc (.cells #[.int .i8 x.f0, .int .i8 x.f1.f0, .slice A2 x.f1.f1.length c2, .int .i8 x.f2.f0, .slice A4 x.f2.f1.length c4, .int .i64 x.f3, .bool x.f4, .slice A7 x.f5.length c7] 54)) := (Below.refl _ _).alloc (Nat.le_refl _) _
  have HW := Aside0.mk hB0
  replace HX := Aside0.mk (HX.out.below hB0)
  clear hB0
  go_enter Tryd.func52, Tryd.ntmps52
  go_wp2_with fail
  generalize w.alloc (.cells #[.int .i8 x.f0, .int .i8 x.f1.f0, .slice A2 x.f1.f1.length c2, .int .i8 x.f2.f0, .slice A4 x.f2.f1.length c4, .int .i64 x.f3, .bool x.f4, .slice A7 x.f5.length c7] 54) = wa at *
  refine (HC.out x _ _ HX.out).mono ?_
  rintro e w1 ⟨va, vb, ta, tb, rfl, hta, htb, -, -, hB⟩
  obtain ⟨P, p, rfl, -⟩ := hta
  obtain ⟨Q, q, rfl, -⟩ := htb
  replace HW := Aside0.mk (below_then HW.out HW.out.size hB)
  clear hB HX
  go_wp2_with fail
  go_ret
  exact ⟨rfl, (HW.out.alloc HW.out.size _).alloc (by simp; have := HW.out.size; omega) _⟩
end Go.Proofs.YtjmpejbciniceaaDoor.X
namespace Go.Proofs.YtjmpejbciniceaaDoor.X
open Go.RowKit Go.Proofs.YtjmpejbciniceaaDoorW.PrintWords Go.Proofs.YtjmpejbciniceaaDoorW.PrintLast Go.Proofs.YtjmpejbciniceaaDoorW.PrintMore
set_option linter.unusedVariables false
set_option linter.unusedSimpArgs false
def EndsPost (x : S54) (w : World) (e : Ending) (w' : World) : Prop := ∃ va vb ta tb, e = .returned (.tuple #[va, vb, .bool (endsC x).isSome]) ∧ IsT w' va ta ∧ IsT w' vb tb ∧ ((endsC x).isSome = true → endsC x = some (ta, tb)) ∧ rightB ta = true ∧ rightB tb = true ∧ Below w.heap.size w w'
set_option maxRecDepth 100000 in
set_option maxHeartbeats 3200000 in
theorem rcheck_calls (HE : Aside0 (∀ (x : S54) (v : Value) (w : World), IsC w v x → Calls Tryd.prog 50 #[v] w (EndsPost x w))) {x : S54} {v : Value} {w : World} (hx : IsC w v x) : Calls Tryd.prog 17 #[v] w (CheckPost x w) := by
  have HX := Aside0.mk hx
  obtain ⟨A2, c2, A4, c4, A7, c7, rfl, -⟩ := hx
  have hB0 : Below w.heap.size w (((w.alloc (.cells #[.int .i8 x.f0, .int .i8 x.f1.f0, .slice A2 x.f1.f1.length c2, .int .i8 x.f2.f0, .slice A4 x.f2.f1.length c4, .int .i64 x.f3, .bool x.f4, .slice A7 x.f5.length c7] 54)).alloc (.cells #[.int .i8 0, .slice none 0 0] 43)).alloc (.cells #[.int .i8 0, .slice none 0 0] 43)) := (((Below.refl _ _).alloc (Nat.le_refl _) _).alloc (by simp) _).alloc (by simp; omega) _
  have K0 := Aside0.mk (blk_alloc (blk_alloc (heap_alloc_new w (.cells #[.int .i8 x.f0, .int .i8 x.f1.f0, .slice A2 x.f1.f1.length c2, .int .i8 x.f2.f0, .slice A4 x.f2.f1.length c4, .int .i64 x.f3, .bool x.f4, .slice A7 x.f5.length c7] 54)) (.cells #[.int .i8 0, .slice none 0 0] 43)) (.cells #[.int .i8 0, .slice none 0 0] 43))
  have K1 : Aside0 ((((w.alloc (.cells #[.int .i8 x.f0, .int .i8 x.f1.f0, .slice A2 x.f1.f1.length c2, .int .i8 x.f2.f0, .slice A4 x.f2.f1.length c4, .int .i64 x.f3, .bool x.f4, .slice A7 x.f5.length c7] 54)).alloc (.cells #[.int .i8 0, .slice none 0 0] 43)).alloc (.cells #[.int .i8 0, .slice none 0 0] 43)).heap[w.heap.size + 1]? = some (.cells #[.int .i8 0, .slice none 0 0] 43 (0, 0))) := .mk (by have := blk_alloc (heap_alloc_new (w.alloc (.cells #[.int .i8 x.f0, .int .i8 x.f1.f0, .slice A2 x.f1.f1.length c2, .int .i8 x.f2.f0, .slice A4 x.f2.f1.length c4, .int .i64 x.f3, .bool x.f4, .slice A7 x.f5.length c7] 54)) (.cells #[.int .i8 0, .slice none 0 0] 43)) (.cells #[.int .i8 0, .slice none 0 0] 43); simpa using this)
  have K2 : Aside0 ((((w.alloc (.cells #[.int .i8 x.f0, .int .i8 x.f1.f0, .slice A2 x.f1.f1.length c2, .int .i8 x.f2.f0, .slice A4 x.f2.f1.length c4, .int .i64 x.f3, .bool x.f4, .slice A7 x.f5.length c7] 54)).alloc (.cells #[.int .i8 0, .slice none 0 0] 43)).alloc (.cells #[.int .i8 0, .slice none 0 0] 43)).heap[w.heap.size + 2]? = some (.cells #[.int .i8 0, .slice none 0 0] 43 (0, 0))) := .mk (by have := heap_alloc_new ((w.alloc (.cells #[.int .i8 x.f0, .int .i8 x.f1.f0, .slice A2 x.f1.f1.length c2, .int .i8 x.f2.f0, .slice A4 x.f2.f1.length c4, .int .i64 x.f3, .bool x.f4, .slice A7 x.f5.length c7] 54)).alloc (.cells #[.int .i8 0, .slice none 0 0] 43)) (.cells #[.int .i8 0, .slice none 0 0] 43); simpa using this)
  have HW := Aside0.mk hB0
  replace HX := Aside0.mk (HX.out.below hB0)
  clear hB0
  by_cases h1 : 8192 < cnodes x
  · have hr : cocheckI x = 32 := by unfold cocheckI; rw [if_pos h1]
    go_enter Tryd.func17, Tryd.ntmps17
    go_wp2_with fail
    generalize ((w.alloc (.cells #[.int .i8 x.f0, .int .i8 x.f1.f0, .slice A2 x.f1.f1.length c2, .int .i8 x.f2.f0, .slice A4 x.f2.f1.length c4, .int .i64 x.f3, .bool x.f4, .slice A7 x.f5.length c7] 54)).alloc (.cells #[.int .i8 0, .slice none 0 0] 43)).alloc (.cells #[.int .i8 0, .slice none 0 0] 43) = wa at *
    refine (rcount_calls HX.out).mono ?_
    rintro e w1 ⟨⟨r, rfl, hr0, hr1⟩, hB⟩
    replace K0 := Aside0.mk (blk_below K0.out hB)
    replace K1 := Aside0.mk (blk_below K1.out hB)
    replace K2 := Aside0.mk (blk_below K2.out hB)
    replace HX := Aside0.mk (HX.out.below hB)
    replace HW := Aside0.mk (below_then HW.out HW.out.size hB)
    clear hB
    have hgt : decide (8192 < r) = true := decide_eq_true (hr1 h1)
    clear hr0 hr1 h1
    have c0 := (blk_cell K1.out 0).trans rfl
    have c1 := (blk_cell K1.out 1).trans rfl
    have z0 := blk_frozen K1.out 0
    have z1 := blk_frozen K1.out 1
    simp at c0 c1
    have d0 := (blk_cell K2.out 0).trans rfl
    have d1 := (blk_cell K2.out 1).trans rfl
    have y0 := blk_frozen K2.out 0
    have y1 := blk_frozen K2.out 1
    simp at d0 d1
    go_wp2_with fail
    exact bodyPost_ret (results_list (rs := [.cell 2 43, .cell 3 43, .tmp 4]) rfl (by simp) (.cell (w.heap.size + 1) 43 _ (0, 0) _ rfl (put_two_far (put_two K1.out _ _) (by omega) _ _) Tryd.underlying43 rfl (by kernel_rfl) (.cell (w.heap.size + 2) 43 _ (0, 0) _ rfl (put_two (put_two_far K2.out (by omega) _ _) _ _) Tryd.underlying43 rfl (by kernel_rfl) (.tmp .nil)))) rfl ⟨(.agg #[.int .i8 0, .slice none 0 0]), (.agg #[.int .i8 0, .slice none 0 0]), z43, z43, by first | (rw [hr]; rfl) | rw [hr], IsT.zero _, IsT.zero _, fun h => absurd (hr.symm.trans h) (by decide), fun _ => ⟨rfl, rfl⟩, (((HW.out.setCell (Nat.le_add_right _ 1) _).setCell (Nat.le_add_right _ 1) _).setCell (Nat.le_add_right _ 2) _).setCell (Nat.le_add_right _ 2) _⟩
  · by_cases h2 : 200 < cdepth x
    · have hr : cocheckI x = 31 := by unfold cocheckI; rw [if_neg h1, if_pos h2]
      go_enter Tryd.func17, Tryd.ntmps17
      go_wp2_with fail
      generalize ((w.alloc (.cells #[.int .i8 x.f0, .int .i8 x.f1.f0, .slice A2 x.f1.f1.length c2, .int .i8 x.f2.f0, .slice A4 x.f2.f1.length c4, .int .i64 x.f3, .bool x.f4, .slice A7 x.f5.length c7] 54)).alloc (.cells #[.int .i8 0, .slice none 0 0] 43)).alloc (.cells #[.int .i8 0, .slice none 0 0] 43) = wa at *
      refine (rcount_calls HX.out).mono ?_
      rintro e w1 ⟨⟨r, rfl, hr0, hr1⟩, hB⟩
      replace K0 := Aside0.mk (blk_below K0.out hB)
      replace K1 := Aside0.mk (blk_below K1.out hB)
      replace K2 := Aside0.mk (blk_below K2.out hB)
      replace HX := Aside0.mk (HX.out.below hB)
      replace HW := Aside0.mk (below_then HW.out HW.out.size hB)
      clear hB
      have hgt : decide (8192 < r) = false := decide_eq_false (by have := hr0 (by omega); omega)
      clear hr0 hr1
      have b0 := (blk_cell K0.out 0).trans rfl
      have b1 := (blk_cell K0.out 1).trans rfl
      have b2 := (blk_cell K0.out 2).trans rfl
      have b3 := (blk_cell K0.out 3).trans rfl
      have b4 := (blk_cell K0.out 4).trans rfl
      have b5 := (blk_cell K0.out 5).trans rfl
      have b6 := (blk_cell K0.out 6).trans rfl
      have b7 := (blk_cell K0.out 7).trans rfl
      simp at b0 b1 b2 b3 b4 b5 b6 b7
      go_wp2_with fail
      clear b0 b1 b2 b3 b4 b5 b6 b7
      refine (rdeep_calls HX.out (by omega)).mono ?_
      rintro e w2 ⟨rfl, hB⟩
      replace K0 := Aside0.mk (blk_below K0.out hB)
      replace K1 := Aside0.mk (blk_below K1.out hB)
      replace K2 := Aside0.mk (blk_below K2.out hB)
      replace HX := Aside0.mk (HX.out.below hB)
      replace HW := Aside0.mk (below_then HW.out HW.out.size hB)
      clear hB
      have hgt2 : decide ((200 : Int) < min (cdepth x : Int) 201) = true := decide_eq_true (by omega)
      have c0 := (blk_cell K1.out 0).trans rfl
      have c1 := (blk_cell K1.out 1).trans rfl
      have z0 := blk_frozen K1.out 0
      have z1 := blk_frozen K1.out 1
      simp at c0 c1
      have d0 := (blk_cell K2.out 0).trans rfl
      have d1 := (blk_cell K2.out 1).trans rfl
      have y0 := blk_frozen K2.out 0
      have y1 := blk_frozen K2.out 1
      simp at d0 d1
      go_wp2_with fail
      exact bodyPost_ret (results_list (rs := [.cell 2 43, .cell 3 43, .tmp 4]) rfl (by simp) (.cell (w.heap.size + 1) 43 _ (0, 0) _ rfl (put_two_far (put_two K1.out _ _) (by omega) _ _) Tryd.underlying43 rfl (by kernel_rfl) (.cell (w.heap.size + 2) 43 _ (0, 0) _ rfl (put_two (put_two_far K2.out (by omega) _ _) _ _) Tryd.underlying43 rfl (by kernel_rfl) (.tmp .nil)))) rfl ⟨(.agg #[.int .i8 0, .slice none 0 0]), (.agg #[.int .i8 0, .slice none 0 0]), z43, z43, by first | (rw [hr]; rfl) | rw [hr], IsT.zero _, IsT.zero _, fun h => absurd (hr.symm.trans h) (by decide), fun _ => ⟨rfl, rfl⟩, (((HW.out.setCell (Nat.le_add_right _ 1) _).setCell (Nat.le_add_right _ 1) _).setCell (Nat.le_add_right _ 2) _).setCell (Nat.le_add_right _ 2) _⟩
    · cases hs : (endsC x).isSome with
      | false =>
        have hr : cocheckI x = 150 := by unfold cocheckI; rw [if_neg h1, if_neg h2]; cases hx : endsC x with
          | none => rfl
          | some v => rw [hx] at hs; simp at hs
        go_enter Tryd.func17, Tryd.ntmps17
        go_wp2_with fail
        generalize ((w.alloc (.cells #[.int .i8 x.f0, .int .i8 x.f1.f0, .slice A2 x.f1.f1.length c2, .int .i8 x.f2.f0, .slice A4 x.f2.f1.length c4, .int .i64 x.f3, .bool x.f4, .slice A7 x.f5.length c7] 54)).alloc (.cells #[.int .i8 0, .slice none 0 0] 43)).alloc (.cells #[.int .i8 0, .slice none 0 0] 43) = wa at *
        refine (rcount_calls HX.out).mono ?_
        rintro e w1 ⟨⟨r, rfl, hr0, hr1⟩, hB⟩
        replace K0 := Aside0.mk (blk_below K0.out hB)
        replace K1 := Aside0.mk (blk_below K1.out hB)
        replace K2 := Aside0.mk (blk_below K2.out hB)
        replace HX := Aside0.mk (HX.out.below hB)
        replace HW := Aside0.mk (below_then HW.out HW.out.size hB)
        clear hB
        have hgt : decide (8192 < r) = false := decide_eq_false (by have := hr0 (by omega); omega)
        clear hr0 hr1
        have b0 := (blk_cell K0.out 0).trans rfl
        have b1 := (blk_cell K0.out 1).trans rfl
        have b2 := (blk_cell K0.out 2).trans rfl
        have b3 := (blk_cell K0.out 3).trans rfl
        have b4 := (blk_cell K0.out 4).trans rfl
        have b5 := (blk_cell K0.out 5).trans rfl
        have b6 := (blk_cell K0.out 6).trans rfl
        have b7 := (blk_cell K0.out 7).trans rfl
        simp at b0 b1 b2 b3 b4 b5 b6 b7
        go_wp2_with fail
        clear b0 b1 b2 b3 b4 b5 b6 b7
        refine (rdeep_calls HX.out (by omega)).mono ?_
        rintro e w2 ⟨rfl, hB⟩
        replace K0 := Aside0.mk (blk_below K0.out hB)
        replace K1 := Aside0.mk (blk_below K1.out hB)
        replace K2 := Aside0.mk (blk_below K2.out hB)
        replace HX := Aside0.mk (HX.out.below hB)
        replace HW := Aside0.mk (below_then HW.out HW.out.size hB)
        clear hB
        have hgt2 : decide ((200 : Int) < min (cdepth x : Int) 201) = false := decide_eq_false (by omega)
        have b0 := (blk_cell K0.out 0).trans rfl
        have b1 := (blk_cell K0.out 1).trans rfl
        have b2 := (blk_cell K0.out 2).trans rfl
        have b3 := (blk_cell K0.out 3).trans rfl
        have b4 := (blk_cell K0.out 4).trans rfl
        have b5 := (blk_cell K0.out 5).trans rfl
        have b6 := (blk_cell K0.out 6).trans rfl
        have b7 := (blk_cell K0.out 7).trans rfl
        simp at b0 b1 b2 b3 b4 b5 b6 b7
        go_wp2_with fail
        clear b0 b1 b2 b3 b4 b5 b6 b7
        refine (HE.out x _ _ HX.out).mono ?_
        rintro e w3 ⟨va, vb, ta, tb, rfl, hta, htb, him, hra, hrb, hB⟩
        rw [hs] at him ⊢
        replace K0 := Aside0.mk (blk_below K0.out hB)
        replace K1 := Aside0.mk (blk_below K1.out hB)
        replace K2 := Aside0.mk (blk_below K2.out hB)
        replace HX := Aside0.mk (HX.out.below hB)
        replace HW := Aside0.mk (below_then HW.out HW.out.size hB)
        clear hB
        have hn3 := blk_lt K2.out
        have HTA := Aside0.mk hta
        have HTB := Aside0.mk htb
        obtain ⟨P, p, rfl, -⟩ := hta
        obtain ⟨Q, q, rfl, -⟩ := htb
        have hB : Below w3.heap.size w3 ((w3.alloc (.cells #[.int .i8 ta.f0, .slice P ta.f1.length p] 43)).alloc (.cells #[.int .i8 tb.f0, .slice Q tb.f1.length q] 43)) := ((Below.refl _ _).alloc (Nat.le_refl _) _).alloc (by simp) _
        have KA := Aside0.mk (blk_alloc (heap_alloc_new w3 (.cells #[.int .i8 ta.f0, .slice P ta.f1.length p] 43)) (.cells #[.int .i8 tb.f0, .slice Q tb.f1.length q] 43))
        have KB : Aside0 (((w3.alloc (.cells #[.int .i8 ta.f0, .slice P ta.f1.length p] 43)).alloc (.cells #[.int .i8 tb.f0, .slice Q tb.f1.length q] 43)).heap[w3.heap.size + 1]? = some (.cells #[.int .i8 tb.f0, .slice Q tb.f1.length q] 43 (0, 0))) := .mk (by have := heap_alloc_new (w3.alloc (.cells #[.int .i8 ta.f0, .slice P ta.f1.length p] 43)) (.cells #[.int .i8 tb.f0, .slice Q tb.f1.length q] 43); simpa using this)
        replace K0 := Aside0.mk (blk_below K0.out hB)
        replace K1 := Aside0.mk (blk_below K1.out hB)
        replace K2 := Aside0.mk (blk_below K2.out hB)
        replace HTA := Aside0.mk (HTA.out.below hB)
        replace HTB := Aside0.mk (HTB.out.below hB)
        replace HW := Aside0.mk (below_then HW.out HW.out.size hB)
        clear hB
        have c0 := (blk_cell K1.out 0).trans rfl
        have c1 := (blk_cell K1.out 1).trans rfl
        have z0 := blk_frozen K1.out 0
        have z1 := blk_frozen K1.out 1
        simp at c0 c1
        have d0 := (blk_cell K2.out 0).trans rfl
        have d1 := (blk_cell K2.out 1).trans rfl
        have y0 := blk_frozen K2.out 0
        have y1 := blk_frozen K2.out 1
        simp at d0 d1
        go_wp2_with fail
        exact bodyPost_ret (results_list (rs := [.cell 2 43, .cell 3 43, .tmp 4]) rfl (by simp) (.cell (w.heap.size + 1) 43 _ (0, 0) _ rfl (put_two_far (put_two K1.out _ _) (by omega) _ _) Tryd.underlying43 rfl (by kernel_rfl) (.cell (w.heap.size + 2) 43 _ (0, 0) _ rfl (put_two (put_two_far K2.out (by omega) _ _) _ _) Tryd.underlying43 rfl (by kernel_rfl) (.tmp .nil)))) rfl ⟨(.agg #[.int .i8 0, .slice none 0 0]), (.agg #[.int .i8 0, .slice none 0 0]), z43, z43, by first | (rw [hr]; rfl) | rw [hr], IsT.zero _, IsT.zero _, fun h => absurd (hr.symm.trans h) (by decide), fun _ => ⟨rfl, rfl⟩, (((HW.out.setCell (Nat.le_add_right _ 1) _).setCell (Nat.le_add_right _ 1) _).setCell (Nat.le_add_right _ 2) _).setCell (Nat.le_add_right _ 2) _⟩
      | true =>
        go_enter Tryd.func17, Tryd.ntmps17
        go_wp2_with fail
        generalize ((w.alloc (.cells #[.int .i8 x.f0, .int .i8 x.f1.f0, .slice A2 x.f1.f1.length c2, .int .i8 x.f2.f0, .slice A4 x.f2.f1.length c4, .int .i64 x.f3, .bool x.f4, .slice A7 x.f5.length c7] 54)).alloc (.cells #[.int .i8 0, .slice none 0 0] 43)).alloc (.cells #[.int .i8 0, .slice none 0 0] 43) = wa at *
        refine (rcount_calls HX.out).mono ?_
        rintro e w1 ⟨⟨r, rfl, hr0, hr1⟩, hB⟩
        replace K0 := Aside0.mk (blk_below K0.out hB)
        replace K1 := Aside0.mk (blk_below K1.out hB)
        replace K2 := Aside0.mk (blk_below K2.out hB)
        replace HX := Aside0.mk (HX.out.below hB)
        replace HW := Aside0.mk (below_then HW.out HW.out.size hB)
        clear hB
        have hgt : decide (8192 < r) = false := decide_eq_false (by have := hr0 (by omega); omega)
        clear hr0 hr1
        have b0 := (blk_cell K0.out 0).trans rfl
        have b1 := (blk_cell K0.out 1).trans rfl
        have b2 := (blk_cell K0.out 2).trans rfl
        have b3 := (blk_cell K0.out 3).trans rfl
        have b4 := (blk_cell K0.out 4).trans rfl
        have b5 := (blk_cell K0.out 5).trans rfl
        have b6 := (blk_cell K0.out 6).trans rfl
        have b7 := (blk_cell K0.out 7).trans rfl
        simp at b0 b1 b2 b3 b4 b5 b6 b7
        go_wp2_with fail
        clear b0 b1 b2 b3 b4 b5 b6 b7
        refine (rdeep_calls HX.out (by omega)).mono ?_
        rintro e w2 ⟨rfl, hB⟩
        replace K0 := Aside0.mk (blk_below K0.out hB)
        replace K1 := Aside0.mk (blk_below K1.out hB)
        replace K2 := Aside0.mk (blk_below K2.out hB)
        replace HX := Aside0.mk (HX.out.below hB)
        replace HW := Aside0.mk (below_then HW.out HW.out.size hB)
        clear hB
        have hgt2 : decide ((200 : Int) < min (cdepth x : Int) 201) = false := decide_eq_false (by omega)
        have b0 := (blk_cell K0.out 0).trans rfl
        have b1 := (blk_cell K0.out 1).trans rfl
        have b2 := (blk_cell K0.out 2).trans rfl
        have b3 := (blk_cell K0.out 3).trans rfl
        have b4 := (blk_cell K0.out 4).trans rfl
        have b5 := (blk_cell K0.out 5).trans rfl
        have b6 := (blk_cell K0.out 6).trans rfl
        have b7 := (blk_cell K0.out 7).trans rfl
        simp at b0 b1 b2 b3 b4 b5 b6 b7
        go_wp2_with fail
        clear b0 b1 b2 b3 b4 b5 b6 b7
        refine (HE.out x _ _ HX.out).mono ?_
        rintro e w3 ⟨va, vb, ta, tb, rfl, hta, htb, him, hra, hrb, hB⟩
        rw [hs] at him ⊢
        replace K0 := Aside0.mk (blk_below K0.out hB)
        replace K1 := Aside0.mk (blk_below K1.out hB)
        replace K2 := Aside0.mk (blk_below K2.out hB)
        replace HX := Aside0.mk (HX.out.below hB)
        replace HW := Aside0.mk (below_then HW.out HW.out.size hB)
        clear hB
        have hn3 := blk_lt K2.out
        have HTA := Aside0.mk hta
        have HTB := Aside0.mk htb
        obtain ⟨P, p, rfl, -⟩ := hta
        obtain ⟨Q, q, rfl, -⟩ := htb
        have hB : Below w3.heap.size w3 ((w3.alloc (.cells #[.int .i8 ta.f0, .slice P ta.f1.length p] 43)).alloc (.cells #[.int .i8 tb.f0, .slice Q tb.f1.length q] 43)) := ((Below.refl _ _).alloc (Nat.le_refl _) _).alloc (by simp) _
        have KA := Aside0.mk (blk_alloc (heap_alloc_new w3 (.cells #[.int .i8 ta.f0, .slice P ta.f1.length p] 43)) (.cells #[.int .i8 tb.f0, .slice Q tb.f1.length q] 43))
        have KB : Aside0 (((w3.alloc (.cells #[.int .i8 ta.f0, .slice P ta.f1.length p] 43)).alloc (.cells #[.int .i8 tb.f0, .slice Q tb.f1.length q] 43)).heap[w3.heap.size + 1]? = some (.cells #[.int .i8 tb.f0, .slice Q tb.f1.length q] 43 (0, 0))) := .mk (by have := heap_alloc_new (w3.alloc (.cells #[.int .i8 ta.f0, .slice P ta.f1.length p] 43)) (.cells #[.int .i8 tb.f0, .slice Q tb.f1.length q] 43); simpa using this)
        replace K0 := Aside0.mk (blk_below K0.out hB)
        replace K1 := Aside0.mk (blk_below K1.out hB)
        replace K2 := Aside0.mk (blk_below K2.out hB)
        replace HTA := Aside0.mk (HTA.out.below hB)
        replace HTB := Aside0.mk (HTB.out.below hB)
        replace HW := Aside0.mk (below_then HW.out HW.out.size hB)
        clear hB
        go_wp2_with fail
        generalize (w3.alloc (.cells #[.int .i8 ta.f0, .slice P ta.f1.length p] 43)).alloc (.cells #[.int .i8 tb.f0, .slice Q tb.f1.length q] 43) = wb at *
        generalize w3.heap.size = n3 at *
        refine (refCheck_calls HTA.out).mono ?_
        rintro e w4 ⟨rfl, hB⟩
        replace K0 := Aside0.mk (blk_below K0.out hB)
        replace K1 := Aside0.mk (blk_below K1.out hB)
        replace K2 := Aside0.mk (blk_below K2.out hB)
        replace KA := Aside0.mk (blk_below KA.out hB)
        replace KB := Aside0.mk (blk_below KB.out hB)
        replace HTA := Aside0.mk (HTA.out.below hB)
        replace HTB := Aside0.mk (HTB.out.below hB)
        replace HW := Aside0.mk (below_then HW.out HW.out.size hB)
        clear hB
        have hl := blk_lt KA.out
        by_cases h4 : checkI ta = 0
        · have h4b : (checkI ta != 0) = false := bne_eq_false_iff_eq.mpr h4
          have a0 := (blk_cell KB.out 0).trans rfl
          have a1 := (blk_cell KB.out 1).trans rfl
          simp at a0 a1
          go_wp2_with fail
          clear a0 a1
          refine (refCheck_calls HTB.out).mono ?_
          rintro e w5 ⟨rfl, hB⟩
          replace K0 := Aside0.mk (blk_below K0.out hB)
          replace K1 := Aside0.mk (blk_below K1.out hB)
          replace K2 := Aside0.mk (blk_below K2.out hB)
          replace KA := Aside0.mk (blk_below KA.out hB)
          replace KB := Aside0.mk (blk_below KB.out hB)
          replace HTA := Aside0.mk (HTA.out.below hB)
          replace HTB := Aside0.mk (HTB.out.below hB)
          replace HW := Aside0.mk (below_then HW.out HW.out.size hB)
          clear hB
          by_cases h5 : checkI tb = 0
          · have hr : cocheckI x = 0 := by unfold cocheckI; rw [if_neg h1, if_neg h2, him trivial]; simp [h4, h5]
            have h5b : (checkI tb != 0) = false := bne_eq_false_iff_eq.mpr h5
            go_wp2_with fail
            have a0 := (blk_cell KA.out 0).trans rfl
            have a1 := (blk_cell KA.out 1).trans rfl
            simp at a0 a1
            have b0 := (blk_cell KB.out 0).trans rfl
            have b1 := (blk_cell KB.out 1).trans rfl
            simp at b0 b1
            refine wp_region_held_drew (S := fun w' => w'.cell? ⟨n3, 0, none⟩ = some (.int .i8 ta.f0) ∧ w'.cell? ⟨n3, 1, none⟩ = some (.slice P ta.f1.length p) ∧ w'.cell? ⟨n3 + 1, 0, none⟩ = some (.int .i8 tb.f0) ∧ w'.cell? ⟨n3 + 1, 1, none⟩ = some (.slice Q tb.f1.length q)) (by kernel_rfl) ⟨a0, a1, b0, b1⟩ (fun hHeld => ?_)
            have hD := (Below.refl w5.heap.size w5).drew
            have hB := hD
            replace K0 := Aside0.mk (blk_below K0.out hB)
            replace K1 := Aside0.mk (blk_below K1.out hB)
            replace K2 := Aside0.mk (blk_below K2.out hB)
            replace KA := Aside0.mk (blk_below KA.out hB)
            replace KB := Aside0.mk (blk_below KB.out hB)
            replace HTA := Aside0.mk (HTA.out.below hB)
            replace HTB := Aside0.mk (HTB.out.below hB)
            replace HW := Aside0.mk (below_then HW.out HW.out.size hB)
            clear hB
            clear hD a0 a1 b0 b1
            generalize w5.drew = w6 at *
            refine takeA 44 0 (v := ?_) ?_ hHeld ?_
            rotate_left
            · intro w hSw
              try dsimp only at hSw
              go_simp <;> with_reducible rfl
            try simp only [Act.put, List.setIfInBounds_toArray, List.set_cons_zero, List.set_cons_succ]
            refine takeA 45 1 (v := ?_) ?_ hHeld ?_
            rotate_left
            · intro w hSw
              try dsimp only at hSw
              go_simp <;> with_reducible rfl
            try simp only [Act.put, List.setIfInBounds_toArray, List.set_cons_zero, List.set_cons_succ]
            refine wpAnyH_ready (rs := [2]) (by kernel_rfl) (by simp) ?_
            refine AllReadyH.cons rfl (fun K hK => ?_) AllReadyH.nil
            have c0 := (blk_cell K1.out 0).trans rfl
            have c1 := (blk_cell K1.out 1).trans rfl
            have z0 := blk_frozen K1.out 0
            have z1 := blk_frozen K1.out 1
            simp at c0 c1
            go_simp
            clear c0 c1 z0 z1
            have far : ∀ (b o : Nat) (v : Value), b ≠ w.heap.size + 1 → w6.cell? ⟨b, o, none⟩ = some v → ((w6.setCell ⟨w.heap.size + 1, 0, none⟩ (.int .i8 ta.f0)).setCell ⟨w.heap.size + 1, 1, none⟩ (.slice P ta.f1.length p)).cell? ⟨b, o, none⟩ = some v := fun b o v hb hv => by
              rw [World.cell?_setCell_far _ _ _ _ (by show w.heap.size + 1 ≠ b; omega), World.cell?_setCell_far _ _ _ _ (by show w.heap.size + 1 ≠ b; omega)]
              exact hv
            refine hK.out _ _ ⟨far _ _ _ (by omega) hHeld.1, far _ _ _ (by omega) hHeld.2.1, far _ _ _ (by omega) hHeld.2.2.1, far _ _ _ (by omega) hHeld.2.2.2⟩ (fun hHeld => ?_)
            clear hK K far
            try simp only [Act.put, List.setIfInBounds_toArray, List.set_cons_zero, List.set_cons_succ]
            have hT : IsT ((w6.setCell ⟨w.heap.size + 1, 0, none⟩ (.int .i8 ta.f0)).setCell ⟨w.heap.size + 1, 1, none⟩ (.slice P ta.f1.length p)) (.agg #[.int .i8 ta.f0, .slice P ta.f1.length p]) ta ∧ IsT ((w6.setCell ⟨w.heap.size + 1, 0, none⟩ (.int .i8 ta.f0)).setCell ⟨w.heap.size + 1, 1, none⟩ (.slice P ta.f1.length p)) (.agg #[.int .i8 tb.f0, .slice Q tb.f1.length q]) tb := ⟨isT_far K1.out (kept2 _ _ _ _) (check_nodes h4).2.2 HTA.out, isT_far K1.out (kept2 _ _ _ _) (check_nodes h5).2.2 HTB.out⟩
            replace K1 := Aside0.mk (put_two K1.out (.int .i8 ta.f0) (.slice P ta.f1.length p))
            replace K2 := Aside0.mk (put_two_far (g := w.heap.size + 1) K2.out (by omega) (.int .i8 ta.f0) (.slice P ta.f1.length p))
            replace HW := Aside0.mk ((HW.out.setCell (p := ⟨w.heap.size + 1, 0, none⟩) (Nat.le_add_right _ 1) (.int .i8 ta.f0)).setCell (p := ⟨w.heap.size + 1, 1, none⟩) (Nat.le_add_right _ 1) (.slice P ta.f1.length p))
            replace HTA := Aside0.mk hT.1
            replace HTB := Aside0.mk hT.2
            clear hT
            generalize (w6.setCell ⟨w.heap.size + 1, 0, none⟩ (.int .i8 ta.f0)).setCell ⟨w.heap.size + 1, 1, none⟩ (.slice P ta.f1.length p) = w7 at *
            refine wpAnyH_ready (rs := [3]) (by kernel_rfl) (by simp) ?_
            refine AllReadyH.cons rfl (fun K hK => ?_) AllReadyH.nil
            have d0 := (blk_cell K2.out 0).trans rfl
            have d1 := (blk_cell K2.out 1).trans rfl
            have y0 := blk_frozen K2.out 0
            have y1 := blk_frozen K2.out 1
            simp at d0 d1
            go_simp
            clear d0 d1 y0 y1
            have far : ∀ (b o : Nat) (v : Value), b ≠ w.heap.size + 2 → w7.cell? ⟨b, o, none⟩ = some v → ((w7.setCell ⟨w.heap.size + 2, 0, none⟩ (.int .i8 tb.f0)).setCell ⟨w.heap.size + 2, 1, none⟩ (.slice Q tb.f1.length q)).cell? ⟨b, o, none⟩ = some v := fun b o v hb hv => by
              rw [World.cell?_setCell_far _ _ _ _ (by show w.heap.size + 2 ≠ b; omega), World.cell?_setCell_far _ _ _ _ (by show w.heap.size + 2 ≠ b; omega)]
              exact hv
            refine hK.out _ _ ⟨far _ _ _ (by omega) hHeld.1, far _ _ _ (by omega) hHeld.2.1, far _ _ _ (by omega) hHeld.2.2.1, far _ _ _ (by omega) hHeld.2.2.2⟩ (fun hHeld => ?_)
            clear hK K far
            try simp only [Act.put, List.setIfInBounds_toArray, List.set_cons_zero, List.set_cons_succ]
            have hT : IsT ((w7.setCell ⟨w.heap.size + 2, 0, none⟩ (.int .i8 tb.f0)).setCell ⟨w.heap.size + 2, 1, none⟩ (.slice Q tb.f1.length q)) (.agg #[.int .i8 ta.f0, .slice P ta.f1.length p]) ta ∧ IsT ((w7.setCell ⟨w.heap.size + 2, 0, none⟩ (.int .i8 tb.f0)).setCell ⟨w.heap.size + 2, 1, none⟩ (.slice Q tb.f1.length q)) (.agg #[.int .i8 tb.f0, .slice Q tb.f1.length q]) tb := ⟨isT_far K2.out (kept2 _ _ _ _) (check_nodes h4).2.2 HTA.out, isT_far K2.out (kept2 _ _ _ _) (check_nodes h5).2.2 HTB.out⟩
            replace K2 := Aside0.mk (put_two K2.out (.int .i8 tb.f0) (.slice Q tb.f1.length q))
            replace K1 := Aside0.mk (put_two_far (g := w.heap.size + 2) K1.out (by omega) (.int .i8 tb.f0) (.slice Q tb.f1.length q))
            replace HW := Aside0.mk ((HW.out.setCell (p := ⟨w.heap.size + 2, 0, none⟩) (Nat.le_add_right _ 2) (.int .i8 tb.f0)).setCell (p := ⟨w.heap.size + 2, 1, none⟩) (Nat.le_add_right _ 2) (.slice Q tb.f1.length q))
            replace HTA := Aside0.mk hT.1
            replace HTB := Aside0.mk hT.2
            clear hT
            generalize (w7.setCell ⟨w.heap.size + 2, 0, none⟩ (.int .i8 tb.f0)).setCell ⟨w.heap.size + 2, 1, none⟩ (.slice Q tb.f1.length q) = w8 at *
            refine takeA 4 4 (v := ?_) ?_ hHeld ?_
            rotate_left
            · intro w hSw
              try dsimp only at hSw
              go_simp <;> with_reducible rfl
            try simp only [Act.put, List.setIfInBounds_toArray, List.set_cons_zero, List.set_cons_succ]
            refine wpAnyH_done (by kernel_rfl) ?_ _
            go_wp2_with fail
            exact bodyPost_ret (results_list (rs := [.cell 2 43, .cell 3 43, .tmp 4]) rfl (by simp) (.cell (w.heap.size + 1) 43 _ (0, 0) _ rfl K1.out Tryd.underlying43 rfl (by kernel_rfl) (.cell (w.heap.size + 2) 43 _ (0, 0) _ rfl K2.out Tryd.underlying43 rfl (by kernel_rfl) (.tmp .nil)))) rfl ⟨.agg #[.int .i8 ta.f0, .slice P ta.f1.length p], .agg #[.int .i8 tb.f0, .slice Q tb.f1.length q], ta, tb, by first | (rw [hr]; rfl) | rw [hr], HTA.out, HTB.out, fun _ => him trivial, fun h => absurd hr h, HW.out⟩
          · have hr : cocheckI x = checkI tb := by unfold cocheckI; rw [if_neg h1, if_neg h2, him trivial]; simp [h4]
            have h5b : (checkI tb != 0) = true := bne_iff_ne.mpr h5
            have c0 := (blk_cell K1.out 0).trans rfl
            have c1 := (blk_cell K1.out 1).trans rfl
            have z0 := blk_frozen K1.out 0
            have z1 := blk_frozen K1.out 1
            simp at c0 c1
            have d0 := (blk_cell K2.out 0).trans rfl
            have d1 := (blk_cell K2.out 1).trans rfl
            have y0 := blk_frozen K2.out 0
            have y1 := blk_frozen K2.out 1
            simp at d0 d1
            go_wp2_with fail
            exact bodyPost_ret (results_list (rs := [.cell 2 43, .cell 3 43, .tmp 4]) rfl (by simp) (.cell (w.heap.size + 1) 43 _ (0, 0) _ rfl (put_two_far (put_two K1.out _ _) (by omega) _ _) Tryd.underlying43 rfl (by kernel_rfl) (.cell (w.heap.size + 2) 43 _ (0, 0) _ rfl (put_two (put_two_far K2.out (by omega) _ _) _ _) Tryd.underlying43 rfl (by kernel_rfl) (.tmp .nil)))) rfl ⟨(.agg #[.int .i8 0, .slice none 0 0]), (.agg #[.int .i8 0, .slice none 0 0]), z43, z43, by first | (rw [hr]; rfl) | rw [hr], IsT.zero _, IsT.zero _, fun h => absurd (hr.symm.trans h) h5, fun _ => ⟨rfl, rfl⟩, (((HW.out.setCell (Nat.le_add_right _ 1) _).setCell (Nat.le_add_right _ 1) _).setCell (Nat.le_add_right _ 2) _).setCell (Nat.le_add_right _ 2) _⟩
        · have hr : cocheckI x = checkI ta := by unfold cocheckI; rw [if_neg h1, if_neg h2, him trivial]; simp [h4]
          have h4b : (checkI ta != 0) = true := bne_iff_ne.mpr h4
          have c0 := (blk_cell K1.out 0).trans rfl
          have c1 := (blk_cell K1.out 1).trans rfl
          have z0 := blk_frozen K1.out 0
          have z1 := blk_frozen K1.out 1
          simp at c0 c1
          have d0 := (blk_cell K2.out 0).trans rfl
          have d1 := (blk_cell K2.out 1).trans rfl
          have y0 := blk_frozen K2.out 0
          have y1 := blk_frozen K2.out 1
          simp at d0 d1
          go_wp2_with fail
          exact bodyPost_ret (results_list (rs := [.cell 2 43, .cell 3 43, .tmp 4]) rfl (by simp) (.cell (w.heap.size + 1) 43 _ (0, 0) _ rfl (put_two_far (put_two K1.out _ _) (by omega) _ _) Tryd.underlying43 rfl (by kernel_rfl) (.cell (w.heap.size + 2) 43 _ (0, 0) _ rfl (put_two (put_two_far K2.out (by omega) _ _) _ _) Tryd.underlying43 rfl (by kernel_rfl) (.tmp .nil)))) rfl ⟨(.agg #[.int .i8 0, .slice none 0 0]), (.agg #[.int .i8 0, .slice none 0 0]), z43, z43, by first | (rw [hr]; rfl) | rw [hr], IsT.zero _, IsT.zero _, fun h => absurd (hr.symm.trans h) h4, fun _ => ⟨rfl, rfl⟩, (((HW.out.setCell (Nat.le_add_right _ 1) _).setCell (Nat.le_add_right _ 1) _).setCell (Nat.le_add_right _ 2) _).setCell (Nat.le_add_right _ 2) _⟩
end Go.Proofs.YtjmpejbciniceaaDoor.X
namespace Go.Proofs.YtjmpejbciniceaaDoor.X
open Go.RowKit Go.Proofs.YtjmpejbciniceaaDoorW.PrintWords Go.Proofs.YtjmpejbciniceaaDoorW.PrintLast Go.Proofs.YtjmpejbciniceaaDoorW.PrintMore
set_option linter.unusedVariables false
set_option linter.unusedSimpArgs false
theorem leaf_right {k : Int} {t u : S43} {la : Int} {a b : S43} (h : leafC k t u la = some (a, b)) : rightB a = true ∧ rightB b = true := by
  have hz : rightB z43 = true := by decide
  unfold leafC at h
  split at h
  · rename_i ht
    have hr := (check_nodes ht).2.2
    split at h
    · simp at h
      exact ⟨h.1 ▸ hr, h.2 ▸ hr⟩
    · split at h
      · split at h
        · simp at h
          exact ⟨h.1 ▸ hr, h.2 ▸ hz⟩
        · simp at h
      · split at h
        · split at h
          · simp at h
            exact ⟨h.1 ▸ hz, h.2 ▸ hr⟩
          · simp at h
        · split at h
          · rename_i hc
            simp only [Bool.and_eq_true, decide_eq_true_eq] at hc
            simp at h
            exact ⟨h.1 ▸ hr, h.2 ▸ (check_nodes hc.2).2.2⟩
          · simp at h
  · simp at h
theorem pair_right {k : Int} (hk : partsI k = 2) {a b : S43} (ha : rightB a = true) (hb : rightB b = true) : rightB ⟨k, [a, b]⟩ = true := by
  rw [rightB_eq]
  simp [hk, rightL, ha, hb]
theorem join_right {k : Int} {a b x y c d : S43} (h : joinC k a b x y = some (c, d)) (ha : rightB a = true) (hb : rightB b = true) (hx : rightB x = true) (hy : rightB y = true) : rightB c = true ∧ rightB d = true := by
  unfold joinC at h
  split at h
  · simp at h
    exact ⟨h.1 ▸ pair_right rfl hb hx, h.2 ▸ pair_right rfl ha hy⟩
  · split at h
    · simp at h
      exact ⟨h.1 ▸ pair_right rfl ha hx, h.2 ▸ pair_right rfl hb hy⟩
    · split at h
      · simp at h
        exact ⟨h.1 ▸ pair_right rfl ha hx, h.2 ▸ pair_right rfl hb hy⟩
      · split at h
        · split at h
          · simp at h
            exact ⟨h.1 ▸ ha, h.2 ▸ hy⟩
          · simp at h
        · simp at h
theorem ends_right (n : Nat) : ∀ (x : S54) (a b : S43), cnodes x < n → endsC x = some (a, b) → rightB a = true ∧ rightB b = true := by
  induction n with
  | zero => intro x a b h; omega
  | succ n ih =>
  intro x a b hn h
  have hk := ends_kids (x := x) (by rw [h]; rfl)
  rw [cnodes_eq] at hn
  obtain ⟨k, t, u, la, ne, l⟩ := x
  simp only at hk hn
  rw [endsC] at h
  rcases hk with ⟨h1, rfl⟩ | ⟨h1, p, q, rfl, hp, hq⟩
  · rw [if_pos h1] at h
    exact leaf_right h
  · rw [if_neg (by rw [h1]; decide)] at h
    simp only [cnodesL] at hn
    obtain ⟨⟨a1, b1⟩, e1⟩ := Option.isSome_iff_exists.1 hp
    obtain ⟨⟨x1, y1⟩, e2⟩ := Option.isSome_iff_exists.1 hq
    have r1 := ih p a1 b1 (by omega) e1
    have r2 := ih q x1 y1 (by omega) e2
    simp only [endsL, e1, e2] at h
    exact join_right h r1.1 r1.2 r2.1 r2.2
end Go.Proofs.YtjmpejbciniceaaDoor.X
namespace Go.Proofs.YtjmpejbciniceaaDoor.X
open Go.RowKit Go.Proofs.YtjmpejbciniceaaDoorW.PrintWords Go.Proofs.YtjmpejbciniceaaDoorW.PrintLast Go.Proofs.YtjmpejbciniceaaDoorW.PrintMore
set_option linter.unusedVariables false
set_option linter.unusedSimpArgs false
theorem C_two {w : World} {g : Nat} {a b : S43} {Aa Ab : Option Addr} {ca cb : Nat} {cap : Nat} {t : TypeId}
    (hb : w.heap[g]? = some (.cells #[.int .i8 a.f0, .slice Aa a.f1.length ca, .int .i8 b.f0, .slice Ab b.f1.length cb] t (0, 0))) (ha1 : a.f1.length ≤ ca) (hb1 : b.f1.length ≤ cb)
    (hca : Kd.C k43 w Aa a.f1.length a.f1) (hcb : Kd.C k43 w Ab b.f1.length b.f1) : Kd.C k43 w (some ⟨g, 0, none⟩) 2 [a, b] := by
  have hc := blk_cell hb
  refine ⟨rfl, by omega, fun _ => ⟨_, rfl, fun j p hj => ?_⟩⟩
  match j, hj with
  | 0, hj =>
    obtain rfl : a = p := by simpa using hj
    refine ⟨_, rfl, k43_mk w a ha1 hca, fun i u hu => ?_⟩
    match i, hu with
    | 0, hu => simpa [Addr.add] using (hc 0).trans hu
    | 1, hu => simpa [Addr.add] using (hc 1).trans hu
  | 1, hj =>
    obtain rfl : b = p := by simpa using hj
    refine ⟨_, rfl, k43_mk w b hb1 hcb, fun i u hu => ?_⟩
    match i, hu with
    | 0, hu => simpa [Addr.add, k43, Kd.fix] using (hc 2).trans hu
    | 1, hu => simpa [Addr.add, k43, Kd.fix] using (hc 3).trans hu
end Go.Proofs.YtjmpejbciniceaaDoor.X
namespace Go.Proofs.YtjmpejbciniceaaDoor.X
open Go.RowKit Go.Proofs.YtjmpejbciniceaaDoorW.PrintWords Go.Proofs.YtjmpejbciniceaaDoorW.PrintLast Go.Proofs.YtjmpejbciniceaaDoorW.PrintMore
set_option linter.unusedVariables false
set_option linter.unusedSimpArgs false
set_option maxHeartbeats 800000 in
theorem pair_calls {k : Int} {a b : S43} {va vb : Value} {w : World} (ha : IsT w va a) (hb : IsT w vb b) :
    Calls Tryd.prog 126 #[.int .i8 k, va, vb] w fun e w' => ∃ v, e = .returned v ∧ IsT w' v ⟨k, [a, b]⟩ ∧ Below w.heap.size w w' := by
  obtain ⟨Aa, ca, rfl, ha1, ha2⟩ := ha
  obtain ⟨Ab, cb, rfl, hb1, hb2⟩ := hb
  have HA := Aside0.mk ha2
  have HB := Aside0.mk hb2
  clear ha2 hb2
  have hB4 : Below w.heap.size w ((((w.alloc (.cells #[.int .i8 a.f0, .slice Aa a.f1.length ca] 43)).alloc (.cells #[.int .i8 b.f0, .slice Ab b.f1.length cb] 43)).alloc (.cells #[.int .i8 k, .slice (some ⟨w.heap.size + 1 + 1 + 1, 0, none⟩) 2 2] 43)).alloc (.cells #[.int .i8 a.f0, .slice Aa a.f1.length ca, .int .i8 b.f0, .slice Ab b.f1.length cb] 43)) :=
    ((((Below.refl _ _).alloc (Nat.le_refl _) _).alloc (by simp) _).alloc (by simp; omega) _).alloc (by simp; omega) _
  have hb4 := heap_alloc_new (((w.alloc (.cells #[.int .i8 a.f0, .slice Aa a.f1.length ca] 43)).alloc (.cells #[.int .i8 b.f0, .slice Ab b.f1.length cb] 43)).alloc (.cells #[.int .i8 k, .slice (some ⟨w.heap.size + 1 + 1 + 1, 0, none⟩) 2 2] 43)) (.cells #[.int .i8 a.f0, .slice Aa a.f1.length ca, .int .i8 b.f0, .slice Ab b.f1.length cb] 43)
  have hT := C_two (cap := 0) hb4 ha1 hb1 (Kd.C_below HA.out hB4) (Kd.C_below HB.out hB4)
  have HT := Aside0.mk hT
  have HB4 := Aside0.mk hB4
  clear hT hB4 hb4 HA HB
  go_enter Tryd.func126, Tryd.ntmps126
  go_wp2
  refine bodyPost_ret (v := .agg #[.int .i8 k, .slice (some ⟨w.heap.size + 1 + 1 + 1, 0, none⟩) 2 2]) (by simp [results, Tryd.results126, go_sem]) rfl ⟨_, rfl, ⟨_, _, rfl, by simp, ?_⟩, HB4.out⟩
  simpa using HT.out
end Go.Proofs.YtjmpejbciniceaaDoor.X
namespace Go.Proofs.YtjmpejbciniceaaDoor.X
open Go.RowKit Go.Proofs.YtjmpejbciniceaaDoorW.PrintWords Go.Proofs.YtjmpejbciniceaaDoorW.PrintLast Go.Proofs.YtjmpejbciniceaaDoorW.PrintMore
set_option linter.unusedVariables false
set_option linter.unusedSimpArgs false
def partsC (k : Int) (p q : S54) : Option (S43 × S43) := match endsC p, endsC q with
  | some (a, b), some (x, y) => joinC k a b x y
  | _, _ => none
theorem ends_parts {x p q : S54} (hk : leafB x.f0 = false) (hx : x.f5 = [p, q]) : endsC x = partsC x.f0 p q := by
  obtain ⟨k, t, u, la, ne, l⟩ := x
  simp only at hx hk ⊢
  subst hx
  rw [endsC, if_neg (by rw [hk]; decide), partsC]
  simp only [endsL]
  cases endsC p with
  | none => rfl
  | some v =>
    cases endsC q with
    | none => rfl
    | some v2 => rfl
end Go.Proofs.YtjmpejbciniceaaDoor.X
