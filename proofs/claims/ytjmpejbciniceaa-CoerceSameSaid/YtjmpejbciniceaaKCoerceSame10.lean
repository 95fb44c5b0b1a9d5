/- Texts of this claim, joined: HReg, HCo3s. -/
import Derived.Test.YtjmpejbciniceaaKCoerceSame1
import Derived.Test.YtjmpejbciniceaaKCoerceSame9
namespace Go.Proofs.Ytjmpejbciniceaa.X
open Go.RowKit Go.Proofs.YtjmpejbciniceaaW.PrintWords Go.Proofs.YtjmpejbciniceaaW.PrintLast Go.Proofs.YtjmpejbciniceaaW.PrintMore
set_option linter.unusedVariables false
set_option linter.unusedSimpArgs false
section
variable {P : Program} {ops : Array Oper} {Q : Exit → Act → World → Prop} {md : Region.Mode} {S : World → Prop}
theorem tK (d i : Nat) {oi : Oper} {v : Value} {fuel : Nat} {listed : Array Bool} {a a' : Act} {w : World} (hS : S w) (h : wpAnyH P md ops Q S fuel (listed.setIfInBounds i true) a' w)
    (hi : ops[i]? = some oi := by rfl) (hd : oi.dst = some d := by rfl)
    (hy : ∀ w, S w → (execOp a.eval oi).run P w = .ok (.value v) w := by intro w hSw; (try dsimp only at hSw); go_simp <;> with_reducible rfl)
    (ha : a.put (some d) v = a' := by simp only [Act.put, List.setIfInBounds_toArray, List.set_cons_zero, List.set_cons_succ] <;> with_reducible rfl)
    (hs : Region.noSelect ops = true := by kernel_rfl) (hf : Region.free md ops listed i = true := by kernel_rfl) (hr : (Region.ready md ops listed).contains i = true := by kernel_rfl)
    (hQ : ∀ c a w, Q (.panic c) (a.put (some d) v) w → Q (.panic c) a w := by exact fun _ _ _ h => h) (hw : Region.wanted oi (yielded ops a.tmps) = true := by rfl) : wpAnyH P md ops Q S (fuel + 1) listed a w := by
  subst ha
  exact takeH i hi hd hs hf hr hQ hw hy hS h
theorem pK (d i : Nat) {oi : Oper} {fuel : Nat} {listed : Array Bool} {a a' : Act} {w : World} (hS : S w) (h : wpAnyH P md ops Q S fuel (listed.setIfInBounds i true) a' w)
    (hi : ops[i]? = some oi := by rfl) (hd : oi.dst = some d := by rfl)
    (ha : a.put (some d) undef = a' := by simp only [Act.put, List.setIfInBounds_toArray, List.set_cons_zero, List.set_cons_succ] <;> with_reducible rfl)
    (hs : Region.noSelect ops = true := by kernel_rfl) (hf : Region.free md ops listed i = true := by kernel_rfl) (hr : (Region.ready md ops listed).contains i = true := by kernel_rfl)
    (hQ : ∀ c a w, Q (.panic c) (a.put (some d) undef) w → Q (.panic c) a w := by exact fun _ _ _ h => h) (hw : Region.wanted oi (yielded ops a.tmps) = false := by rfl) : wpAnyH P md ops Q S (fuel + 1) listed a w := by
  subst ha
  exact passH i hi hd hs hf hr hQ hw hS h
theorem nA {fuel : Nat} {listed : Array Bool} {a a' : Act} {w : World} (h : wpAnyH P md ops Q S fuel listed a' w) (ha : a = a' := by simp only [Act.put, List.setIfInBounds_toArray, List.set_cons_zero, List.set_cons_succ] <;> with_reducible rfl) : wpAnyH P md ops Q S fuel listed a w := by
  subst ha
  exact h
theorem cK (d i : Nat) {oi : Oper} {fuel : Nat} {listed : Array Bool} {a : Act} {w : World} {f : FuncId} {args : Array Value} {R : Ending → World → Prop}
    (hc : Calls P f args w R) (h : ∀ e w', R e w' → ∃ v, e = .returned v ∧ S w' ∧ (S w' → wpAnyH P md ops Q S fuel (listed.setIfInBounds i true) (a.put (some d) v) w'))
    (hi : ops[i]? = some oi := by rfl) (hd : oi.dst = some d := by rfl) (hr : Region.ready md ops listed = [i] := by kernel_rfl) (hw : Region.wanted oi (yielded ops a.tmps) = true := by rfl)
    (hx : (execOp a.eval oi).run P w = .ok (.enter f args) w := by kernel_rfl) : wpAnyH P md ops Q S (fuel + 1) listed a w := callH i hi hd hr hw hx hc h
end
theorem blk_putf {w : World} {g : Nat} {o : Obj} (h : w.heap[g]? = some o) {p : Addr} {u : Value} (hp : g ≠ p.block) : (w.setCell p u).heap[g]? = some o := (Below.heap_setCell w p u g hp).trans h
theorem put_two {w : World} {g : Nat} {c0 c1 : Value} {t : TypeId} (h : w.heap[g]? = some (.cells #[c0, c1] t (0, 0))) (x0 x1 : Value) : ((w.setCell ⟨g, 0, none⟩ x0).setCell ⟨g, 1, none⟩ x1).heap[g]? = some (.cells #[x0, x1] t (0, 0)) :=
  blk_put (cs := #[x0, c1]) (blk_put h 0 _ rfl) 1 _ rfl
theorem put_two_far {w : World} {g k : Nat} {o : Obj} (h : w.heap[k]? = some o) (hk : k ≠ g) (x0 x1 : Value) : ((w.setCell ⟨g, 0, none⟩ x0).setCell ⟨g, 1, none⟩ x1).heap[k]? = some o :=
  blk_putf (blk_putf h hk) hk
def put2 (w : World) (g : Nat) (x y : Value) : World := (w.setCell ⟨g, 0, none⟩ x).setCell ⟨g, 1, none⟩ y
theorem bcl {w : World} {g : Nat} {t : TypeId} {cs : Array Value} (h : w.heap[g]? = some (.cells cs t (0, 0))) {i : Nat} {v : Value} (e : cs[i]? = some v := by rfl) : w.cell? ⟨g, i, none⟩ = some v := (blk_cell h i).trans e
theorem pwc {w w1 : World} (h : Below w.heap.size w w1) {a : Addr} {v : Value} (hc : w.cell? a = some v) : w1.cell? a = some v := pw_cell_below h hc
theorem far2 {w : World} {g b o : Nat} {v x y : Value} (h : w.cell? ⟨b, o, none⟩ = some v) (hb : b ≠ g) : (put2 w g x y).cell? ⟨b, o, none⟩ = some v := by
  unfold put2
  rw [World.cell?_setCell_far _ _ _ _ (by show g ≠ b; omega), World.cell?_setCell_far _ _ _ _ (by show g ≠ b; omega)]
  exact h
theorem kOwn {w w' : World} {g : Nat} {c0 c1 x y : Value} {t : TypeId} (hp : w' = put2 w g x y) (h : w.heap[g]? = some (.cells #[c0, c1] t (0, 0))) : w'.heap[g]? = some (.cells #[x, y] t (0, 0)) := hp ▸ put_two h x y
theorem kFar {w w' : World} {g k : Nat} {o : Obj} {x y : Value} (hp : w' = put2 w g x y) (h : w.heap[k]? = some o) (hk : k ≠ g) : w'.heap[k]? = some o := hp ▸ put_two_far h hk x y
theorem tFar {w w' : World} {g : Nat} {c0 c1 x y : Value} (hp : w' = put2 w g x y) (hb : w.heap[g]? = some (.cells #[c0, c1] 35 (0, 0))) {t : S35} (hr : rightB t = true) {v : Value} (h : IsT w v t) : IsT w' v t := hp ▸ isT_far hb (kept2 w g x y) hr h
theorem bFar {B : Nat} {w w1 w' : World} {g : Nat} {x y : Value} (hp : w' = put2 w1 g x y) (h : Below B w w1) (hg : B ≤ g) : Below B w w' := hp ▸ (h.setCell (p := ⟨g, 0, none⟩) hg x).setCell (p := ⟨g, 1, none⟩) hg y
theorem retK {fn : Func} {R : Ending → World → Prop} {a : Act} {w : World} {g1 g2 : Nat} {x1 y1 x2 y2 v4 : Value} (h1 : w.heap[g1]? = some (.cells #[x1, y1] 35 (0, 0))) (h2 : w.heap[g2]? = some (.cells #[x2, y2] 35 (0, 0)))
    (hR : R (.returned (.tuple #[.agg #[x1, y1], .agg #[x2, y2], v4])) w) (hf : fn.results = #[.cell 2 35, .cell 3 35, .tmp 4] := by rfl) (ha : a.tmps.getD 2 undef = .pointer (some ⟨g1, 0, none⟩) := by rfl) (hb : a.tmps.getD 3 undef = .pointer (some ⟨g2, 0, none⟩) := by rfl) (hv : a.tmps.getD 4 undef = v4 := by rfl) (hd : a.defers = [] := by rfl) :
    bodyPost Try.prog fn R .ret a w := by
  subst hv
  exact bodyPost_ret (results_list (rs := [.cell 2 35, .cell 3 35, .tmp 4]) hf (by simp) (.cell g1 35 _ (0, 0) _ ha h1 Try.underlying35 rfl (by kernel_rfl) (.cell g2 35 _ (0, 0) _ hb h2 Try.underlying35 rfl (by kernel_rfl) (.tmp .nil)))) hd hR
section
variable {ops : Array Oper} {Q : Exit → Act → World → Prop} {md : Region.Mode} {S : World → Prop}
theorem sK (i : Nat) {oi : Oper} {fuel : Nat} {listed : Array Bool} {a : Act} {w : World} {g : Nat} {c0 c1 : Value} {k : Int} {A : Option Addr} {n c : Nat} {p q : Operand}
    (hb : w.heap[g]? = some (.cells #[c0, c1] 35 (0, 0))) (hS : S (put2 w g (.int .i8 k) (.slice A n c))) (h : ∀ w', S w' → w' = put2 w g (.int .i8 k) (.slice A n c) → wpAnyH Try.prog md ops Q S fuel (listed.setIfInBounds i true) a w')
    (hi : ops[i]? = some oi := by rfl) (hd : oi.dst = none := by rfl) (ho : oi.op = .store 35 p q := by rfl) (hp : a.eval p = .pointer (some ⟨g, 0, none⟩) := by rfl) (hq : a.eval q = .agg #[.int .i8 k, .slice A n c] := by rfl)
    (hr : Region.ready md ops listed = [i] := by kernel_rfl) (hw : Region.wanted oi (yielded ops a.tmps) = true := by rfl) : wpAnyH Try.prog md ops Q S (fuel + 1) listed a w := by
  have c0' := (blk_cell hb 0).trans rfl
  have c1' := (blk_cell hb 1).trans rfl
  have z0 := blk_frozen hb 0
  have z1 := blk_frozen hb 1
  simp at c0' c1'
  have hx : (execOp a.eval oi).run Try.prog w = .ok .skip (put2 w g (.int .i8 k) (.slice A n c)) := by
    unfold put2
    cases oi with
    | mk d o t ps af gu =>
      simp only at ho
      subst ho
      simp only [execOp, hp, hq]
      go_simp
  refine wpAnyH_ready hr (by simp) (AllReadyH.cons hi (fun K hK => ?_) AllReadyH.nil)
  rw [if_pos hw]
  unfold Oper.wp
  rw [hx]
  simp only [Oper.upon, hd]
  exact hK.out _ _ hS (fun hS' => h _ hS' rfl)
end
theorem three (w : World) (o0 o1 o2 : Obj) : (((w.alloc o0).alloc o1).alloc o2).heap[w.heap.size]? = some o0 ∧ (((w.alloc o0).alloc o1).alloc o2).heap[w.heap.size + 1]? = some o1 ∧ (((w.alloc o0).alloc o1).alloc o2).heap[w.heap.size + 2]? = some o2 ∧ Below w.heap.size w (((w.alloc o0).alloc o1).alloc o2) :=
  ⟨blk_alloc (blk_alloc (heap_alloc_new w o0) o1) o2, by have := blk_alloc (heap_alloc_new (w.alloc o0) o1) o2; simpa using this, by have := heap_alloc_new ((w.alloc o0).alloc o1) o2; simpa using this, (((Below.refl _ _).alloc (Nat.le_refl _) _).alloc (by simp) _).alloc (by simp; omega) _⟩
theorem two_ (w : World) (o0 o1 : Obj) : ((w.alloc o0).alloc o1).heap[w.heap.size]? = some o0 ∧ ((w.alloc o0).alloc o1).heap[w.heap.size + 1]? = some o1 ∧ Below w.heap.size w ((w.alloc o0).alloc o1) :=
  ⟨blk_alloc (heap_alloc_new w o0) o1, by have := heap_alloc_new (w.alloc o0) o1; simpa using this, ((Below.refl _ _).alloc (Nat.le_refl _) _).alloc (by simp) _⟩
theorem cells2 {w : World} {g : Nat} {t : TypeId} {a b : Value} (h : w.heap[g]? = some (.cells #[a, b] t (0, 0))) : w.cell? ⟨g, 0, none⟩ = some a ∧ w.cell? ⟨g, 1, none⟩ = some b ∧ w.frozen? ⟨g, 0, none⟩ = false ∧ w.frozen? ⟨g, 1, none⟩ = false :=
  ⟨(blk_cell h 0).trans rfl, (blk_cell h 1).trans rfl, blk_frozen h 0, blk_frozen h 1⟩
theorem retP {fn : Func} {R : Ending → World → Prop} {a : Act} {w : World} {g1 g2 : Nat} {c0 c1 d0 d1 x1 y1 x2 y2 v4 : Value} (h1 : w.heap[g1]? = some (.cells #[c0, c1] 35 (0, 0))) (h2 : w.heap[g2]? = some (.cells #[d0, d1] 35 (0, 0))) (hne : g1 ≠ g2)
    (hR : R (.returned (.tuple #[.agg #[x1, y1], .agg #[x2, y2], v4])) (put2 (put2 w g1 x1 y1) g2 x2 y2)) (hf : fn.results = #[.cell 2 35, .cell 3 35, .tmp 4] := by rfl) (ha : a.tmps.getD 2 undef = .pointer (some ⟨g1, 0, none⟩) := by rfl) (hb : a.tmps.getD 3 undef = .pointer (some ⟨g2, 0, none⟩) := by rfl) (hv : a.tmps.getD 4 undef = v4 := by rfl) (hd : a.defers = [] := by rfl) :
    bodyPost Try.prog fn R .ret a ((((w.setCell ⟨g1, 0, none⟩ x1).setCell ⟨g1, 1, none⟩ y1).setCell ⟨g2, 0, none⟩ x2).setCell ⟨g2, 1, none⟩ y2) :=
  retK (put_two_far (put_two h1 x1 y1) hne x2 y2) (put_two (put_two_far h2 (Ne.symm hne) x1 y1) x2 y2) hR hf ha hb hv hd
end Go.Proofs.Ytjmpejbciniceaa.X
namespace Go.Proofs.Ytjmpejbciniceaa.X
open Go.RowKit Go.Proofs.YtjmpejbciniceaaW.PrintWords Go.Proofs.YtjmpejbciniceaaW.PrintLast Go.Proofs.YtjmpejbciniceaaW.PrintMore
set_option linter.unusedVariables false
set_option linter.unusedSimpArgs false
theorem typed_calls (k : Int) (w : World) : Calls Try.prog 55 #[.int .i8 k] w fun e w' => e = .returned (.bool (leafB k)) ∧ Below w.heap.size w w' := (lychgateref15_typed.calls k _ w (typed_is k)).mono fun _ _ h => ⟨h.1, h.2.below⟩
theorem toed_calls (k : Int) (w : World) : Calls Try.prog 57 #[.int .i8 k] w fun e w' => e = .returned (.bool (decide (k = 1))) ∧ Below w.heap.size w w' := (lychgateref15_toed.calls k _ w (toed_is k)).mono fun _ _ h => ⟨h.1, h.2.below⟩
theorem labelled_calls (k : Int) (w : World) : Calls Try.prog 58 #[.int .i8 k] w fun e w' => e = .returned (.bool (decide (k = 1) || decide (k = 3))) ∧ Below w.heap.size w w' := (lychgateref15_labelled.calls k _ w (labelled_is k)).mono fun _ _ h => ⟨h.1, h.2.below⟩
theorem kid_at {w : World} {A : Option Addr} {n : Nat} {xs : List S47} (h : Kd.C k47 w A n xs) (i : Int) (h0 : 0 ≤ i) (h1 : i < n) {x : S47} (hx : rd_T47 xs i = x) : ∃ ad A2 c2 A4 c4 A7 c7, A = some ad ∧ (w.cell? (ad.add (i.toNat * 8)) = some (.int .i8 x.f0) ∧ w.cell? ⟨(ad.add (i.toNat * 8)).block, (ad.add (i.toNat * 8)).off + 1, none⟩ = some (.int .i8 x.f1.f0) ∧ w.cell? ⟨(ad.add (i.toNat * 8)).block, (ad.add (i.toNat * 8)).off + 2, none⟩ = some (.slice A2 x.f1.f1.length c2) ∧ w.cell? ⟨(ad.add (i.toNat * 8)).block, (ad.add (i.toNat * 8)).off + 3, none⟩ = some (.int .i8 x.f2.f0) ∧ w.cell? ⟨(ad.add (i.toNat * 8)).block, (ad.add (i.toNat * 8)).off + 4, none⟩ = some (.slice A4 x.f2.f1.length c4) ∧ w.cell? ⟨(ad.add (i.toNat * 8)).block, (ad.add (i.toNat * 8)).off + 5, none⟩ = some (.int .i64 x.f3) ∧ w.cell? ⟨(ad.add (i.toNat * 8)).block, (ad.add (i.toNat * 8)).off + 6, none⟩ = some (.bool x.f4) ∧ w.cell? ⟨(ad.add (i.toNat * 8)).block, (ad.add (i.toNat * 8)).off + 7, none⟩ = some (.slice A7 x.f5.length c7)) ∧
    IsC w (.agg #[.int .i8 x.f0, .int .i8 x.f1.f0, .slice A2 x.f1.f1.length c2, .int .i8 x.f2.f0, .slice A4 x.f2.f1.length c4, .int .i64 x.f3, .bool x.f4, .slice A7 x.f5.length c7]) x := by
  obtain ⟨ad, A2, c2, A4, c4, A7, c7, e, k0, k1, k2, k3, k4, k5, k6, k7, l1, l2, l3, l4, l5, l6⟩ := at_T47 h i h0 h1
  rw [hx] at k0 k1 k2 k3 k4 k5 k6 k7 l1 l2 l3 l4 l5 l6
  exact ⟨ad, A2, c2, A4, c4, A7, c7, e, ⟨k0, k1, k2, k3, k4, k5, k6, k7⟩, A2, c2, A4, c4, A7, c7, rfl, l1, l2, l3, l4, l5, l6⟩
theorem likeCL_drop (l m : List S47) (j : Nat) (h1 : j < l.length) (h2 : j < m.length) : likeCL (l.drop j) (m.drop j) = (likeC (rd_T47 l j) (rd_T47 m j) && likeCL (l.drop (j + 1)) (m.drop (j + 1))) := by
  rw [drop_rd47 l j h1, drop_rd47 m j h2, likeCL]
theorem likeC_eq (a b : S47) : likeC a b = (decide (a.f0 = b.f0) && (!leafB a.f0 || sameB a.f1 b.f1) && (!decide (a.f0 = 1) || sameB a.f2 b.f2) && (!(decide (a.f0 = 1) || decide (a.f0 = 3)) || (decide (a.f3 = b.f3) && decide (a.f4 = b.f4))) && likeCL a.f5 b.f5) := by
  obtain ⟨k, t, u, la, ne, l⟩ := a
  obtain ⟨k', t', u', la', ne', l'⟩ := b
  rw [likeC]
theorem says_of {b c : Bool} {f : FuncId} {args : Array Value} {w : World} (h : c = b) (k : Calls Try.prog f args w (SaysB b w)) : Calls Try.prog f args w (SaysB c w) := by
  subst h
  exact k
theorem kids_len {a b : S47} (ha : (endsC a).isSome = true) (hb : (endsC b).isSome = true) (hk : a.f0 = b.f0) : a.f5.length = b.f5.length ∧ (leafB a.f0 = true → a.f5.length = 0) ∧ ∀ j : Nat, j < a.f5.length → (endsC (rd_T47 a.f5 j)).isSome = true ∧ (endsC (rd_T47 b.f5 j)).isSome = true := by
  rcases ends_kids ha with ⟨h1, e1⟩ | ⟨h1, p, q, e1, hp, hq⟩
  · rcases ends_kids hb with ⟨h2, e2⟩ | ⟨h2, p', q', e2, hp', hq'⟩
    · rw [e1, e2]
      exact ⟨rfl, fun _ => rfl, fun j hj => by simp at hj⟩
    · rw [hk, h2] at h1
      simp at h1
  · rcases ends_kids hb with ⟨h2, e2⟩ | ⟨h2, p', q', e2, hp', hq'⟩
    · rw [hk, h2] at h1
      simp at h1
    · rw [e1, e2, h1]
      refine ⟨rfl, fun h => by simp at h, fun j hj => ?_⟩
      match j, hj with
      | 0, _ => exact ⟨hp, hp'⟩
      | 1, _ => exact ⟨hq, hq'⟩
set_option maxRecDepth 100000 in
set_option maxHeartbeats 1600000 in
theorem rsame_k {a b : S47} {va vb : Value} {w : World} (ha : IsC w va a) (hb : IsC w vb b) (hkk0 : Aside0 (a.f0 ≠ b.f0)) : Calls Try.prog 31 #[va, vb] w (SaysB false w) := by
  obtain ⟨A2, c2, A4, c4, A7, c7, rfl, h1, h2, h3, h4, h5, h6⟩ := ha
  have HTa := Aside0.mk (IsT.mk (k := a.f1.f0) h1 h2)
  have HUa := Aside0.mk (IsT.mk (k := a.f2.f0) h3 h4)
  have HCa := Aside0.mk h6
  have hL : a.f5.length ≤ 9223372036854775807 := h6.2.1
  clear h1 h2 h3 h4 h5 h6
  obtain ⟨A2', c2', A4', c4', A7', c7', rfl, h1, h2, h3, h4, h5, h6⟩ := hb
  have HTb := Aside0.mk (IsT.mk (k := b.f1.f0) h1 h2)
  have HUb := Aside0.mk (IsT.mk (k := b.f2.f0) h3 h4)
  have HCb := Aside0.mk h6
  clear h1 h2 h3 h4 h5 h6
  rw [S35.eta] at HTa HUa HTb HUb
  obtain ⟨k0, k1, hB⟩ := two_ w (.cells #[.int .i8 a.f0, .int .i8 a.f1.f0, .slice A2 a.f1.f1.length c2, .int .i8 a.f2.f0, .slice A4 a.f2.f1.length c4, .int .i64 a.f3, .bool a.f4, .slice A7 a.f5.length c7] 47) (.cells #[.int .i8 b.f0, .int .i8 b.f1.f0, .slice A2' b.f1.f1.length c2', .int .i8 b.f2.f0, .slice A4' b.f2.f1.length c4', .int .i64 b.f3, .bool b.f4, .slice A7' b.f5.length c7'] 47)
  have K0 := Aside0.mk k0
  have K1 := Aside0.mk k1
  have HW := Aside0.mk hB
  clear hB k0 k1
  have hkk : (a.f0 != b.f0) = true := bne_iff_ne.mpr hkk0.out
  have HY := Aside0.mk (Below.refl ((w.alloc (.cells #[.int .i8 a.f0, .int .i8 a.f1.f0, .slice A2 a.f1.f1.length c2, .int .i8 a.f2.f0, .slice A4 a.f2.f1.length c4, .int .i64 a.f3, .bool a.f4, .slice A7 a.f5.length c7] 47)).alloc (.cells #[.int .i8 b.f0, .int .i8 b.f1.f0, .slice A2' b.f1.f1.length c2', .int .i8 b.f2.f0, .slice A4' b.f2.f1.length c4', .int .i64 b.f3, .bool b.f4, .slice A7' b.f5.length c7'] 47)).heap.size ((w.alloc (.cells #[.int .i8 a.f0, .int .i8 a.f1.f0, .slice A2 a.f1.f1.length c2, .int .i8 a.f2.f0, .slice A4 a.f2.f1.length c4, .int .i64 a.f3, .bool a.f4, .slice A7 a.f5.length c7] 47)).alloc (.cells #[.int .i8 b.f0, .int .i8 b.f1.f0, .slice A2' b.f1.f1.length c2', .int .i8 b.f2.f0, .slice A4' b.f2.f1.length c4', .int .i64 b.f3, .bool b.f4, .slice A7' b.f5.length c7'] 47)))
  go_enter Try.func31, Try.ntmps31
  obtain ⟨a0, a1, a2, a3, a4, a5, a6, a7⟩ := cells8 (blk_below K0.out HY.out)
  obtain ⟨b0, b1, b2, b3, b4, b5, b6, b7⟩ := cells8 (blk_below K1.out HY.out)
  go_wp2_with fail
  clear a0 a1 a2 a3 a4 a5 a6 a7 b0 b1 b2 b3 b4 b5 b6 b7
  try generalize (w.alloc (.cells #[.int .i8 a.f0, .int .i8 a.f1.f0, .slice A2 a.f1.f1.length c2, .int .i8 a.f2.f0, .slice A4 a.f2.f1.length c4, .int .i64 a.f3, .bool a.f4, .slice A7 a.f5.length c7] 47)).alloc (.cells #[.int .i8 b.f0, .int .i8 b.f1.f0, .slice A2' b.f1.f1.length c2', .int .i8 b.f2.f0, .slice A4' b.f2.f1.length c4', .int .i64 b.f3, .bool b.f4, .slice A7' b.f5.length c7'] 47) = w0 at *
  go_ret
  exact ⟨rfl, below_then HW.out HW.out.size HY.out⟩
set_option maxRecDepth 100000 in
set_option maxHeartbeats 1600000 in
theorem rsame_d {a b : S47} {va vb : Value} {w : World} (ha : IsC w va a) (hb : IsC w vb b) (hkk0 : Aside0 (a.f0 = b.f0)) (hlf0 : Aside0 (leafB a.f0 = true)) (hst0 : Aside0 (sameB a.f1 b.f1 = false))  : Calls Try.prog 31 #[va, vb] w (SaysB false w) := by
  obtain ⟨A2, c2, A4, c4, A7, c7, rfl, h1, h2, h3, h4, h5, h6⟩ := ha
  have HTa := Aside0.mk (IsT.mk (k := a.f1.f0) h1 h2)
  have HUa := Aside0.mk (IsT.mk (k := a.f2.f0) h3 h4)
  have HCa := Aside0.mk h6
  have hL : a.f5.length ≤ 9223372036854775807 := h6.2.1
  clear h1 h2 h3 h4 h5 h6
  obtain ⟨A2', c2', A4', c4', A7', c7', rfl, h1, h2, h3, h4, h5, h6⟩ := hb
  have HTb := Aside0.mk (IsT.mk (k := b.f1.f0) h1 h2)
  have HUb := Aside0.mk (IsT.mk (k := b.f2.f0) h3 h4)
  have HCb := Aside0.mk h6
  clear h1 h2 h3 h4 h5 h6
  rw [S35.eta] at HTa HUa HTb HUb
  obtain ⟨k0, k1, hB⟩ := two_ w (.cells #[.int .i8 a.f0, .int .i8 a.f1.f0, .slice A2 a.f1.f1.length c2, .int .i8 a.f2.f0, .slice A4 a.f2.f1.length c4, .int .i64 a.f3, .bool a.f4, .slice A7 a.f5.length c7] 47) (.cells #[.int .i8 b.f0, .int .i8 b.f1.f0, .slice A2' b.f1.f1.length c2', .int .i8 b.f2.f0, .slice A4' b.f2.f1.length c4', .int .i64 b.f3, .bool b.f4, .slice A7' b.f5.length c7'] 47)
  have K0 := Aside0.mk k0
  have K1 := Aside0.mk k1
  have HW := Aside0.mk hB
  clear hB k0 k1
  have hkk : (a.f0 != b.f0) = false := bne_eq_false_iff_eq.mpr hkk0.out
  have hlf : leafB a.f0 = true := hlf0.out
  have hst := hst0.out
  have HY := Aside0.mk (Below.refl ((w.alloc (.cells #[.int .i8 a.f0, .int .i8 a.f1.f0, .slice A2 a.f1.f1.length c2, .int .i8 a.f2.f0, .slice A4 a.f2.f1.length c4, .int .i64 a.f3, .bool a.f4, .slice A7 a.f5.length c7] 47)).alloc (.cells #[.int .i8 b.f0, .int .i8 b.f1.f0, .slice A2' b.f1.f1.length c2', .int .i8 b.f2.f0, .slice A4' b.f2.f1.length c4', .int .i64 b.f3, .bool b.f4, .slice A7' b.f5.length c7'] 47)).heap.size ((w.alloc (.cells #[.int .i8 a.f0, .int .i8 a.f1.f0, .slice A2 a.f1.f1.length c2, .int .i8 a.f2.f0, .slice A4 a.f2.f1.length c4, .int .i64 a.f3, .bool a.f4, .slice A7 a.f5.length c7] 47)).alloc (.cells #[.int .i8 b.f0, .int .i8 b.f1.f0, .slice A2' b.f1.f1.length c2', .int .i8 b.f2.f0, .slice A4' b.f2.f1.length c4', .int .i64 b.f3, .bool b.f4, .slice A7' b.f5.length c7'] 47)))
  go_enter Try.func31, Try.ntmps31
  obtain ⟨a0, a1, a2, a3, a4, a5, a6, a7⟩ := cells8 (blk_below K0.out HY.out)
  obtain ⟨b0, b1, b2, b3, b4, b5, b6, b7⟩ := cells8 (blk_below K1.out HY.out)
  go_wp2_with fail
  clear a0 a1 a2 a3 a4 a5 a6 a7 b0 b1 b2 b3 b4 b5 b6 b7
  generalize (w.alloc (.cells #[.int .i8 a.f0, .int .i8 a.f1.f0, .slice A2 a.f1.f1.length c2, .int .i8 a.f2.f0, .slice A4 a.f2.f1.length c4, .int .i64 a.f3, .bool a.f4, .slice A7 a.f5.length c7] 47)).alloc (.cells #[.int .i8 b.f0, .int .i8 b.f1.f0, .slice A2' b.f1.f1.length c2', .int .i8 b.f2.f0, .slice A4' b.f2.f1.length c4', .int .i64 b.f3, .bool b.f4, .slice A7' b.f5.length c7'] 47) = w0 at *
  refine (typed_calls a.f0 _).mono ?_
  rintro e w1 ⟨rfl, hB⟩
  rw [hlf]
  replace HY := Aside0.mk (below_then HY.out HY.out.size hB)
  clear hB
  obtain ⟨a0, a1, a2, a3, a4, a5, a6, a7⟩ := cells8 (blk_below K0.out HY.out)
  obtain ⟨b0, b1, b2, b3, b4, b5, b6, b7⟩ := cells8 (blk_below K1.out HY.out)
  go_wp2_with fail
  clear a0 a1 a2 a3 a4 a5 a6 a7 b0 b1 b2 b3 b4 b5 b6 b7
  refine (refSame_calls (HTa.out.below (below_then HW.out HW.out.size HY.out)) (HTb.out.below (below_then HW.out HW.out.size HY.out))).mono ?_
  rintro e w2 ⟨rfl, hB⟩
  rw [hst]
  replace HY := Aside0.mk (below_then HY.out HY.out.size hB)
  clear hB
  obtain ⟨a0, a1, a2, a3, a4, a5, a6, a7⟩ := cells8 (blk_below K0.out HY.out)
  obtain ⟨b0, b1, b2, b3, b4, b5, b6, b7⟩ := cells8 (blk_below K1.out HY.out)
  go_wp2_with fail
  clear a0 a1 a2 a3 a4 a5 a6 a7 b0 b1 b2 b3 b4 b5 b6 b7
  go_ret
  exact ⟨rfl, below_then HW.out HW.out.size HY.out⟩
set_option maxRecDepth 100000 in
set_option maxHeartbeats 1600000 in
theorem rsame_s {a b : S47} {va vb : Value} {w : World} (ha : IsC w va a) (hb : IsC w vb b) (hkk0 : Aside0 (a.f0 = b.f0)) (hlf0 : Aside0 (leafB a.f0 = true)) (hst0 : Aside0 (sameB a.f1 b.f1 = true)) (hn1 : Aside0 (a.f0 ≠ 1)) (hn3 : Aside0 (a.f0 ≠ 3)) (hz : Aside0 (a.f5.length = 0))  : Calls Try.prog 31 #[va, vb] w (SaysB true w) := by
  obtain ⟨A2, c2, A4, c4, A7, c7, rfl, h1, h2, h3, h4, h5, h6⟩ := ha
  have HTa := Aside0.mk (IsT.mk (k := a.f1.f0) h1 h2)
  have HUa := Aside0.mk (IsT.mk (k := a.f2.f0) h3 h4)
  have HCa := Aside0.mk h6
  have hL : a.f5.length ≤ 9223372036854775807 := h6.2.1
  clear h1 h2 h3 h4 h5 h6
  obtain ⟨A2', c2', A4', c4', A7', c7', rfl, h1, h2, h3, h4, h5, h6⟩ := hb
  have HTb := Aside0.mk (IsT.mk (k := b.f1.f0) h1 h2)
  have HUb := Aside0.mk (IsT.mk (k := b.f2.f0) h3 h4)
  have HCb := Aside0.mk h6
  clear h1 h2 h3 h4 h5 h6
  rw [S35.eta] at HTa HUa HTb HUb
  obtain ⟨k0, k1, hB⟩ := two_ w (.cells #[.int .i8 a.f0, .int .i8 a.f1.f0, .slice A2 a.f1.f1.length c2, .int .i8 a.f2.f0, .slice A4 a.f2.f1.length c4, .int .i64 a.f3, .bool a.f4, .slice A7 a.f5.length c7] 47) (.cells #[.int .i8 b.f0, .int .i8 b.f1.f0, .slice A2' b.f1.f1.length c2', .int .i8 b.f2.f0, .slice A4' b.f2.f1.length c4', .int .i64 b.f3, .bool b.f4, .slice A7' b.f5.length c7'] 47)
  have K0 := Aside0.mk k0
  have K1 := Aside0.mk k1
  have HW := Aside0.mk hB
  clear hB k0 k1
  have hkk : (a.f0 != b.f0) = false := bne_eq_false_iff_eq.mpr hkk0.out
  have hlf : leafB a.f0 = true := hlf0.out
  have hst := hst0.out
  have hto : decide (a.f0 = 1) = false := decide_eq_false hn1.out
  have hlb : (decide (a.f0 = 1) || decide (a.f0 = 3)) = false := by rw [hto, decide_eq_false hn3.out]; rfl
  have HY := Aside0.mk (Below.refl ((w.alloc (.cells #[.int .i8 a.f0, .int .i8 a.f1.f0, .slice A2 a.f1.f1.length c2, .int .i8 a.f2.f0, .slice A4 a.f2.f1.length c4, .int .i64 a.f3, .bool a.f4, .slice A7 a.f5.length c7] 47)).alloc (.cells #[.int .i8 b.f0, .int .i8 b.f1.f0, .slice A2' b.f1.f1.length c2', .int .i8 b.f2.f0, .slice A4' b.f2.f1.length c4', .int .i64 b.f3, .bool b.f4, .slice A7' b.f5.length c7'] 47)).heap.size ((w.alloc (.cells #[.int .i8 a.f0, .int .i8 a.f1.f0, .slice A2 a.f1.f1.length c2, .int .i8 a.f2.f0, .slice A4 a.f2.f1.length c4, .int .i64 a.f3, .bool a.f4, .slice A7 a.f5.length c7] 47)).alloc (.cells #[.int .i8 b.f0, .int .i8 b.f1.f0, .slice A2' b.f1.f1.length c2', .int .i8 b.f2.f0, .slice A4' b.f2.f1.length c4', .int .i64 b.f3, .bool b.f4, .slice A7' b.f5.length c7'] 47)))
  go_enter Try.func31, Try.ntmps31
  obtain ⟨a0, a1, a2, a3, a4, a5, a6, a7⟩ := cells8 (blk_below K0.out HY.out)
  obtain ⟨b0, b1, b2, b3, b4, b5, b6, b7⟩ := cells8 (blk_below K1.out HY.out)
  go_wp2_with fail
  clear a0 a1 a2 a3 a4 a5 a6 a7 b0 b1 b2 b3 b4 b5 b6 b7
  generalize (w.alloc (.cells #[.int .i8 a.f0, .int .i8 a.f1.f0, .slice A2 a.f1.f1.length c2, .int .i8 a.f2.f0, .slice A4 a.f2.f1.length c4, .int .i64 a.f3, .bool a.f4, .slice A7 a.f5.length c7] 47)).alloc (.cells #[.int .i8 b.f0, .int .i8 b.f1.f0, .slice A2' b.f1.f1.length c2', .int .i8 b.f2.f0, .slice A4' b.f2.f1.length c4', .int .i64 b.f3, .bool b.f4, .slice A7' b.f5.length c7'] 47) = w0 at *
  refine (typed_calls a.f0 _).mono ?_
  rintro e w1 ⟨rfl, hB⟩
  rw [hlf]
  replace HY := Aside0.mk (below_then HY.out HY.out.size hB)
  clear hB
  obtain ⟨a0, a1, a2, a3, a4, a5, a6, a7⟩ := cells8 (blk_below K0.out HY.out)
  obtain ⟨b0, b1, b2, b3, b4, b5, b6, b7⟩ := cells8 (blk_below K1.out HY.out)
  go_wp2_with fail
  clear a0 a1 a2 a3 a4 a5 a6 a7 b0 b1 b2 b3 b4 b5 b6 b7
  refine (refSame_calls (HTa.out.below (below_then HW.out HW.out.size HY.out)) (HTb.out.below (below_then HW.out HW.out.size HY.out))).mono ?_
  rintro e w2 ⟨rfl, hB⟩
  rw [hst]
  replace HY := Aside0.mk (below_then HY.out HY.out.size hB)
  clear hB
  obtain ⟨a0, a1, a2, a3, a4, a5, a6, a7⟩ := cells8 (blk_below K0.out HY.out)
  obtain ⟨b0, b1, b2, b3, b4, b5, b6, b7⟩ := cells8 (blk_below K1.out HY.out)
  go_wp2_with fail
  clear a0 a1 a2 a3 a4 a5 a6 a7 b0 b1 b2 b3 b4 b5 b6 b7
  refine (toed_calls a.f0 _).mono ?_
  rintro e w3 ⟨rfl, hB⟩
  rw [hto]
  replace HY := Aside0.mk (below_then HY.out HY.out.size hB)
  clear hB
  obtain ⟨a0, a1, a2, a3, a4, a5, a6, a7⟩ := cells8 (blk_below K0.out HY.out)
  obtain ⟨b0, b1, b2, b3, b4, b5, b6, b7⟩ := cells8 (blk_below K1.out HY.out)
  go_wp2_with fail
  clear a0 a1 a2 a3 a4 a5 a6 a7 b0 b1 b2 b3 b4 b5 b6 b7
  refine (labelled_calls a.f0 _).mono ?_
  rintro e w4 ⟨rfl, hB⟩
  rw [hlb]
  replace HY := Aside0.mk (below_then HY.out HY.out.size hB)
  clear hB
  obtain ⟨a0, a1, a2, a3, a4, a5, a6, a7⟩ := cells8 (blk_below K0.out HY.out)
  obtain ⟨b0, b1, b2, b3, b4, b5, b6, b7⟩ := cells8 (blk_below K1.out HY.out)
  go_wp2_with fail
  clear a0 a1 a2 a3 a4 a5 a6 a7 b0 b1 b2 b3 b4 b5 b6 b7
  go_loopw [5] (fun i wr => i = .int .i64 0 ∧ Below w.heap.size w wr ∧ wr.heap[w.heap.size]? = some (.cells #[.int .i8 a.f0, .int .i8 a.f1.f0, .slice A2 a.f1.f1.length c2, .int .i8 a.f2.f0, .slice A4 a.f2.f1.length c4, .int .i64 a.f3, .bool a.f4, .slice A7 a.f5.length c7] 47 (0, 0))) (fun _ _ => 0)
  case atStart => exact ⟨rfl, below_then HW.out HW.out.size HY.out, blk_below K0.out HY.out⟩
  case round =>
    obtain ⟨rfl, hW, hK⟩ := hrel
    have HW2 := Aside0.mk hW
    obtain ⟨a0, a1, a2, a3, a4, a5, a6, a7⟩ := cells8 hK
    rw [hz.out] at a7
    clear hW hK
    go_wp2_with fail
    go_ret
    exact ⟨rfl, HW2.out⟩
set_option maxRecDepth 100000 in
set_option maxHeartbeats 1600000 in
theorem rsame_n {a b : S47} {va vb : Value} {w : World} (ha : IsC w va a) (hb : IsC w vb b) (hkk0 : Aside0 (a.f0 = b.f0)) (hlf0 : Aside0 (leafB a.f0 = false)) (hn1 : Aside0 (a.f0 ≠ 1)) (hn3 : Aside0 (a.f0 ≠ 3)) (hlen : Aside0 (a.f5.length = b.f5.length)) (hks : Aside0 (∀ j : Nat, j < a.f5.length → (endsC (rd_T47 a.f5 j)).isSome = true ∧ (endsC (rd_T47 b.f5 j)).isSome = true)) (IH : Aside0 (∀ (y z : S47) (vy vz : Value) (w : World), cnodes y < cnodes a → (endsC y).isSome = true → (endsC z).isSome = true → IsC w vy y → IsC w vz z → Calls Try.prog 31 #[vy, vz] w (SaysB (likeC y z) w))) : Calls Try.prog 31 #[va, vb] w (SaysB (likeCL a.f5 b.f5) w) := by
  obtain ⟨A2, c2, A4, c4, A7, c7, rfl, h1, h2, h3, h4, h5, h6⟩ := ha
  have HTa := Aside0.mk (IsT.mk (k := a.f1.f0) h1 h2)
  have HUa := Aside0.mk (IsT.mk (k := a.f2.f0) h3 h4)
  have HCa := Aside0.mk h6
  have hL : a.f5.length ≤ 9223372036854775807 := h6.2.1
  clear h1 h2 h3 h4 h5 h6
  obtain ⟨A2', c2', A4', c4', A7', c7', rfl, h1, h2, h3, h4, h5, h6⟩ := hb
  have HTb := Aside0.mk (IsT.mk (k := b.f1.f0) h1 h2)
  have HUb := Aside0.mk (IsT.mk (k := b.f2.f0) h3 h4)
  have HCb := Aside0.mk h6
  clear h1 h2 h3 h4 h5 h6
  rw [S35.eta] at HTa HUa HTb HUb
  obtain ⟨k0, k1, hB⟩ := two_ w (.cells #[.int .i8 a.f0, .int .i8 a.f1.f0, .slice A2 a.f1.f1.length c2, .int .i8 a.f2.f0, .slice A4 a.f2.f1.length c4, .int .i64 a.f3, .bool a.f4, .slice A7 a.f5.length c7] 47) (.cells #[.int .i8 b.f0, .int .i8 b.f1.f0, .slice A2' b.f1.f1.length c2', .int .i8 b.f2.f0, .slice A4' b.f2.f1.length c4', .int .i64 b.f3, .bool b.f4, .slice A7' b.f5.length c7'] 47)
  have K0 := Aside0.mk k0
  have K1 := Aside0.mk k1
  have HW := Aside0.mk hB
  clear hB k0 k1
  have hkk : (a.f0 != b.f0) = false := bne_eq_false_iff_eq.mpr hkk0.out
  have hlf : leafB a.f0 = false := hlf0.out
  have hto : decide (a.f0 = 1) = false := decide_eq_false hn1.out
  have hlb : (decide (a.f0 = 1) || decide (a.f0 = 3)) = false := by rw [hto, decide_eq_false hn3.out]; rfl
  have HY := Aside0.mk (Below.refl ((w.alloc (.cells #[.int .i8 a.f0, .int .i8 a.f1.f0, .slice A2 a.f1.f1.length c2, .int .i8 a.f2.f0, .slice A4 a.f2.f1.length c4, .int .i64 a.f3, .bool a.f4, .slice A7 a.f5.length c7] 47)).alloc (.cells #[.int .i8 b.f0, .int .i8 b.f1.f0, .slice A2' b.f1.f1.length c2', .int .i8 b.f2.f0, .slice A4' b.f2.f1.length c4', .int .i64 b.f3, .bool b.f4, .slice A7' b.f5.length c7'] 47)).heap.size ((w.alloc (.cells #[.int .i8 a.f0, .int .i8 a.f1.f0, .slice A2 a.f1.f1.length c2, .int .i8 a.f2.f0, .slice A4 a.f2.f1.length c4, .int .i64 a.f3, .bool a.f4, .slice A7 a.f5.length c7] 47)).alloc (.cells #[.int .i8 b.f0, .int .i8 b.f1.f0, .slice A2' b.f1.f1.length c2', .int .i8 b.f2.f0, .slice A4' b.f2.f1.length c4', .int .i64 b.f3, .bool b.f4, .slice A7' b.f5.length c7'] 47)))
  go_enter Try.func31, Try.ntmps31
  obtain ⟨a0, a1, a2, a3, a4, a5, a6, a7⟩ := cells8 (blk_below K0.out HY.out)
  obtain ⟨b0, b1, b2, b3, b4, b5, b6, b7⟩ := cells8 (blk_below K1.out HY.out)
  go_wp2_with fail
  clear a0 a1 a2 a3 a4 a5 a6 a7 b0 b1 b2 b3 b4 b5 b6 b7
  generalize (w.alloc (.cells #[.int .i8 a.f0, .int .i8 a.f1.f0, .slice A2 a.f1.f1.length c2, .int .i8 a.f2.f0, .slice A4 a.f2.f1.length c4, .int .i64 a.f3, .bool a.f4, .slice A7 a.f5.length c7] 47)).alloc (.cells #[.int .i8 b.f0, .int .i8 b.f1.f0, .slice A2' b.f1.f1.length c2', .int .i8 b.f2.f0, .slice A4' b.f2.f1.length c4', .int .i64 b.f3, .bool b.f4, .slice A7' b.f5.length c7'] 47) = w0 at *
  refine (typed_calls a.f0 _).mono ?_
  rintro e w1 ⟨rfl, hB⟩
  rw [hlf]
  replace HY := Aside0.mk (below_then HY.out HY.out.size hB)
  clear hB
  obtain ⟨a0, a1, a2, a3, a4, a5, a6, a7⟩ := cells8 (blk_below K0.out HY.out)
  obtain ⟨b0, b1, b2, b3, b4, b5, b6, b7⟩ := cells8 (blk_below K1.out HY.out)
  go_wp2_with fail
  clear a0 a1 a2 a3 a4 a5 a6 a7 b0 b1 b2 b3 b4 b5 b6 b7
  refine (toed_calls a.f0 _).mono ?_
  rintro e w2 ⟨rfl, hB⟩
  rw [hto]
  replace HY := Aside0.mk (below_then HY.out HY.out.size hB)
  clear hB
  obtain ⟨a0, a1, a2, a3, a4, a5, a6, a7⟩ := cells8 (blk_below K0.out HY.out)
  obtain ⟨b0, b1, b2, b3, b4, b5, b6, b7⟩ := cells8 (blk_below K1.out HY.out)
  go_wp2_with fail
  clear a0 a1 a2 a3 a4 a5 a6 a7 b0 b1 b2 b3 b4 b5 b6 b7
  refine (labelled_calls a.f0 _).mono ?_
  rintro e w3 ⟨rfl, hB⟩
  rw [hlb]
  replace HY := Aside0.mk (below_then HY.out HY.out.size hB)
  clear hB
  obtain ⟨a0, a1, a2, a3, a4, a5, a6, a7⟩ := cells8 (blk_below K0.out HY.out)
  obtain ⟨b0, b1, b2, b3, b4, b5, b6, b7⟩ := cells8 (blk_below K1.out HY.out)
  go_wp2_with fail
  clear a0 a1 a2 a3 a4 a5 a6 a7 b0 b1 b2 b3 b4 b5 b6 b7
  have HK0 := Aside0.mk (blk_below K0.out HY.out)
  have HK1 := Aside0.mk (blk_below K1.out HY.out)
  replace HW := Aside0.mk (below_then HW.out HW.out.size HY.out)
  clear HY K0 K1
  generalize w3 = wl at *
  go_loopw [5] (fun i wr => ∃ j : Nat, i = .int .i64 j ∧ j ≤ a.f5.length ∧ likeCL (a.f5.drop j) (b.f5.drop j) = likeCL a.f5 b.f5 ∧ Below wl.heap.size wl wr) (fun i _ => a.f5.length - (intOf i).toNat)
  case atStart => exact ⟨0, rfl, Nat.zero_le _, by simp, Below.refl _ _⟩
  case round =>
    obtain ⟨j, rfl, hj, hinv, hB⟩ := hrel
    have HY := Aside0.mk hB
    have HI := Aside0.mk hinv
    clear hB hinv
    have K0 := Aside0.mk (blk_below HK0.out HY.out)
    have K1 := Aside0.mk (blk_below HK1.out HY.out)
    by_cases hlt : j < a.f5.length
    · have hlt2 : j < b.f5.length := by have := hlen.out; omega
      have HWr := Aside0.mk (below_then HW.out HW.out.size HY.out)
      obtain ⟨ad, P2, Pn2, P4, Pn4, P7, Pn7, rfl, hca, hka⟩ := kid_at (Kd.C_below HCa.out HWr.out) (j : Int) (by omega) (by omega) rfl
      obtain ⟨ae, Q2, Qn2, Q4, Qn4, Q7, Qn7, rfl, hcb, hkb⟩ := kid_at (Kd.C_below HCb.out HWr.out) (j : Int) (by omega) (by omega) rfl
      have HKa := Aside0.mk hka
      have HKb := Aside0.mk hkb
      have HDr := Aside0.mk (likeCL_drop a.f5 b.f5 j hlt hlt2)
      have HN : Aside0 (cnodes (rd_T47 a.f5 (j : Int)) < cnodes a) := .mk (by have e1 := cnodesL_drop a.f5 j hlt; have e2 := cnodesL_drop_le a.f5 j; have e3 := cnodes_eq a; omega)
      have HS := Aside0.mk (hks.out j hlt)
      have HDa := Aside0.mk hca
      have HDb := Aside0.mk hcb
      clear hka hkb hca hcb
      generalize rd_T47 a.f5 (j : Int) = y at *
      generalize rd_T47 b.f5 (j : Int) = z at *
      obtain ⟨a0, a1, a2, a3, a4, a5, a6, a7⟩ := cells8 K0.out
      go_wp2_with fail
      clear a0 a1 a2 a3 a4 a5 a6 a7
      have hda := HDa.out
      have hdb := HDb.out
      simp only [Int.toNat_natCast] at hda hdb
      refine wp_region_held_drew (S := fun w' => w'.cell? ⟨w.heap.size, 7, none⟩ = some (.slice (some ad) a.f5.length c7) ∧ w'.cell? ⟨w.heap.size + 1, 7, none⟩ = some (.slice (some ae) b.f5.length c7') ∧ (w'.cell? (ad.add (j * 8)) = some (.int .i8 y.f0) ∧ w'.cell? ⟨(ad.add (j * 8)).block, (ad.add (j * 8)).off + 1, none⟩ = some (.int .i8 y.f1.f0) ∧ w'.cell? ⟨(ad.add (j * 8)).block, (ad.add (j * 8)).off + 2, none⟩ = some (.slice P2 y.f1.f1.length Pn2) ∧ w'.cell? ⟨(ad.add (j * 8)).block, (ad.add (j * 8)).off + 3, none⟩ = some (.int .i8 y.f2.f0) ∧ w'.cell? ⟨(ad.add (j * 8)).block, (ad.add (j * 8)).off + 4, none⟩ = some (.slice P4 y.f2.f1.length Pn4) ∧ w'.cell? ⟨(ad.add (j * 8)).block, (ad.add (j * 8)).off + 5, none⟩ = some (.int .i64 y.f3) ∧ w'.cell? ⟨(ad.add (j * 8)).block, (ad.add (j * 8)).off + 6, none⟩ = some (.bool y.f4) ∧ w'.cell? ⟨(ad.add (j * 8)).block, (ad.add (j * 8)).off + 7, none⟩ = some (.slice P7 y.f5.length Pn7)) ∧ (w'.cell? (ae.add (j * 8)) = some (.int .i8 z.f0) ∧ w'.cell? ⟨(ae.add (j * 8)).block, (ae.add (j * 8)).off + 1, none⟩ = some (.int .i8 z.f1.f0) ∧ w'.cell? ⟨(ae.add (j * 8)).block, (ae.add (j * 8)).off + 2, none⟩ = some (.slice Q2 z.f1.f1.length Qn2) ∧ w'.cell? ⟨(ae.add (j * 8)).block, (ae.add (j * 8)).off + 3, none⟩ = some (.int .i8 z.f2.f0) ∧ w'.cell? ⟨(ae.add (j * 8)).block, (ae.add (j * 8)).off + 4, none⟩ = some (.slice Q4 z.f2.f1.length Qn4) ∧ w'.cell? ⟨(ae.add (j * 8)).block, (ae.add (j * 8)).off + 5, none⟩ = some (.int .i64 z.f3) ∧ w'.cell? ⟨(ae.add (j * 8)).block, (ae.add (j * 8)).off + 6, none⟩ = some (.bool z.f4) ∧ w'.cell? ⟨(ae.add (j * 8)).block, (ae.add (j * 8)).off + 7, none⟩ = some (.slice Q7 z.f5.length Qn7))) (by kernel_rfl) ⟨bcl K0.out, bcl K1.out, hda, hdb⟩ (fun hHeld => ?_)
      clear hda hdb
      have hB := (Below.refl wr.heap.size wr).drew
      replace HY := Aside0.mk (below_then HY.out HY.out.size hB)
      replace HKa := Aside0.mk (HKa.out.below hB)
      replace HKb := Aside0.mk (HKb.out.below hB)
      clear hB
      generalize wr.drew = wd at *
      refine tK 63 0 hHeld ?_
      refine tK 64 1 hHeld ?_
      refine tK 65 2 hHeld ?_
      refine tK 66 3 hHeld ?_
      refine tK 67 4 hHeld ?_
      refine tK 68 5 hHeld ?_
      refine tK 69 6 hHeld ?_
      refine tK 70 7 hHeld ?_
      refine tK 71 8 hHeld ?_
      refine tK 72 9 hHeld ?_
      cases hyz : likeC y z with
      | false =>
        refine cK 73 10 (IH.out y z _ _ _ HN.out HS.out.1 HS.out.2 HKa.out HKb.out) ?_
        rintro e we ⟨rfl, hB⟩
        rw [hyz]
        replace HY := Aside0.mk (below_then HY.out HY.out.size hB)
        refine ⟨_, rfl, ⟨pwc hB hHeld.1, pwc hB hHeld.2.1, ⟨pwc hB hHeld.2.2.1.1, pwc hB hHeld.2.2.1.2.1, pwc hB hHeld.2.2.1.2.2.1, pwc hB hHeld.2.2.1.2.2.2.1, pwc hB hHeld.2.2.1.2.2.2.2.1, pwc hB hHeld.2.2.1.2.2.2.2.2.1, pwc hB hHeld.2.2.1.2.2.2.2.2.2.1, pwc hB hHeld.2.2.1.2.2.2.2.2.2.2⟩, ⟨pwc hB hHeld.2.2.2.1, pwc hB hHeld.2.2.2.2.1, pwc hB hHeld.2.2.2.2.2.1, pwc hB hHeld.2.2.2.2.2.2.1, pwc hB hHeld.2.2.2.2.2.2.2.1, pwc hB hHeld.2.2.2.2.2.2.2.2.1, pwc hB hHeld.2.2.2.2.2.2.2.2.2.1, pwc hB hHeld.2.2.2.2.2.2.2.2.2.2⟩⟩, fun hHeld => nA ?_⟩
        clear hB
        refine tK 74 11 hHeld ?_
        refine wpAnyH_done (by kernel_rfl) ?_ _
        have hr : likeCL a.f5 b.f5 = false := by rw [← HI.out, HDr.out, hyz]; rfl
        go_wp2_with fail
        go_ret
        exact ⟨by first | rfl | (rw [hr]; rfl), below_then HW.out HW.out.size HY.out⟩
      | true =>
        refine cK 73 10 (IH.out y z _ _ _ HN.out HS.out.1 HS.out.2 HKa.out HKb.out) ?_
        rintro e we ⟨rfl, hB⟩
        rw [hyz]
        replace HY := Aside0.mk (below_then HY.out HY.out.size hB)
        refine ⟨_, rfl, ⟨pwc hB hHeld.1, pwc hB hHeld.2.1, ⟨pwc hB hHeld.2.2.1.1, pwc hB hHeld.2.2.1.2.1, pwc hB hHeld.2.2.1.2.2.1, pwc hB hHeld.2.2.1.2.2.2.1, pwc hB hHeld.2.2.1.2.2.2.2.1, pwc hB hHeld.2.2.1.2.2.2.2.2.1, pwc hB hHeld.2.2.1.2.2.2.2.2.2.1, pwc hB hHeld.2.2.1.2.2.2.2.2.2.2⟩, ⟨pwc hB hHeld.2.2.2.1, pwc hB hHeld.2.2.2.2.1, pwc hB hHeld.2.2.2.2.2.1, pwc hB hHeld.2.2.2.2.2.2.1, pwc hB hHeld.2.2.2.2.2.2.2.1, pwc hB hHeld.2.2.2.2.2.2.2.2.1, pwc hB hHeld.2.2.2.2.2.2.2.2.2.1, pwc hB hHeld.2.2.2.2.2.2.2.2.2.2⟩⟩, fun hHeld => nA ?_⟩
        clear hB
        refine tK 74 11 hHeld ?_
        refine wpAnyH_done (by kernel_rfl) ?_ _
        go_wp2_with fail
        go_roundw
        case rel => exact ⟨j + 1, by go_num, by omega, by rw [← HI.out, HDr.out, hyz]; rfl, HY.out⟩
        case measure => simp [intOf]; omega
    · obtain rfl : j = a.f5.length := by omega
      have hr : likeCL a.f5 b.f5 = true := by have := HI.out; rw [List.drop_eq_nil_of_le (Nat.le_refl _), likeCL] at this; exact this.symm
      obtain ⟨a0, a1, a2, a3, a4, a5, a6, a7⟩ := cells8 K0.out
      go_wp2_with fail
      go_ret
      exact ⟨by first | rfl | (rw [hr]; rfl), below_then HW.out HW.out.size HY.out⟩
set_option maxRecDepth 100000 in
set_option maxHeartbeats 1600000 in
theorem rsame_1u {a b : S47} {va vb : Value} {w : World} (ha : IsC w va a) (hb : IsC w vb b) (hkk0 : Aside0 (a.f0 = b.f0)) (hk : Aside0 (a.f0 = 1)) (hst0 : Aside0 (sameB a.f1 b.f1 = true)) (hsu0 : Aside0 (sameB a.f2 b.f2 = false))  : Calls Try.prog 31 #[va, vb] w (SaysB false w) := by
  obtain ⟨A2, c2, A4, c4, A7, c7, rfl, h1, h2, h3, h4, h5, h6⟩ := ha
  have HTa := Aside0.mk (IsT.mk (k := a.f1.f0) h1 h2)
  have HUa := Aside0.mk (IsT.mk (k := a.f2.f0) h3 h4)
  have HCa := Aside0.mk h6
  have hL : a.f5.length ≤ 9223372036854775807 := h6.2.1
  clear h1 h2 h3 h4 h5 h6
  obtain ⟨A2', c2', A4', c4', A7', c7', rfl, h1, h2, h3, h4, h5, h6⟩ := hb
  have HTb := Aside0.mk (IsT.mk (k := b.f1.f0) h1 h2)
  have HUb := Aside0.mk (IsT.mk (k := b.f2.f0) h3 h4)
  have HCb := Aside0.mk h6
  clear h1 h2 h3 h4 h5 h6
  rw [S35.eta] at HTa HUa HTb HUb
  obtain ⟨k0, k1, hB⟩ := two_ w (.cells #[.int .i8 a.f0, .int .i8 a.f1.f0, .slice A2 a.f1.f1.length c2, .int .i8 a.f2.f0, .slice A4 a.f2.f1.length c4, .int .i64 a.f3, .bool a.f4, .slice A7 a.f5.length c7] 47) (.cells #[.int .i8 b.f0, .int .i8 b.f1.f0, .slice A2' b.f1.f1.length c2', .int .i8 b.f2.f0, .slice A4' b.f2.f1.length c4', .int .i64 b.f3, .bool b.f4, .slice A7' b.f5.length c7'] 47)
  have K0 := Aside0.mk k0
  have K1 := Aside0.mk k1
  have HW := Aside0.mk hB
  clear hB k0 k1
  have hkk : (a.f0 != b.f0) = false := bne_eq_false_iff_eq.mpr hkk0.out
  have hlf : leafB a.f0 = true := by rw [hk.out]; rfl
  have hst := hst0.out
  have hto : decide (a.f0 = 1) = true := by rw [hk.out]; rfl
  have hlb : (decide (a.f0 = 1) || decide (a.f0 = 3)) = true := by rw [hk.out]; rfl
  have hsu := hsu0.out
  have HY := Aside0.mk (Below.refl ((w.alloc (.cells #[.int .i8 a.f0, .int .i8 a.f1.f0, .slice A2 a.f1.f1.length c2, .int .i8 a.f2.f0, .slice A4 a.f2.f1.length c4, .int .i64 a.f3, .bool a.f4, .slice A7 a.f5.length c7] 47)).alloc (.cells #[.int .i8 b.f0, .int .i8 b.f1.f0, .slice A2' b.f1.f1.length c2', .int .i8 b.f2.f0, .slice A4' b.f2.f1.length c4', .int .i64 b.f3, .bool b.f4, .slice A7' b.f5.length c7'] 47)).heap.size ((w.alloc (.cells #[.int .i8 a.f0, .int .i8 a.f1.f0, .slice A2 a.f1.f1.length c2, .int .i8 a.f2.f0, .slice A4 a.f2.f1.length c4, .int .i64 a.f3, .bool a.f4, .slice A7 a.f5.length c7] 47)).alloc (.cells #[.int .i8 b.f0, .int .i8 b.f1.f0, .slice A2' b.f1.f1.length c2', .int .i8 b.f2.f0, .slice A4' b.f2.f1.length c4', .int .i64 b.f3, .bool b.f4, .slice A7' b.f5.length c7'] 47)))
  go_enter Try.func31, Try.ntmps31
  obtain ⟨a0, a1, a2, a3, a4, a5, a6, a7⟩ := cells8 (blk_below K0.out HY.out)
  obtain ⟨b0, b1, b2, b3, b4, b5, b6, b7⟩ := cells8 (blk_below K1.out HY.out)
  go_wp2_with fail
  clear a0 a1 a2 a3 a4 a5 a6 a7 b0 b1 b2 b3 b4 b5 b6 b7
  generalize (w.alloc (.cells #[.int .i8 a.f0, .int .i8 a.f1.f0, .slice A2 a.f1.f1.length c2, .int .i8 a.f2.f0, .slice A4 a.f2.f1.length c4, .int .i64 a.f3, .bool a.f4, .slice A7 a.f5.length c7] 47)).alloc (.cells #[.int .i8 b.f0, .int .i8 b.f1.f0, .slice A2' b.f1.f1.length c2', .int .i8 b.f2.f0, .slice A4' b.f2.f1.length c4', .int .i64 b.f3, .bool b.f4, .slice A7' b.f5.length c7'] 47) = w0 at *
  refine (typed_calls a.f0 _).mono ?_
  rintro e w1 ⟨rfl, hB⟩
  rw [hlf]
  replace HY := Aside0.mk (below_then HY.out HY.out.size hB)
  clear hB
  obtain ⟨a0, a1, a2, a3, a4, a5, a6, a7⟩ := cells8 (blk_below K0.out HY.out)
  obtain ⟨b0, b1, b2, b3, b4, b5, b6, b7⟩ := cells8 (blk_below K1.out HY.out)
  go_wp2_with fail
  clear a0 a1 a2 a3 a4 a5 a6 a7 b0 b1 b2 b3 b4 b5 b6 b7
  refine (refSame_calls (HTa.out.below (below_then HW.out HW.out.size HY.out)) (HTb.out.below (below_then HW.out HW.out.size HY.out))).mono ?_
  rintro e w2 ⟨rfl, hB⟩
  rw [hst]
  replace HY := Aside0.mk (below_then HY.out HY.out.size hB)
  clear hB
  obtain ⟨a0, a1, a2, a3, a4, a5, a6, a7⟩ := cells8 (blk_below K0.out HY.out)
  obtain ⟨b0, b1, b2, b3, b4, b5, b6, b7⟩ := cells8 (blk_below K1.out HY.out)
  go_wp2_with fail
  clear a0 a1 a2 a3 a4 a5 a6 a7 b0 b1 b2 b3 b4 b5 b6 b7
  refine (toed_calls a.f0 _).mono ?_
  rintro e w3 ⟨rfl, hB⟩
  rw [hto]
  replace HY := Aside0.mk (below_then HY.out HY.out.size hB)
  clear hB
  obtain ⟨a0, a1, a2, a3, a4, a5, a6, a7⟩ := cells8 (blk_below K0.out HY.out)
  obtain ⟨b0, b1, b2, b3, b4, b5, b6, b7⟩ := cells8 (blk_below K1.out HY.out)
  go_wp2_with fail
  clear a0 a1 a2 a3 a4 a5 a6 a7 b0 b1 b2 b3 b4 b5 b6 b7
  refine (refSame_calls (HUa.out.below (below_then HW.out HW.out.size HY.out)) (HUb.out.below (below_then HW.out HW.out.size HY.out))).mono ?_
  rintro e w4 ⟨rfl, hB⟩
  rw [hsu]
  replace HY := Aside0.mk (below_then HY.out HY.out.size hB)
  clear hB
  obtain ⟨a0, a1, a2, a3, a4, a5, a6, a7⟩ := cells8 (blk_below K0.out HY.out)
  obtain ⟨b0, b1, b2, b3, b4, b5, b6, b7⟩ := cells8 (blk_below K1.out HY.out)
  go_wp2_with fail
  clear a0 a1 a2 a3 a4 a5 a6 a7 b0 b1 b2 b3 b4 b5 b6 b7
  go_ret
  exact ⟨rfl, below_then HW.out HW.out.size HY.out⟩
set_option maxRecDepth 100000 in
set_option maxHeartbeats 1600000 in
theorem rsame_1x {a b : S47} {va vb : Value} {w : World} (ha : IsC w va a) (hb : IsC w vb b) (hkk0 : Aside0 (a.f0 = b.f0)) (hk : Aside0 (a.f0 = 1)) (hst0 : Aside0 (sameB a.f1 b.f1 = true)) (hsu0 : Aside0 (sameB a.f2 b.f2 = true)) (hla0 : Aside0 (a.f3 ≠ b.f3))  : Calls Try.prog 31 #[va, vb] w (SaysB false w) := by
  obtain ⟨A2, c2, A4, c4, A7, c7, rfl, h1, h2, h3, h4, h5, h6⟩ := ha
  have HTa := Aside0.mk (IsT.mk (k := a.f1.f0) h1 h2)
  have HUa := Aside0.mk (IsT.mk (k := a.f2.f0) h3 h4)
  have HCa := Aside0.mk h6
  have hL : a.f5.length ≤ 9223372036854775807 := h6.2.1
  clear h1 h2 h3 h4 h5 h6
  obtain ⟨A2', c2', A4', c4', A7', c7', rfl, h1, h2, h3, h4, h5, h6⟩ := hb
  have HTb := Aside0.mk (IsT.mk (k := b.f1.f0) h1 h2)
  have HUb := Aside0.mk (IsT.mk (k := b.f2.f0) h3 h4)
  have HCb := Aside0.mk h6
  clear h1 h2 h3 h4 h5 h6
  rw [S35.eta] at HTa HUa HTb HUb
  obtain ⟨k0, k1, hB⟩ := two_ w (.cells #[.int .i8 a.f0, .int .i8 a.f1.f0, .slice A2 a.f1.f1.length c2, .int .i8 a.f2.f0, .slice A4 a.f2.f1.length c4, .int .i64 a.f3, .bool a.f4, .slice A7 a.f5.length c7] 47) (.cells #[.int .i8 b.f0, .int .i8 b.f1.f0, .slice A2' b.f1.f1.length c2', .int .i8 b.f2.f0, .slice A4' b.f2.f1.length c4', .int .i64 b.f3, .bool b.f4, .slice A7' b.f5.length c7'] 47)
  have K0 := Aside0.mk k0
  have K1 := Aside0.mk k1
  have HW := Aside0.mk hB
  clear hB k0 k1
  have hkk : (a.f0 != b.f0) = false := bne_eq_false_iff_eq.mpr hkk0.out
  have hlf : leafB a.f0 = true := by rw [hk.out]; rfl
  have hst := hst0.out
  have hto : decide (a.f0 = 1) = true := by rw [hk.out]; rfl
  have hlb : (decide (a.f0 = 1) || decide (a.f0 = 3)) = true := by rw [hk.out]; rfl
  have hsu := hsu0.out
  have hla : (a.f3 != b.f3) = true := bne_iff_ne.mpr hla0.out
  have HY := Aside0.mk (Below.refl ((w.alloc (.cells #[.int .i8 a.f0, .int .i8 a.f1.f0, .slice A2 a.f1.f1.length c2, .int .i8 a.f2.f0, .slice A4 a.f2.f1.length c4, .int .i64 a.f3, .bool a.f4, .slice A7 a.f5.length c7] 47)).alloc (.cells #[.int .i8 b.f0, .int .i8 b.f1.f0, .slice A2' b.f1.f1.length c2', .int .i8 b.f2.f0, .slice A4' b.f2.f1.length c4', .int .i64 b.f3, .bool b.f4, .slice A7' b.f5.length c7'] 47)).heap.size ((w.alloc (.cells #[.int .i8 a.f0, .int .i8 a.f1.f0, .slice A2 a.f1.f1.length c2, .int .i8 a.f2.f0, .slice A4 a.f2.f1.length c4, .int .i64 a.f3, .bool a.f4, .slice A7 a.f5.length c7] 47)).alloc (.cells #[.int .i8 b.f0, .int .i8 b.f1.f0, .slice A2' b.f1.f1.length c2', .int .i8 b.f2.f0, .slice A4' b.f2.f1.length c4', .int .i64 b.f3, .bool b.f4, .slice A7' b.f5.length c7'] 47)))
  go_enter Try.func31, Try.ntmps31
  obtain ⟨a0, a1, a2, a3, a4, a5, a6, a7⟩ := cells8 (blk_below K0.out HY.out)
  obtain ⟨b0, b1, b2, b3, b4, b5, b6, b7⟩ := cells8 (blk_below K1.out HY.out)
  go_wp2_with fail
  clear a0 a1 a2 a3 a4 a5 a6 a7 b0 b1 b2 b3 b4 b5 b6 b7
  generalize (w.alloc (.cells #[.int .i8 a.f0, .int .i8 a.f1.f0, .slice A2 a.f1.f1.length c2, .int .i8 a.f2.f0, .slice A4 a.f2.f1.length c4, .int .i64 a.f3, .bool a.f4, .slice A7 a.f5.length c7] 47)).alloc (.cells #[.int .i8 b.f0, .int .i8 b.f1.f0, .slice A2' b.f1.f1.length c2', .int .i8 b.f2.f0, .slice A4' b.f2.f1.length c4', .int .i64 b.f3, .bool b.f4, .slice A7' b.f5.length c7'] 47) = w0 at *
  refine (typed_calls a.f0 _).mono ?_
  rintro e w1 ⟨rfl, hB⟩
  rw [hlf]
  replace HY := Aside0.mk (below_then HY.out HY.out.size hB)
  clear hB
  obtain ⟨a0, a1, a2, a3, a4, a5, a6, a7⟩ := cells8 (blk_below K0.out HY.out)
  obtain ⟨b0, b1, b2, b3, b4, b5, b6, b7⟩ := cells8 (blk_below K1.out HY.out)
  go_wp2_with fail
  clear a0 a1 a2 a3 a4 a5 a6 a7 b0 b1 b2 b3 b4 b5 b6 b7
  refine (refSame_calls (HTa.out.below (below_then HW.out HW.out.size HY.out)) (HTb.out.below (below_then HW.out HW.out.size HY.out))).mono ?_
  rintro e w2 ⟨rfl, hB⟩
  rw [hst]
  replace HY := Aside0.mk (below_then HY.out HY.out.size hB)
  clear hB
  obtain ⟨a0, a1, a2, a3, a4, a5, a6, a7⟩ := cells8 (blk_below K0.out HY.out)
  obtain ⟨b0, b1, b2, b3, b4, b5, b6, b7⟩ := cells8 (blk_below K1.out HY.out)
  go_wp2_with fail
  clear a0 a1 a2 a3 a4 a5 a6 a7 b0 b1 b2 b3 b4 b5 b6 b7
  refine (toed_calls a.f0 _).mono ?_
  rintro e w3 ⟨rfl, hB⟩
  rw [hto]
  replace HY := Aside0.mk (below_then HY.out HY.out.size hB)
  clear hB
  obtain ⟨a0, a1, a2, a3, a4, a5, a6, a7⟩ := cells8 (blk_below K0.out HY.out)
  obtain ⟨b0, b1, b2, b3, b4, b5, b6, b7⟩ := cells8 (blk_below K1.out HY.out)
  go_wp2_with fail
  clear a0 a1 a2 a3 a4 a5 a6 a7 b0 b1 b2 b3 b4 b5 b6 b7
  refine (refSame_calls (HUa.out.below (below_then HW.out HW.out.size HY.out)) (HUb.out.below (below_then HW.out HW.out.size HY.out))).mono ?_
  rintro e w4 ⟨rfl, hB⟩
  rw [hsu]
  replace HY := Aside0.mk (below_then HY.out HY.out.size hB)
  clear hB
  obtain ⟨a0, a1, a2, a3, a4, a5, a6, a7⟩ := cells8 (blk_below K0.out HY.out)
  obtain ⟨b0, b1, b2, b3, b4, b5, b6, b7⟩ := cells8 (blk_below K1.out HY.out)
  go_wp2_with fail
  clear a0 a1 a2 a3 a4 a5 a6 a7 b0 b1 b2 b3 b4 b5 b6 b7
  refine (labelled_calls a.f0 _).mono ?_
  rintro e w5 ⟨rfl, hB⟩
  rw [hlb]
  replace HY := Aside0.mk (below_then HY.out HY.out.size hB)
  clear hB
  obtain ⟨a0, a1, a2, a3, a4, a5, a6, a7⟩ := cells8 (blk_below K0.out HY.out)
  obtain ⟨b0, b1, b2, b3, b4, b5, b6, b7⟩ := cells8 (blk_below K1.out HY.out)
  go_wp2_with fail
  clear a0 a1 a2 a3 a4 a5 a6 a7 b0 b1 b2 b3 b4 b5 b6 b7
  go_ret
  exact ⟨rfl, below_then HW.out HW.out.size HY.out⟩
set_option maxRecDepth 100000 in
set_option maxHeartbeats 1600000 in
theorem rsame_1y {a b : S47} {va vb : Value} {w : World} (ha : IsC w va a) (hb : IsC w vb b) (hkk0 : Aside0 (a.f0 = b.f0)) (hk : Aside0 (a.f0 = 1)) (hst0 : Aside0 (sameB a.f1 b.f1 = true)) (hsu0 : Aside0 (sameB a.f2 b.f2 = true)) (hla0 : Aside0 (a.f3 = b.f3)) (hne0 : Aside0 (a.f4 ≠ b.f4))  : Calls Try.prog 31 #[va, vb] w (SaysB false w) := by
  obtain ⟨A2, c2, A4, c4, A7, c7, rfl, h1, h2, h3, h4, h5, h6⟩ := ha
  have HTa := Aside0.mk (IsT.mk (k := a.f1.f0) h1 h2)
  have HUa := Aside0.mk (IsT.mk (k := a.f2.f0) h3 h4)
  have HCa := Aside0.mk h6
  have hL : a.f5.length ≤ 9223372036854775807 := h6.2.1
  clear h1 h2 h3 h4 h5 h6
  obtain ⟨A2', c2', A4', c4', A7', c7', rfl, h1, h2, h3, h4, h5, h6⟩ := hb
  have HTb := Aside0.mk (IsT.mk (k := b.f1.f0) h1 h2)
  have HUb := Aside0.mk (IsT.mk (k := b.f2.f0) h3 h4)
  have HCb := Aside0.mk h6
  clear h1 h2 h3 h4 h5 h6
  rw [S35.eta] at HTa HUa HTb HUb
  obtain ⟨k0, k1, hB⟩ := two_ w (.cells #[.int .i8 a.f0, .int .i8 a.f1.f0, .slice A2 a.f1.f1.length c2, .int .i8 a.f2.f0, .slice A4 a.f2.f1.length c4, .int .i64 a.f3, .bool a.f4, .slice A7 a.f5.length c7] 47) (.cells #[.int .i8 b.f0, .int .i8 b.f1.f0, .slice A2' b.f1.f1.length c2', .int .i8 b.f2.f0, .slice A4' b.f2.f1.length c4', .int .i64 b.f3, .bool b.f4, .slice A7' b.f5.length c7'] 47)
  have K0 := Aside0.mk k0
  have K1 := Aside0.mk k1
  have HW := Aside0.mk hB
  clear hB k0 k1
  have hkk : (a.f0 != b.f0) = false := bne_eq_false_iff_eq.mpr hkk0.out
  have hlf : leafB a.f0 = true := by rw [hk.out]; rfl
  have hst := hst0.out
  have hto : decide (a.f0 = 1) = true := by rw [hk.out]; rfl
  have hlb : (decide (a.f0 = 1) || decide (a.f0 = 3)) = true := by rw [hk.out]; rfl
  have hsu := hsu0.out
  have hla : (a.f3 != b.f3) = false := bne_eq_false_iff_eq.mpr hla0.out
  have hne : (a.f4 != b.f4) = true := bne_iff_ne.mpr hne0.out
  have hnb : (!(a.f4 == b.f4)) = true := hne
  have HY := Aside0.mk (Below.refl ((w.alloc (.cells #[.int .i8 a.f0, .int .i8 a.f1.f0, .slice A2 a.f1.f1.length c2, .int .i8 a.f2.f0, .slice A4 a.f2.f1.length c4, .int .i64 a.f3, .bool a.f4, .slice A7 a.f5.length c7] 47)).alloc (.cells #[.int .i8 b.f0, .int .i8 b.f1.f0, .slice A2' b.f1.f1.length c2', .int .i8 b.f2.f0, .slice A4' b.f2.f1.length c4', .int .i64 b.f3, .bool b.f4, .slice A7' b.f5.length c7'] 47)).heap.size ((w.alloc (.cells #[.int .i8 a.f0, .int .i8 a.f1.f0, .slice A2 a.f1.f1.length c2, .int .i8 a.f2.f0, .slice A4 a.f2.f1.length c4, .int .i64 a.f3, .bool a.f4, .slice A7 a.f5.length c7] 47)).alloc (.cells #[.int .i8 b.f0, .int .i8 b.f1.f0, .slice A2' b.f1.f1.length c2', .int .i8 b.f2.f0, .slice A4' b.f2.f1.length c4', .int .i64 b.f3, .bool b.f4, .slice A7' b.f5.length c7'] 47)))
  go_enter Try.func31, Try.ntmps31
  obtain ⟨a0, a1, a2, a3, a4, a5, a6, a7⟩ := cells8 (blk_below K0.out HY.out)
  obtain ⟨b0, b1, b2, b3, b4, b5, b6, b7⟩ := cells8 (blk_below K1.out HY.out)
  go_wp2_with fail
  clear a0 a1 a2 a3 a4 a5 a6 a7 b0 b1 b2 b3 b4 b5 b6 b7
  generalize (w.alloc (.cells #[.int .i8 a.f0, .int .i8 a.f1.f0, .slice A2 a.f1.f1.length c2, .int .i8 a.f2.f0, .slice A4 a.f2.f1.length c4, .int .i64 a.f3, .bool a.f4, .slice A7 a.f5.length c7] 47)).alloc (.cells #[.int .i8 b.f0, .int .i8 b.f1.f0, .slice A2' b.f1.f1.length c2', .int .i8 b.f2.f0, .slice A4' b.f2.f1.length c4', .int .i64 b.f3, .bool b.f4, .slice A7' b.f5.length c7'] 47) = w0 at *
  refine (typed_calls a.f0 _).mono ?_
  rintro e w1 ⟨rfl, hB⟩
  rw [hlf]
  replace HY := Aside0.mk (below_then HY.out HY.out.size hB)
  clear hB
  obtain ⟨a0, a1, a2, a3, a4, a5, a6, a7⟩ := cells8 (blk_below K0.out HY.out)
  obtain ⟨b0, b1, b2, b3, b4, b5, b6, b7⟩ := cells8 (blk_below K1.out HY.out)
  go_wp2_with fail
  clear a0 a1 a2 a3 a4 a5 a6 a7 b0 b1 b2 b3 b4 b5 b6 b7
  refine (refSame_calls (HTa.out.below (below_then HW.out HW.out.size HY.out)) (HTb.out.below (below_then HW.out HW.out.size HY.out))).mono ?_
  rintro e w2 ⟨rfl, hB⟩
  rw [hst]
  replace HY := Aside0.mk (below_then HY.out HY.out.size hB)
  clear hB
  obtain ⟨a0, a1, a2, a3, a4, a5, a6, a7⟩ := cells8 (blk_below K0.out HY.out)
  obtain ⟨b0, b1, b2, b3, b4, b5, b6, b7⟩ := cells8 (blk_below K1.out HY.out)
  go_wp2_with fail
  clear a0 a1 a2 a3 a4 a5 a6 a7 b0 b1 b2 b3 b4 b5 b6 b7
  refine (toed_calls a.f0 _).mono ?_
  rintro e w3 ⟨rfl, hB⟩
  rw [hto]
  replace HY := Aside0.mk (below_then HY.out HY.out.size hB)
  clear hB
  obtain ⟨a0, a1, a2, a3, a4, a5, a6, a7⟩ := cells8 (blk_below K0.out HY.out)
  obtain ⟨b0, b1, b2, b3, b4, b5, b6, b7⟩ := cells8 (blk_below K1.out HY.out)
  go_wp2_with fail
  clear a0 a1 a2 a3 a4 a5 a6 a7 b0 b1 b2 b3 b4 b5 b6 b7
  refine (refSame_calls (HUa.out.below (below_then HW.out HW.out.size HY.out)) (HUb.out.below (below_then HW.out HW.out.size HY.out))).mono ?_
  rintro e w4 ⟨rfl, hB⟩
  rw [hsu]
  replace HY := Aside0.mk (below_then HY.out HY.out.size hB)
  clear hB
  obtain ⟨a0, a1, a2, a3, a4, a5, a6, a7⟩ := cells8 (blk_below K0.out HY.out)
  obtain ⟨b0, b1, b2, b3, b4, b5, b6, b7⟩ := cells8 (blk_below K1.out HY.out)
  go_wp2_with fail
  clear a0 a1 a2 a3 a4 a5 a6 a7 b0 b1 b2 b3 b4 b5 b6 b7
  refine (labelled_calls a.f0 _).mono ?_
  rintro e w5 ⟨rfl, hB⟩
  rw [hlb]
  replace HY := Aside0.mk (below_then HY.out HY.out.size hB)
  clear hB
  obtain ⟨a0, a1, a2, a3, a4, a5, a6, a7⟩ := cells8 (blk_below K0.out HY.out)
  obtain ⟨b0, b1, b2, b3, b4, b5, b6, b7⟩ := cells8 (blk_below K1.out HY.out)
  go_wp2_with fail
  clear a0 a1 a2 a3 a4 a5 a6 a7 b0 b1 b2 b3 b4 b5 b6 b7
  go_ret
  exact ⟨rfl, below_then HW.out HW.out.size HY.out⟩
set_option maxRecDepth 100000 in
set_option maxHeartbeats 1600000 in
theorem rsame_1z {a b : S47} {va vb : Value} {w : World} (ha : IsC w va a) (hb : IsC w vb b) (hkk0 : Aside0 (a.f0 = b.f0)) (hk : Aside0 (a.f0 = 1)) (hst0 : Aside0 (sameB a.f1 b.f1 = true)) (hsu0 : Aside0 (sameB a.f2 b.f2 = true)) (hla0 : Aside0 (a.f3 = b.f3)) (hne0 : Aside0 (a.f4 = b.f4)) (hz : Aside0 (a.f5.length = 0))  : Calls Try.prog 31 #[va, vb] w (SaysB true w) := by
  obtain ⟨A2, c2, A4, c4, A7, c7, rfl, h1, h2, h3, h4, h5, h6⟩ := ha
  have HTa := Aside0.mk (IsT.mk (k := a.f1.f0) h1 h2)
  have HUa := Aside0.mk (IsT.mk (k := a.f2.f0) h3 h4)
  have HCa := Aside0.mk h6
  have hL : a.f5.length ≤ 9223372036854775807 := h6.2.1
  clear h1 h2 h3 h4 h5 h6
  obtain ⟨A2', c2', A4', c4', A7', c7', rfl, h1, h2, h3, h4, h5, h6⟩ := hb
  have HTb := Aside0.mk (IsT.mk (k := b.f1.f0) h1 h2)
  have HUb := Aside0.mk (IsT.mk (k := b.f2.f0) h3 h4)
  have HCb := Aside0.mk h6
  clear h1 h2 h3 h4 h5 h6
  rw [S35.eta] at HTa HUa HTb HUb
  obtain ⟨k0, k1, hB⟩ := two_ w (.cells #[.int .i8 a.f0, .int .i8 a.f1.f0, .slice A2 a.f1.f1.length c2, .int .i8 a.f2.f0, .slice A4 a.f2.f1.length c4, .int .i64 a.f3, .bool a.f4, .slice A7 a.f5.length c7] 47) (.cells #[.int .i8 b.f0, .int .i8 b.f1.f0, .slice A2' b.f1.f1.length c2', .int .i8 b.f2.f0, .slice A4' b.f2.f1.length c4', .int .i64 b.f3, .bool b.f4, .slice A7' b.f5.length c7'] 47)
  have K0 := Aside0.mk k0
  have K1 := Aside0.mk k1
  have HW := Aside0.mk hB
  clear hB k0 k1
  have hkk : (a.f0 != b.f0) = false := bne_eq_false_iff_eq.mpr hkk0.out
  have hlf : leafB a.f0 = true := by rw [hk.out]; rfl
  have hst := hst0.out
  have hto : decide (a.f0 = 1) = true := by rw [hk.out]; rfl
  have hlb : (decide (a.f0 = 1) || decide (a.f0 = 3)) = true := by rw [hk.out]; rfl
  have hsu := hsu0.out
  have hla : (a.f3 != b.f3) = false := bne_eq_false_iff_eq.mpr hla0.out
  have hne : (a.f4 != b.f4) = false := bne_eq_false_iff_eq.mpr hne0.out
  have hnb : (!(a.f4 == b.f4)) = false := hne
  have HY := Aside0.mk (Below.refl ((w.alloc (.cells #[.int .i8 a.f0, .int .i8 a.f1.f0, .slice A2 a.f1.f1.length c2, .int .i8 a.f2.f0, .slice A4 a.f2.f1.length c4, .int .i64 a.f3, .bool a.f4, .slice A7 a.f5.length c7] 47)).alloc (.cells #[.int .i8 b.f0, .int .i8 b.f1.f0, .slice A2' b.f1.f1.length c2', .int .i8 b.f2.f0, .slice A4' b.f2.f1.length c4', .int .i64 b.f3, .bool b.f4, .slice A7' b.f5.length c7'] 47)).heap.size ((w.alloc (.cells #[.int .i8 a.f0, .int .i8 a.f1.f0, .slice A2 a.f1.f1.length c2, .int .i8 a.f2.f0, .slice A4 a.f2.f1.length c4, .int .i64 a.f3, .bool a.f4, .slice A7 a.f5.length c7] 47)).alloc (.cells #[.int .i8 b.f0, .int .i8 b.f1.f0, .slice A2' b.f1.f1.length c2', .int .i8 b.f2.f0, .slice A4' b.f2.f1.length c4', .int .i64 b.f3, .bool b.f4, .slice A7' b.f5.length c7'] 47)))
  go_enter Try.func31, Try.ntmps31
  obtain ⟨a0, a1, a2, a3, a4, a5, a6, a7⟩ := cells8 (blk_below K0.out HY.out)
  obtain ⟨b0, b1, b2, b3, b4, b5, b6, b7⟩ := cells8 (blk_below K1.out HY.out)
  go_wp2_with fail
  clear a0 a1 a2 a3 a4 a5 a6 a7 b0 b1 b2 b3 b4 b5 b6 b7
  generalize (w.alloc (.cells #[.int .i8 a.f0, .int .i8 a.f1.f0, .slice A2 a.f1.f1.length c2, .int .i8 a.f2.f0, .slice A4 a.f2.f1.length c4, .int .i64 a.f3, .bool a.f4, .slice A7 a.f5.length c7] 47)).alloc (.cells #[.int .i8 b.f0, .int .i8 b.f1.f0, .slice A2' b.f1.f1.length c2', .int .i8 b.f2.f0, .slice A4' b.f2.f1.length c4', .int .i64 b.f3, .bool b.f4, .slice A7' b.f5.length c7'] 47) = w0 at *
  refine (typed_calls a.f0 _).mono ?_
  rintro e w1 ⟨rfl, hB⟩
  rw [hlf]
  replace HY := Aside0.mk (below_then HY.out HY.out.size hB)
  clear hB
  obtain ⟨a0, a1, a2, a3, a4, a5, a6, a7⟩ := cells8 (blk_below K0.out HY.out)
  obtain ⟨b0, b1, b2, b3, b4, b5, b6, b7⟩ := cells8 (blk_below K1.out HY.out)
  go_wp2_with fail
  clear a0 a1 a2 a3 a4 a5 a6 a7 b0 b1 b2 b3 b4 b5 b6 b7
  refine (refSame_calls (HTa.out.below (below_then HW.out HW.out.size HY.out)) (HTb.out.below (below_then HW.out HW.out.size HY.out))).mono ?_
  rintro e w2 ⟨rfl, hB⟩
  rw [hst]
  replace HY := Aside0.mk (below_then HY.out HY.out.size hB)
  clear hB
  obtain ⟨a0, a1, a2, a3, a4, a5, a6, a7⟩ := cells8 (blk_below K0.out HY.out)
  obtain ⟨b0, b1, b2, b3, b4, b5, b6, b7⟩ := cells8 (blk_below K1.out HY.out)
  go_wp2_with fail
  clear a0 a1 a2 a3 a4 a5 a6 a7 b0 b1 b2 b3 b4 b5 b6 b7
  refine (toed_calls a.f0 _).mono ?_
  rintro e w3 ⟨rfl, hB⟩
  rw [hto]
  replace HY := Aside0.mk (below_then HY.out HY.out.size hB)
  clear hB
  obtain ⟨a0, a1, a2, a3, a4, a5, a6, a7⟩ := cells8 (blk_below K0.out HY.out)
  obtain ⟨b0, b1, b2, b3, b4, b5, b6, b7⟩ := cells8 (blk_below K1.out HY.out)
  go_wp2_with fail
  clear a0 a1 a2 a3 a4 a5 a6 a7 b0 b1 b2 b3 b4 b5 b6 b7
  refine (refSame_calls (HUa.out.below (below_then HW.out HW.out.size HY.out)) (HUb.out.below (below_then HW.out HW.out.size HY.out))).mono ?_
  rintro e w4 ⟨rfl, hB⟩
  rw [hsu]
  replace HY := Aside0.mk (below_then HY.out HY.out.size hB)
  clear hB
  obtain ⟨a0, a1, a2, a3, a4, a5, a6, a7⟩ := cells8 (blk_below K0.out HY.out)
  obtain ⟨b0, b1, b2, b3, b4, b5, b6, b7⟩ := cells8 (blk_below K1.out HY.out)
  go_wp2_with fail
  clear a0 a1 a2 a3 a4 a5 a6 a7 b0 b1 b2 b3 b4 b5 b6 b7
  refine (labelled_calls a.f0 _).mono ?_
  rintro e w5 ⟨rfl, hB⟩
  rw [hlb]
  replace HY := Aside0.mk (below_then HY.out HY.out.size hB)
  clear hB
  obtain ⟨a0, a1, a2, a3, a4, a5, a6, a7⟩ := cells8 (blk_below K0.out HY.out)
  obtain ⟨b0, b1, b2, b3, b4, b5, b6, b7⟩ := cells8 (blk_below K1.out HY.out)
  go_wp2_with fail
  clear a0 a1 a2 a3 a4 a5 a6 a7 b0 b1 b2 b3 b4 b5 b6 b7
  go_loopw [5] (fun i wr => i = .int .i64 0 ∧ Below w.heap.size w wr ∧ wr.heap[w.heap.size]? = some (.cells #[.int .i8 a.f0, .int .i8 a.f1.f0, .slice A2 a.f1.f1.length c2, .int .i8 a.f2.f0, .slice A4 a.f2.f1.length c4, .int .i64 a.f3, .bool a.f4, .slice A7 a.f5.length c7] 47 (0, 0))) (fun _ _ => 0)
  case atStart => exact ⟨rfl, below_then HW.out HW.out.size HY.out, blk_below K0.out HY.out⟩
  case round =>
    obtain ⟨rfl, hW, hK⟩ := hrel
    have HW2 := Aside0.mk hW
    obtain ⟨a0, a1, a2, a3, a4, a5, a6, a7⟩ := cells8 hK
    rw [hz.out] at a7
    clear hW hK
    go_wp2_with fail
    go_ret
    exact ⟨rfl, HW2.out⟩
set_option maxRecDepth 100000 in
set_option maxHeartbeats 1600000 in
theorem rsame_3x {a b : S47} {va vb : Value} {w : World} (ha : IsC w va a) (hb : IsC w vb b) (hkk0 : Aside0 (a.f0 = b.f0)) (hk : Aside0 (a.f0 = 3)) (hst0 : Aside0 (sameB a.f1 b.f1 = true)) (hla0 : Aside0 (a.f3 ≠ b.f3))  : Calls Try.prog 31 #[va, vb] w (SaysB false w) := by
  obtain ⟨A2, c2, A4, c4, A7, c7, rfl, h1, h2, h3, h4, h5, h6⟩ := ha
  have HTa := Aside0.mk (IsT.mk (k := a.f1.f0) h1 h2)
  have HUa := Aside0.mk (IsT.mk (k := a.f2.f0) h3 h4)
  have HCa := Aside0.mk h6
  have hL : a.f5.length ≤ 9223372036854775807 := h6.2.1
  clear h1 h2 h3 h4 h5 h6
  obtain ⟨A2', c2', A4', c4', A7', c7', rfl, h1, h2, h3, h4, h5, h6⟩ := hb
  have HTb := Aside0.mk (IsT.mk (k := b.f1.f0) h1 h2)
  have HUb := Aside0.mk (IsT.mk (k := b.f2.f0) h3 h4)
  have HCb := Aside0.mk h6
  clear h1 h2 h3 h4 h5 h6
  rw [S35.eta] at HTa HUa HTb HUb
  obtain ⟨k0, k1, hB⟩ := two_ w (.cells #[.int .i8 a.f0, .int .i8 a.f1.f0, .slice A2 a.f1.f1.length c2, .int .i8 a.f2.f0, .slice A4 a.f2.f1.length c4, .int .i64 a.f3, .bool a.f4, .slice A7 a.f5.length c7] 47) (.cells #[.int .i8 b.f0, .int .i8 b.f1.f0, .slice A2' b.f1.f1.length c2', .int .i8 b.f2.f0, .slice A4' b.f2.f1.length c4', .int .i64 b.f3, .bool b.f4, .slice A7' b.f5.length c7'] 47)
  have K0 := Aside0.mk k0
  have K1 := Aside0.mk k1
  have HW := Aside0.mk hB
  clear hB k0 k1
  have hkk : (a.f0 != b.f0) = false := bne_eq_false_iff_eq.mpr hkk0.out
  have hlf : leafB a.f0 = true := by rw [hk.out]; rfl
  have hst := hst0.out
  have hto : decide (a.f0 = 1) = false := by rw [hk.out]; rfl
  have hlb : (decide (a.f0 = 1) || decide (a.f0 = 3)) = true := by rw [hk.out]; rfl
  have hla : (a.f3 != b.f3) = true := bne_iff_ne.mpr hla0.out
  have HY := Aside0.mk (Below.refl ((w.alloc (.cells #[.int .i8 a.f0, .int .i8 a.f1.f0, .slice A2 a.f1.f1.length c2, .int .i8 a.f2.f0, .slice A4 a.f2.f1.length c4, .int .i64 a.f3, .bool a.f4, .slice A7 a.f5.length c7] 47)).alloc (.cells #[.int .i8 b.f0, .int .i8 b.f1.f0, .slice A2' b.f1.f1.length c2', .int .i8 b.f2.f0, .slice A4' b.f2.f1.length c4', .int .i64 b.f3, .bool b.f4, .slice A7' b.f5.length c7'] 47)).heap.size ((w.alloc (.cells #[.int .i8 a.f0, .int .i8 a.f1.f0, .slice A2 a.f1.f1.length c2, .int .i8 a.f2.f0, .slice A4 a.f2.f1.length c4, .int .i64 a.f3, .bool a.f4, .slice A7 a.f5.length c7] 47)).alloc (.cells #[.int .i8 b.f0, .int .i8 b.f1.f0, .slice A2' b.f1.f1.length c2', .int .i8 b.f2.f0, .slice A4' b.f2.f1.length c4', .int .i64 b.f3, .bool b.f4, .slice A7' b.f5.length c7'] 47)))
  go_enter Try.func31, Try.ntmps31
  obtain ⟨a0, a1, a2, a3, a4, a5, a6, a7⟩ := cells8 (blk_below K0.out HY.out)
  obtain ⟨b0, b1, b2, b3, b4, b5, b6, b7⟩ := cells8 (blk_below K1.out HY.out)
  go_wp2_with fail
  clear a0 a1 a2 a3 a4 a5 a6 a7 b0 b1 b2 b3 b4 b5 b6 b7
  generalize (w.alloc (.cells #[.int .i8 a.f0, .int .i8 a.f1.f0, .slice A2 a.f1.f1.length c2, .int .i8 a.f2.f0, .slice A4 a.f2.f1.length c4, .int .i64 a.f3, .bool a.f4, .slice A7 a.f5.length c7] 47)).alloc (.cells #[.int .i8 b.f0, .int .i8 b.f1.f0, .slice A2' b.f1.f1.length c2', .int .i8 b.f2.f0, .slice A4' b.f2.f1.length c4', .int .i64 b.f3, .bool b.f4, .slice A7' b.f5.length c7'] 47) = w0 at *
  refine (typed_calls a.f0 _).mono ?_
  rintro e w1 ⟨rfl, hB⟩
  rw [hlf]
  replace HY := Aside0.mk (below_then HY.out HY.out.size hB)
  clear hB
  obtain ⟨a0, a1, a2, a3, a4, a5, a6, a7⟩ := cells8 (blk_below K0.out HY.out)
  obtain ⟨b0, b1, b2, b3, b4, b5, b6, b7⟩ := cells8 (blk_below K1.out HY.out)
  go_wp2_with fail
  clear a0 a1 a2 a3 a4 a5 a6 a7 b0 b1 b2 b3 b4 b5 b6 b7
  refine (refSame_calls (HTa.out.below (below_then HW.out HW.out.size HY.out)) (HTb.out.below (below_then HW.out HW.out.size HY.out))).mono ?_
  rintro e w2 ⟨rfl, hB⟩
  rw [hst]
  replace HY := Aside0.mk (below_then HY.out HY.out.size hB)
  clear hB
  obtain ⟨a0, a1, a2, a3, a4, a5, a6, a7⟩ := cells8 (blk_below K0.out HY.out)
  obtain ⟨b0, b1, b2, b3, b4, b5, b6, b7⟩ := cells8 (blk_below K1.out HY.out)
  go_wp2_with fail
  clear a0 a1 a2 a3 a4 a5 a6 a7 b0 b1 b2 b3 b4 b5 b6 b7
  refine (toed_calls a.f0 _).mono ?_
  rintro e w3 ⟨rfl, hB⟩
  rw [hto]
  replace HY := Aside0.mk (below_then HY.out HY.out.size hB)
  clear hB
  obtain ⟨a0, a1, a2, a3, a4, a5, a6, a7⟩ := cells8 (blk_below K0.out HY.out)
  obtain ⟨b0, b1, b2, b3, b4, b5, b6, b7⟩ := cells8 (blk_below K1.out HY.out)
  go_wp2_with fail
  clear a0 a1 a2 a3 a4 a5 a6 a7 b0 b1 b2 b3 b4 b5 b6 b7
  refine (labelled_calls a.f0 _).mono ?_
  rintro e w4 ⟨rfl, hB⟩
  rw [hlb]
  replace HY := Aside0.mk (below_then HY.out HY.out.size hB)
  clear hB
  obtain ⟨a0, a1, a2, a3, a4, a5, a6, a7⟩ := cells8 (blk_below K0.out HY.out)
  obtain ⟨b0, b1, b2, b3, b4, b5, b6, b7⟩ := cells8 (blk_below K1.out HY.out)
  go_wp2_with fail
  clear a0 a1 a2 a3 a4 a5 a6 a7 b0 b1 b2 b3 b4 b5 b6 b7
  go_ret
  exact ⟨rfl, below_then HW.out HW.out.size HY.out⟩
set_option maxRecDepth 100000 in
set_option maxHeartbeats 1600000 in
theorem rsame_3y {a b : S47} {va vb : Value} {w : World} (ha : IsC w va a) (hb : IsC w vb b) (hkk0 : Aside0 (a.f0 = b.f0)) (hk : Aside0 (a.f0 = 3)) (hst0 : Aside0 (sameB a.f1 b.f1 = true)) (hla0 : Aside0 (a.f3 = b.f3)) (hne0 : Aside0 (a.f4 ≠ b.f4))  : Calls Try.prog 31 #[va, vb] w (SaysB false w) := by
  obtain ⟨A2, c2, A4, c4, A7, c7, rfl, h1, h2, h3, h4, h5, h6⟩ := ha
  have HTa := Aside0.mk (IsT.mk (k := a.f1.f0) h1 h2)
  have HUa := Aside0.mk (IsT.mk (k := a.f2.f0) h3 h4)
  have HCa := Aside0.mk h6
  have hL : a.f5.length ≤ 9223372036854775807 := h6.2.1
  clear h1 h2 h3 h4 h5 h6
  obtain ⟨A2', c2', A4', c4', A7', c7', rfl, h1, h2, h3, h4, h5, h6⟩ := hb
  have HTb := Aside0.mk (IsT.mk (k := b.f1.f0) h1 h2)
  have HUb := Aside0.mk (IsT.mk (k := b.f2.f0) h3 h4)
  have HCb := Aside0.mk h6
  clear h1 h2 h3 h4 h5 h6
  rw [S35.eta] at HTa HUa HTb HUb
  obtain ⟨k0, k1, hB⟩ := two_ w (.cells #[.int .i8 a.f0, .int .i8 a.f1.f0, .slice A2 a.f1.f1.length c2, .int .i8 a.f2.f0, .slice A4 a.f2.f1.length c4, .int .i64 a.f3, .bool a.f4, .slice A7 a.f5.length c7] 47) (.cells #[.int .i8 b.f0, .int .i8 b.f1.f0, .slice A2' b.f1.f1.length c2', .int .i8 b.f2.f0, .slice A4' b.f2.f1.length c4', .int .i64 b.f3, .bool b.f4, .slice A7' b.f5.length c7'] 47)
  have K0 := Aside0.mk k0
  have K1 := Aside0.mk k1
  have HW := Aside0.mk hB
  clear hB k0 k1
  have hkk : (a.f0 != b.f0) = false := bne_eq_false_iff_eq.mpr hkk0.out
  have hlf : leafB a.f0 = true := by rw [hk.out]; rfl
  have hst := hst0.out
  have hto : decide (a.f0 = 1) = false := by rw [hk.out]; rfl
  have hlb : (decide (a.f0 = 1) || decide (a.f0 = 3)) = true := by rw [hk.out]; rfl
  have hla : (a.f3 != b.f3) = false := bne_eq_false_iff_eq.mpr hla0.out
  have hne : (a.f4 != b.f4) = true := bne_iff_ne.mpr hne0.out
  have hnb : (!(a.f4 == b.f4)) = true := hne
  have HY := Aside0.mk (Below.refl ((w.alloc (.cells #[.int .i8 a.f0, .int .i8 a.f1.f0, .slice A2 a.f1.f1.length c2, .int .i8 a.f2.f0, .slice A4 a.f2.f1.length c4, .int .i64 a.f3, .bool a.f4, .slice A7 a.f5.length c7] 47)).alloc (.cells #[.int .i8 b.f0, .int .i8 b.f1.f0, .slice A2' b.f1.f1.length c2', .int .i8 b.f2.f0, .slice A4' b.f2.f1.length c4', .int .i64 b.f3, .bool b.f4, .slice A7' b.f5.length c7'] 47)).heap.size ((w.alloc (.cells #[.int .i8 a.f0, .int .i8 a.f1.f0, .slice A2 a.f1.f1.length c2, .int .i8 a.f2.f0, .slice A4 a.f2.f1.length c4, .int .i64 a.f3, .bool a.f4, .slice A7 a.f5.length c7] 47)).alloc (.cells #[.int .i8 b.f0, .int .i8 b.f1.f0, .slice A2' b.f1.f1.length c2', .int .i8 b.f2.f0, .slice A4' b.f2.f1.length c4', .int .i64 b.f3, .bool b.f4, .slice A7' b.f5.length c7'] 47)))
  go_enter Try.func31, Try.ntmps31
  obtain ⟨a0, a1, a2, a3, a4, a5, a6, a7⟩ := cells8 (blk_below K0.out HY.out)
  obtain ⟨b0, b1, b2, b3, b4, b5, b6, b7⟩ := cells8 (blk_below K1.out HY.out)
  go_wp2_with fail
  clear a0 a1 a2 a3 a4 a5 a6 a7 b0 b1 b2 b3 b4 b5 b6 b7
  generalize (w.alloc (.cells #[.int .i8 a.f0, .int .i8 a.f1.f0, .slice A2 a.f1.f1.length c2, .int .i8 a.f2.f0, .slice A4 a.f2.f1.length c4, .int .i64 a.f3, .bool a.f4, .slice A7 a.f5.length c7] 47)).alloc (.cells #[.int .i8 b.f0, .int .i8 b.f1.f0, .slice A2' b.f1.f1.length c2', .int .i8 b.f2.f0, .slice A4' b.f2.f1.length c4', .int .i64 b.f3, .bool b.f4, .slice A7' b.f5.length c7'] 47) = w0 at *
  refine (typed_calls a.f0 _).mono ?_
  rintro e w1 ⟨rfl, hB⟩
  rw [hlf]
  replace HY := Aside0.mk (below_then HY.out HY.out.size hB)
  clear hB
  obtain ⟨a0, a1, a2, a3, a4, a5, a6, a7⟩ := cells8 (blk_below K0.out HY.out)
  obtain ⟨b0, b1, b2, b3, b4, b5, b6, b7⟩ := cells8 (blk_below K1.out HY.out)
  go_wp2_with fail
  clear a0 a1 a2 a3 a4 a5 a6 a7 b0 b1 b2 b3 b4 b5 b6 b7
  refine (refSame_calls (HTa.out.below (below_then HW.out HW.out.size HY.out)) (HTb.out.below (below_then HW.out HW.out.size HY.out))).mono ?_
  rintro e w2 ⟨rfl, hB⟩
  rw [hst]
  replace HY := Aside0.mk (below_then HY.out HY.out.size hB)
  clear hB
  obtain ⟨a0, a1, a2, a3, a4, a5, a6, a7⟩ := cells8 (blk_below K0.out HY.out)
  obtain ⟨b0, b1, b2, b3, b4, b5, b6, b7⟩ := cells8 (blk_below K1.out HY.out)
  go_wp2_with fail
  clear a0 a1 a2 a3 a4 a5 a6 a7 b0 b1 b2 b3 b4 b5 b6 b7
  refine (toed_calls a.f0 _).mono ?_
  rintro e w3 ⟨rfl, hB⟩
  rw [hto]
  replace HY := Aside0.mk (below_then HY.out HY.out.size hB)
  clear hB
  obtain ⟨a0, a1, a2, a3, a4, a5, a6, a7⟩ := cells8 (blk_below K0.out HY.out)
  obtain ⟨b0, b1, b2, b3, b4, b5, b6, b7⟩ := cells8 (blk_below K1.out HY.out)
  go_wp2_with fail
  clear a0 a1 a2 a3 a4 a5 a6 a7 b0 b1 b2 b3 b4 b5 b6 b7
  refine (labelled_calls a.f0 _).mono ?_
  rintro e w4 ⟨rfl, hB⟩
  rw [hlb]
  replace HY := Aside0.mk (below_then HY.out HY.out.size hB)
  clear hB
  obtain ⟨a0, a1, a2, a3, a4, a5, a6, a7⟩ := cells8 (blk_below K0.out HY.out)
  obtain ⟨b0, b1, b2, b3, b4, b5, b6, b7⟩ := cells8 (blk_below K1.out HY.out)
  go_wp2_with fail
  clear a0 a1 a2 a3 a4 a5 a6 a7 b0 b1 b2 b3 b4 b5 b6 b7
  go_ret
  exact ⟨rfl, below_then HW.out HW.out.size HY.out⟩
set_option maxRecDepth 100000 in
set_option maxHeartbeats 1600000 in
theorem rsame_3z {a b : S47} {va vb : Value} {w : World} (ha : IsC w va a) (hb : IsC w vb b) (hkk0 : Aside0 (a.f0 = b.f0)) (hk : Aside0 (a.f0 = 3)) (hst0 : Aside0 (sameB a.f1 b.f1 = true)) (hla0 : Aside0 (a.f3 = b.f3)) (hne0 : Aside0 (a.f4 = b.f4)) (hz : Aside0 (a.f5.length = 0))  : Calls Try.prog 31 #[va, vb] w (SaysB true w) := by
  obtain ⟨A2, c2, A4, c4, A7, c7, rfl, h1, h2, h3, h4, h5, h6⟩ := ha
  have HTa := Aside0.mk (IsT.mk (k := a.f1.f0) h1 h2)
  have HUa := Aside0.mk (IsT.mk (k := a.f2.f0) h3 h4)
  have HCa := Aside0.mk h6
  have hL : a.f5.length ≤ 9223372036854775807 := h6.2.1
  clear h1 h2 h3 h4 h5 h6
  obtain ⟨A2', c2', A4', c4', A7', c7', rfl, h1, h2, h3, h4, h5, h6⟩ := hb
  have HTb := Aside0.mk (IsT.mk (k := b.f1.f0) h1 h2)
  have HUb := Aside0.mk (IsT.mk (k := b.f2.f0) h3 h4)
  have HCb := Aside0.mk h6
  clear h1 h2 h3 h4 h5 h6
  rw [S35.eta] at HTa HUa HTb HUb
  obtain ⟨k0, k1, hB⟩ := two_ w (.cells #[.int .i8 a.f0, .int .i8 a.f1.f0, .slice A2 a.f1.f1.length c2, .int .i8 a.f2.f0, .slice A4 a.f2.f1.length c4, .int .i64 a.f3, .bool a.f4, .slice A7 a.f5.length c7] 47) (.cells #[.int .i8 b.f0, .int .i8 b.f1.f0, .slice A2' b.f1.f1.length c2', .int .i8 b.f2.f0, .slice A4' b.f2.f1.length c4', .int .i64 b.f3, .bool b.f4, .slice A7' b.f5.length c7'] 47)
  have K0 := Aside0.mk k0
  have K1 := Aside0.mk k1
  have HW := Aside0.mk hB
  clear hB k0 k1
  have hkk : (a.f0 != b.f0) = false := bne_eq_false_iff_eq.mpr hkk0.out
  have hlf : leafB a.f0 = true := by rw [hk.out]; rfl
  have hst := hst0.out
  have hto : decide (a.f0 = 1) = false := by rw [hk.out]; rfl
  have hlb : (decide (a.f0 = 1) || decide (a.f0 = 3)) = true := by rw [hk.out]; rfl
  have hla : (a.f3 != b.f3) = false := bne_eq_false_iff_eq.mpr hla0.out
  have hne : (a.f4 != b.f4) = false := bne_eq_false_iff_eq.mpr hne0.out
  have hnb : (!(a.f4 == b.f4)) = false := hne
  have HY := Aside0.mk (Below.refl ((w.alloc (.cells #[.int .i8 a.f0, .int .i8 a.f1.f0, .slice A2 a.f1.f1.length c2, .int .i8 a.f2.f0, .slice A4 a.f2.f1.length c4, .int .i64 a.f3, .bool a.f4, .slice A7 a.f5.length c7] 47)).alloc (.cells #[.int .i8 b.f0, .int .i8 b.f1.f0, .slice A2' b.f1.f1.length c2', .int .i8 b.f2.f0, .slice A4' b.f2.f1.length c4', .int .i64 b.f3, .bool b.f4, .slice A7' b.f5.length c7'] 47)).heap.size ((w.alloc (.cells #[.int .i8 a.f0, .int .i8 a.f1.f0, .slice A2 a.f1.f1.length c2, .int .i8 a.f2.f0, .slice A4 a.f2.f1.length c4, .int .i64 a.f3, .bool a.f4, .slice A7 a.f5.length c7] 47)).alloc (.cells #[.int .i8 b.f0, .int .i8 b.f1.f0, .slice A2' b.f1.f1.length c2', .int .i8 b.f2.f0, .slice A4' b.f2.f1.length c4', .int .i64 b.f3, .bool b.f4, .slice A7' b.f5.length c7'] 47)))
  go_enter Try.func31, Try.ntmps31
  obtain ⟨a0, a1, a2, a3, a4, a5, a6, a7⟩ := cells8 (blk_below K0.out HY.out)
  obtain ⟨b0, b1, b2, b3, b4, b5, b6, b7⟩ := cells8 (blk_below K1.out HY.out)
  go_wp2_with fail
  clear a0 a1 a2 a3 a4 a5 a6 a7 b0 b1 b2 b3 b4 b5 b6 b7
  generalize (w.alloc (.cells #[.int .i8 a.f0, .int .i8 a.f1.f0, .slice A2 a.f1.f1.length c2, .int .i8 a.f2.f0, .slice A4 a.f2.f1.length c4, .int .i64 a.f3, .bool a.f4, .slice A7 a.f5.length c7] 47)).alloc (.cells #[.int .i8 b.f0, .int .i8 b.f1.f0, .slice A2' b.f1.f1.length c2', .int .i8 b.f2.f0, .slice A4' b.f2.f1.length c4', .int .i64 b.f3, .bool b.f4, .slice A7' b.f5.length c7'] 47) = w0 at *
  refine (typed_calls a.f0 _).mono ?_
  rintro e w1 ⟨rfl, hB⟩
  rw [hlf]
  replace HY := Aside0.mk (below_then HY.out HY.out.size hB)
  clear hB
  obtain ⟨a0, a1, a2, a3, a4, a5, a6, a7⟩ := cells8 (blk_below K0.out HY.out)
  obtain ⟨b0, b1, b2, b3, b4, b5, b6, b7⟩ := cells8 (blk_below K1.out HY.out)
  go_wp2_with fail
  clear a0 a1 a2 a3 a4 a5 a6 a7 b0 b1 b2 b3 b4 b5 b6 b7
  refine (refSame_calls (HTa.out.below (below_then HW.out HW.out.size HY.out)) (HTb.out.below (below_then HW.out HW.out.size HY.out))).mono ?_
  rintro e w2 ⟨rfl, hB⟩
  rw [hst]
  replace HY := Aside0.mk (below_then HY.out HY.out.size hB)
  clear hB
  obtain ⟨a0, a1, a2, a3, a4, a5, a6, a7⟩ := cells8 (blk_below K0.out HY.out)
  obtain ⟨b0, b1, b2, b3, b4, b5, b6, b7⟩ := cells8 (blk_below K1.out HY.out)
  go_wp2_with fail
  clear a0 a1 a2 a3 a4 a5 a6 a7 b0 b1 b2 b3 b4 b5 b6 b7
  refine (toed_calls a.f0 _).mono ?_
  rintro e w3 ⟨rfl, hB⟩
  rw [hto]
  replace HY := Aside0.mk (below_then HY.out HY.out.size hB)
  clear hB
  obtain ⟨a0, a1, a2, a3, a4, a5, a6, a7⟩ := cells8 (blk_below K0.out HY.out)
  obtain ⟨b0, b1, b2, b3, b4, b5, b6, b7⟩ := cells8 (blk_below K1.out HY.out)
  go_wp2_with fail
  clear a0 a1 a2 a3 a4 a5 a6 a7 b0 b1 b2 b3 b4 b5 b6 b7
  refine (labelled_calls a.f0 _).mono ?_
  rintro e w4 ⟨rfl, hB⟩
  rw [hlb]
  replace HY := Aside0.mk (below_then HY.out HY.out.size hB)
  clear hB
  obtain ⟨a0, a1, a2, a3, a4, a5, a6, a7⟩ := cells8 (blk_below K0.out HY.out)
  obtain ⟨b0, b1, b2, b3, b4, b5, b6, b7⟩ := cells8 (blk_below K1.out HY.out)
  go_wp2_with fail
  clear a0 a1 a2 a3 a4 a5 a6 a7 b0 b1 b2 b3 b4 b5 b6 b7
  go_loopw [5] (fun i wr => i = .int .i64 0 ∧ Below w.heap.size w wr ∧ wr.heap[w.heap.size]? = some (.cells #[.int .i8 a.f0, .int .i8 a.f1.f0, .slice A2 a.f1.f1.length c2, .int .i8 a.f2.f0, .slice A4 a.f2.f1.length c4, .int .i64 a.f3, .bool a.f4, .slice A7 a.f5.length c7] 47 (0, 0))) (fun _ _ => 0)
  case atStart => exact ⟨rfl, below_then HW.out HW.out.size HY.out, blk_below K0.out HY.out⟩
  case round =>
    obtain ⟨rfl, hW, hK⟩ := hrel
    have HW2 := Aside0.mk hW
    obtain ⟨a0, a1, a2, a3, a4, a5, a6, a7⟩ := cells8 hK
    rw [hz.out] at a7
    clear hW hK
    go_wp2_with fail
    go_ret
    exact ⟨rfl, HW2.out⟩
theorem likeCL_nil {l m : List S47} (h : l.length = 0) : likeCL l m = true := by rw [List.eq_nil_of_length_eq_zero h, likeCL]
theorem rsame_at (n : Nat) : ∀ (a b : S47) (va vb : Value) (w : World), cnodes a < n → (endsC a).isSome = true → (endsC b).isSome = true → IsC w va a → IsC w vb b → Calls Try.prog 31 #[va, vb] w (SaysB (likeC a b) w) := by
  induction n with
  | zero => intro a b va vb w h; omega
  | succ n ih =>
  intro a b va vb w hn ha hb hp hq
  have e := likeC_eq a b
  by_cases hk : a.f0 = b.f0
  · obtain ⟨hl, hz, hs⟩ := kids_len ha hb hk
    have hd : decide (a.f0 = b.f0) = true := decide_eq_true hk
    rw [hd] at e
    cases hlf : leafB a.f0 with
    | false =>
      have n1 : a.f0 ≠ 1 := fun h => by rw [h] at hlf; simp [leafB] at hlf
      have n3 : a.f0 ≠ 3 := fun h => by rw [h] at hlf; simp [leafB] at hlf
      exact says_of (by rw [e, hlf]; simp [n1, n3]) (rsame_n hp hq ⟨hk⟩ ⟨hlf⟩ ⟨n1⟩ ⟨n3⟩ ⟨hl⟩ ⟨hs⟩ ⟨fun y z vy vz w h => ih y z vy vz w (by omega)⟩)
    | true =>
      have hz0 := hz hlf
      rw [likeCL_nil hz0] at e
      cases hst : sameB a.f1 b.f1 with
      | false => exact says_of (by rw [e, hlf, hst]; simp) (rsame_d hp hq ⟨hk⟩ ⟨hlf⟩ ⟨hst⟩)
      | true =>
        by_cases h1 : a.f0 = 1
        · cases hsu : sameB a.f2 b.f2 with
          | false => exact says_of (by rw [e, hlf, hst, hsu]; simp [h1]) (rsame_1u hp hq ⟨hk⟩ ⟨h1⟩ ⟨hst⟩ ⟨hsu⟩)
          | true =>
            by_cases hla : a.f3 = b.f3
            · by_cases hne : a.f4 = b.f4
              · exact says_of (by rw [e, hlf, hst, hsu]; simp [h1, hla, hne]) (rsame_1z hp hq ⟨hk⟩ ⟨h1⟩ ⟨hst⟩ ⟨hsu⟩ ⟨hla⟩ ⟨hne⟩ ⟨hz0⟩)
              · exact says_of (by rw [e, hlf, hst, hsu]; simp [h1, hla, hne]) (rsame_1y hp hq ⟨hk⟩ ⟨h1⟩ ⟨hst⟩ ⟨hsu⟩ ⟨hla⟩ ⟨hne⟩)
            · exact says_of (by rw [e, hlf, hst, hsu]; simp [h1, hla]) (rsame_1x hp hq ⟨hk⟩ ⟨h1⟩ ⟨hst⟩ ⟨hsu⟩ ⟨hla⟩)
        · by_cases h3 : a.f0 = 3
          · by_cases hla : a.f3 = b.f3
            · by_cases hne : a.f4 = b.f4
              · exact says_of (by rw [e, hlf, hst]; simp [h3, hla, hne]) (rsame_3z hp hq ⟨hk⟩ ⟨h3⟩ ⟨hst⟩ ⟨hla⟩ ⟨hne⟩ ⟨hz0⟩)
              · exact says_of (by rw [e, hlf, hst]; simp [h3, hla, hne]) (rsame_3y hp hq ⟨hk⟩ ⟨h3⟩ ⟨hst⟩ ⟨hla⟩ ⟨hne⟩)
            · exact says_of (by rw [e, hlf, hst]; simp [h3, hla]) (rsame_3x hp hq ⟨hk⟩ ⟨h3⟩ ⟨hst⟩ ⟨hla⟩)
          · exact says_of (by rw [e, hlf, hst]; simp [h1, h3]) (rsame_s hp hq ⟨hk⟩ ⟨hlf⟩ ⟨hst⟩ ⟨h1⟩ ⟨h3⟩ ⟨hz0⟩)
  · exact says_of (by rw [e, decide_eq_false hk]; simp) (rsame_k hp hq ⟨hk⟩)
theorem rsame_calls {a b : S47} {va vb : Value} {w : World} (ha : IsC w va a) (hb : IsC w vb b) (ea : (endsC a).isSome = true) (eb : (endsC b).isSome = true) : Calls Try.prog 31 #[va, vb] w fun e w' => e = .returned (.bool (likeC a b)) ∧ Below w.heap.size w w' := rsame_at _ a b va vb w (Nat.lt_succ_self _) ea eb ha hb
end Go.Proofs.Ytjmpejbciniceaa.X
