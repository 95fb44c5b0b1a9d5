/- Texts of this claim, joined: HTake, HCallH, HText2, PureParse. -/
import Derived.Deep.RegionHeld3
import Derived.KernelRfl
import Derived.Test.YtjmpejbciniceaaJTypesBack0
import Derived.Test.YtjmpejbciniceaaJTypesBack1
import Derived.Test.YtjmpejbciniceaaJTypesBack2
/- Steps of a region that draws its order, with a condition held: an operation taken first, and one that is not wanted. -/
namespace Go.Proofs.Ytjmpejbciniceaa.X
open Go
section
variable {P : Program} {ops : Array Oper} {Q : Exit → Act → World → Prop} {md : Region.Mode} {S : World → Prop}
theorem takeH {d : Option Tmp} (i : Nat) {oi : Oper} {v : Value} {fuel : Nat} {listed : Array Bool} {a : Act} {w : World} (hi : ops[i]? = some oi) (hd : oi.dst = d)
    (hs : Region.noSelect ops = true) (hf : Region.free md ops listed i = true) (hr : (Region.ready md ops listed).contains i = true)
    (hQ : ∀ c a w, Q (.panic c) (a.put d v) w → Q (.panic c) a w) (hw : Region.wanted oi (yielded ops a.tmps) = true)
    (hy : ∀ w, S w → (execOp a.eval oi).run P w = .ok (.value v) w) (hS : S w)
    (h : wpAnyH P md ops Q S fuel (listed.setIfInBounds i true) (a.put d v) w) : wpAnyH P md ops Q S (fuel + 1) listed a w := by
  subst hd
  exact wpAnyH_take hi hs hf hr hQ (Or.inl ⟨hw, hy⟩) hS h
theorem passH {d : Option Tmp} (i : Nat) {oi : Oper} {fuel : Nat} {listed : Array Bool} {a : Act} {w : World} (hi : ops[i]? = some oi) (hd : oi.dst = d)
    (hs : Region.noSelect ops = true) (hf : Region.free md ops listed i = true) (hr : (Region.ready md ops listed).contains i = true)
    (hQ : ∀ c a w, Q (.panic c) (a.put d undef) w → Q (.panic c) a w) (hw : Region.wanted oi (yielded ops a.tmps) = false) (hS : S w)
    (h : wpAnyH P md ops Q S fuel (listed.setIfInBounds i true) (a.put d undef) w) : wpAnyH P md ops Q S (fuel + 1) listed a w := by
  subst hd
  exact wpAnyH_take hi hs hf hr hQ (Or.inr ⟨hw, rfl⟩) hS h
/-- takeH, its plain conditions by themselves. -/
theorem takeA (d i : Nat) {oi : Oper} {v : Value} {fuel : Nat} {listed : Array Bool} {a : Act} {w : World} (hy : ∀ w, S w → (execOp a.eval oi).run P w = .ok (.value v) w) (hS : S w)
    (h : wpAnyH P md ops Q S fuel (listed.setIfInBounds i true) (a.put (some d) v) w) (hi : ops[i]? = some oi := by rfl) (hd : oi.dst = some d := by rfl)
    (hs : Region.noSelect ops = true := by kernel_rfl) (hf : Region.free md ops listed i = true := by kernel_rfl) (hr : (Region.ready md ops listed).contains i = true := by kernel_rfl)
    (hQ : ∀ c a w, Q (.panic c) (a.put (some d) v) w → Q (.panic c) a w := by exact fun _ _ _ h => h) (hw : Region.wanted oi (yielded ops a.tmps) = true := by rfl) : wpAnyH P md ops Q S (fuel + 1) listed a w := takeH i hi hd hs hf hr hQ hw hy hS h
theorem passA (d i : Nat) {oi : Oper} {fuel : Nat} {listed : Array Bool} {a : Act} {w : World} (hS : S w)
    (h : wpAnyH P md ops Q S fuel (listed.setIfInBounds i true) (a.put (some d) undef) w) (hi : ops[i]? = some oi := by rfl) (hd : oi.dst = some d := by rfl)
    (hs : Region.noSelect ops = true := by kernel_rfl) (hf : Region.free md ops listed i = true := by kernel_rfl) (hr : (Region.ready md ops listed).contains i = true := by kernel_rfl)
    (hQ : ∀ c a w, Q (.panic c) (a.put (some d) undef) w → Q (.panic c) a w := by exact fun _ _ _ h => h) (hw : Region.wanted oi (yielded ops a.tmps) = false := by rfl) : wpAnyH P md ops Q S (fuel + 1) listed a w := passH i hi hd hs hf hr hQ hw hS h
end
end Go.Proofs.Ytjmpejbciniceaa.X
/- Steps of a region that draws its order, with a condition held: a call by the callee's contract, the operands read by evaluation; and the steps under a guard that is a variable. -/
namespace Go.Proofs.Ytjmpejbciniceaa.X
open Go
section
variable {P : Program} {ops : Array Oper} {Q : Exit → Act → World → Prop} {md : Region.Mode} {S : World → Prop}
theorem callH {d : Option Tmp} (i : Nat) {oi : Oper} {fuel : Nat} {listed : Array Bool} {a : Act} {w : World} {f : FuncId} {args : Array Value} {R : Ending → World → Prop}
    (hi : ops[i]? = some oi) (hd : oi.dst = d) (hr : Region.ready md ops listed = [i]) (hw : Region.wanted oi (yielded ops a.tmps) = true)
    (hx : (execOp a.eval oi).run P w = .ok (.enter f args) w) (hc : Calls P f args w R)
    (h : ∀ e w', R e w' → ∃ v, e = .returned v ∧ S w' ∧ (S w' → wpAnyH P md ops Q S fuel (listed.setIfInBounds i true) (a.put d v) w')) :
    wpAnyH P md ops Q S (fuel + 1) listed a w := by
  subst hd
  refine wpAnyH_ready (rs := [i]) hr (by simp) (AllReadyH.cons hi (fun K hK => ?_) AllReadyH.nil)
  rw [if_pos hw]
  unfold Oper.wp
  rw [hx, Oper.upon_enter]
  refine hc.mono fun e w' hR => ?_
  obtain ⟨v, rfl, hS, hW⟩ := h e w' hR
  exact hK.out _ _ hS hW
/-- The same where the guard is a variable: behind it the slot holds the answer, or nothing. -/
theorem callCH {d : Option Tmp} (p : Bool) (i : Nat) {oi : Oper} {fuel : Nat} {listed : Array Bool} {a : Act} {w : World} {f : FuncId} {args : Array Value} {v : Value} {T : World → Prop}
    (hi : ops[i]? = some oi) (hd : oi.dst = d) (hr : Region.ready md ops listed = [i]) (hw : Region.wanted oi (yielded ops a.tmps) = p)
    (hx : p = true → (execOp a.eval oi).run P w = .ok (.enter f args) w) (h0 : T w) (hc : Calls P f args w fun e w' => e = .returned v ∧ T w')
    (h : ∀ w', T w' → S w' ∧ (S w' → wpAnyH P md ops Q S fuel (listed.setIfInBounds i true) (a.put d (bif p then v else undef)) w')) :
    wpAnyH P md ops Q S (fuel + 1) listed a w := by
  subst hd
  refine wpAnyH_ready (rs := [i]) hr (by simp) (AllReadyH.cons hi (fun K hK => ?_) AllReadyH.nil)
  cases p with
  | true =>
    rw [if_pos hw]
    unfold Oper.wp
    rw [hx rfl, Oper.upon_enter]
    refine hc.mono fun e w' ⟨he, hT⟩ => ?_
    subst he
    exact hK.out _ _ (h w' hT).1 (h w' hT).2
  | false =>
    rw [if_neg (by rw [hw]; simp)]
    exact hK.out _ _ (h w h0).1 (h w h0).2
theorem takeCH {d : Option Tmp} (p : Bool) (i : Nat) {oi : Oper} {v : Value} {fuel : Nat} {listed : Array Bool} {a : Act} {w : World} (hi : ops[i]? = some oi) (hd : oi.dst = d)
    (hs : Region.noSelect ops = true) (hf : Region.free md ops listed i = true) (hr : (Region.ready md ops listed).contains i = true)
    (hQ : ∀ c a w, Q (.panic c) (a.put d (bif p then v else undef)) w → Q (.panic c) a w) (hw : Region.wanted oi (yielded ops a.tmps) = p)
    (hy : p = true → ∀ w, S w → (execOp a.eval oi).run P w = .ok (.value v) w) (hS : S w)
    (h : wpAnyH P md ops Q S fuel (listed.setIfInBounds i true) (a.put d (bif p then v else undef)) w) : wpAnyH P md ops Q S (fuel + 1) listed a w := by
  subst hd
  cases p with
  | true => exact wpAnyH_take hi hs hf hr hQ (Or.inl ⟨hw, hy rfl⟩) hS h
  | false => exact wpAnyH_take hi hs hf hr hQ (Or.inr ⟨hw, rfl⟩) hS h
end
end Go.Proofs.Ytjmpejbciniceaa.X
/- The bracket. -/
namespace Go.Proofs.Ytjmpejbciniceaa.X
open Go.RowKit Go.Proofs.YtjmpejbciniceaaW.PrintWords Go.Proofs.YtjmpejbciniceaaW.PrintLast Go.Proofs.YtjmpejbciniceaaW.PrintMore
set_option linter.unusedVariables false
set_option linter.unusedSimpArgs false

theorem brk_fits {l : List UInt8} {t : S35} (h : l.length + 6 * nodes t ≤ 100000000) (hr : rightB t = true) : (l ++ [40] ++ core t).length + 1 ≤ 1000000000 := by
  have := core_len t hr
  simp only [List.length_append, List.length_cons, List.length_nil]
  omega
set_option maxRecDepth 100000 in
set_option maxHeartbeats 1600000 in
theorem write_brk (t : S35) (hk : leafK t.f0 ∨ nodeK t.f0) (least : Int) (h4 : tightI t.f0 < least) (v : Value) (l : List UInt8) (W0 w : World) (A : Option Addr) (c : Nat) (HR : Aside0 (rightB t = true)) (HT : Aside0 (IsT W0 (.agg #[.int .i8 t.f0, .slice A t.f1.length c]) t)) (HO : Aside0 (OwnB W0 v l w)) (HLEN : Aside0 (l.length + 6 * nodes t ≤ 100000000))
    (IH : Aside0 (∀ (v : Value) (w : World), OwnB W0 v (l ++ [40]) w → Calls Try.prog 18 #[v, .agg #[.int .i8 t.f0, .slice A t.f1.length c], .int .i64 0] w (WPost W0 v w (l ++ [40] ++ core t)))) :
    Calls Try.prog 18 #[v, .agg #[.int .i8 t.f0, .slice A t.f1.length c], .int .i64 least] w (WPost W0 v w (l ++ (40 :: (core t ++ [41])))) := by
  have hlen := HLEN.out
  have ne := HO.out.ne
  have NE := Aside0.mk ne
  clear ne
  go_enter Try.func18, Try.ntmps18
  go_wp2_with fail
  refine (tight_calls hk _).mono ?_
  rintro e w1 ⟨rfl, hB⟩
  obtain ⟨k1, hB1⟩ := one_block hB
  have K1 := Aside0.mk k1
  have G1 := Aside0.mk (Grew.below (v := v) hB1)
  replace HO := Aside0.mk (HO.out.after hB1)
  clear hB hB1 k1
  go_wp2_with fail
  have OK := Aside0.mk (fun (w' : World) (h : w'.heap[w.heap.size]? = some (.cells #[.int .i8 t.f0, .slice A t.f1.length c] 35 (0, 0))) => (⟨(blk_cell h 0).trans rfl, (blk_cell h 1).trans rfl⟩ : w'.cell? ⟨w.heap.size, 0, none⟩ = some (.int .i8 t.f0) ∧ w'.cell? ⟨w.heap.size, 1, none⟩ = some (.slice A t.f1.length c)))
  refine wp_region_held_drew (S := fun w' => w'.cell? ⟨w.heap.size, 0, none⟩ = some (.int .i8 t.f0) ∧ w'.cell? ⟨w.heap.size, 1, none⟩ = some (.slice A t.f1.length c)) (by kernel_rfl) (OK.out _ (blk_below K1.out (Below.refl _ _).drew)) (fun hHeld => ?_)
  replace K1 := Aside0.mk (blk_below K1.out (Below.refl _ _).drew)
  replace G1 := Aside0.mk (G1.out.trans (Grew.below (Below.refl _ _).drew))
  replace HO := Aside0.mk (HO.out.after (Below.refl _ _).drew)
  generalize w1.drew = wd at *
  refine takeH (d := some 16) (v := ?_) 0 rfl rfl (by kernel_rfl) (by kernel_rfl) (by kernel_rfl) (fun _ _ _ h => h) (by rfl) ?_ hHeld ?_
  rotate_left
  · intro w hSw
    try dsimp only at hSw
    go_simp <;> with_reducible rfl
  try simp only [Act.put, List.setIfInBounds_toArray, List.set_cons_zero, List.set_cons_succ]
  refine takeH (d := some 19) (v := ?_) 3 rfl rfl (by kernel_rfl) (by kernel_rfl) (by kernel_rfl) (fun _ _ _ h => h) (by rfl) ?_ hHeld ?_
  rotate_left
  · intro w hSw
    try dsimp only at hSw
    go_simp <;> with_reducible rfl
  try simp only [Act.put, List.setIfInBounds_toArray, List.set_cons_zero, List.set_cons_succ]
  refine wpAnyH_ready (rs := [1, 5]) (by kernel_rfl) (by simp) ?_
  refine AllReadyH.cons rfl (fun K hK => ?_) (AllReadyH.cons rfl (fun K hK => ?_) AllReadyH.nil)
  · go_simp
    have nx := HO.out.ne
    have hx := heap_alloc_new wd (.cells #[.int .u8 40] 5)
    have hB := below1 wd #[.int .u8 40] 5
    refine hK.out _ _ (OK.out _ (blk_below K1.out hB)) (fun hHeld => ?_)
    clear hK K
    replace K1 := Aside0.mk (blk_below K1.out hB)
    have H40 := Aside0.mk hx
    have N40 := Aside0.mk nx
    replace G1 := Aside0.mk (G1.out.trans (Grew.below hB))
    replace HO := Aside0.mk (HO.out.after hB)
    clear hx nx
    clear hB
    generalize wd.heap.size = g40 at *
    generalize wd.alloc (.cells #[.int .u8 40] 5) = w2 at *
    try simp only [Act.put, List.setIfInBounds_toArray, List.set_cons_zero, List.set_cons_succ]
    refine wpAnyH_ready (rs := [2, 5]) (by kernel_rfl) (by simp) ?_
    refine AllReadyH.cons rfl (fun K hK => ?_) (AllReadyH.cons rfl (fun K hK => ?_) AllReadyH.nil)
    · rw [if_pos (by rfl)]
      refine wp_byte (.tmp 16) (.tmp 17) (d := some 18) rfl rfl (by rfl) HO.out _ 40 (by rfl) H40.out (by omega) ?_
      intro v3 w3 hO hG
      have hk := hG.keep K1.out NE.out
      replace K1 := Aside0.mk hk.1
      replace NE := Aside0.mk hk.2
      clear hk
      refine hK.out _ _ (OK.out _ K1.out) (fun hHeld => ?_)
      clear hK K
      replace G1 := Aside0.mk (G1.out.trans hG)
      replace HO := Aside0.mk hO
      clear hO hG
      try simp only [Act.put, List.setIfInBounds_toArray, List.set_cons_zero, List.set_cons_succ]
      refine wpAnyH_ready (rs := [4, 5]) (by kernel_rfl) (by simp) ?_
      refine AllReadyH.cons rfl (fun K hK => ?_) (AllReadyH.cons rfl (fun K hK => ?_) AllReadyH.nil)
      · go_simp
        refine (IH.out _ _ HO.out).mono ?_
        rintro e w4 ⟨v4, rfl, hO, hG⟩
        have hk := hG.keep K1.out NE.out
        replace K1 := Aside0.mk hk.1
        replace NE := Aside0.mk hk.2
        clear hk
        refine hK.out _ _ (OK.out _ K1.out) (fun hHeld => ?_)
        clear hK K
        replace G1 := Aside0.mk (G1.out.trans hG)
        replace HO := Aside0.mk hO
        clear hO hG
        try simp only [Act.put, List.setIfInBounds_toArray, List.set_cons_zero, List.set_cons_succ]
        refine wpAnyH_ready (rs := [5]) (by kernel_rfl) (by simp) ?_
        refine AllReadyH.cons rfl (fun K hK => ?_) AllReadyH.nil
        go_simp
        have nx := HO.out.ne
        have hx := heap_alloc_new w4 (.cells #[.int .u8 41] 5)
        have hB := below1 w4 #[.int .u8 41] 5
        refine hK.out _ _ (OK.out _ (blk_below K1.out hB)) (fun hHeld => ?_)
        clear hK K
        replace K1 := Aside0.mk (blk_below K1.out hB)
        have H41 := Aside0.mk hx
        have N41 := Aside0.mk nx
        replace G1 := Aside0.mk (G1.out.trans (Grew.below hB))
        replace HO := Aside0.mk (HO.out.after hB)
        clear hx nx
        clear hB
        generalize w4.heap.size = g41 at *
        generalize w4.alloc (.cells #[.int .u8 41] 5) = w5 at *
        try simp only [Act.put, List.setIfInBounds_toArray, List.set_cons_zero, List.set_cons_succ]
        refine wpAnyH_ready (rs := [6]) (by kernel_rfl) (by simp) ?_
        refine AllReadyH.cons rfl (fun K hK => ?_) AllReadyH.nil
        rw [if_pos (by rfl)]
        refine wp_byte (.tmp 20) (.tmp 21) (d := some 22) rfl rfl (by rfl) HO.out _ 41 (by rfl) H41.out (brk_fits HLEN.out HR.out) ?_
        intro v6 w6 hO hG
        have hk := hG.keep K1.out NE.out
        replace K1 := Aside0.mk hk.1
        replace NE := Aside0.mk hk.2
        clear hk
        refine hK.out _ _ (OK.out _ K1.out) (fun hHeld => ?_)
        clear hK K
        replace G1 := Aside0.mk (G1.out.trans hG)
        replace HO := Aside0.mk hO
        clear hO hG
        try simp only [Act.put, List.setIfInBounds_toArray, List.set_cons_zero, List.set_cons_succ]
        refine takeH (d := some 6) (v := ?_) 7 rfl rfl (by kernel_rfl) (by kernel_rfl) (by kernel_rfl) (fun _ _ _ h => h) (by rfl) ?_ hHeld ?_
        rotate_left
        · intro w hSw
          try dsimp only at hSw
          go_simp <;> with_reducible rfl
        try simp only [Act.put, List.setIfInBounds_toArray, List.set_cons_zero, List.set_cons_succ]
        refine wpAnyH_done (by kernel_rfl) ?_ _
        go_wp2_with fail
        go_ret
        refine ⟨_, rfl, ?_, G1.out⟩
        have hh := HO.out
        rwa [List.append_assoc, List.append_assoc] at hh
      · go_simp
        have nx := HO.out.ne
        have hx := heap_alloc_new w3 (.cells #[.int .u8 41] 5)
        have hB := below1 w3 #[.int .u8 41] 5
        refine hK.out _ _ (OK.out _ (blk_below K1.out hB)) (fun hHeld => ?_)
        clear hK K
        replace K1 := Aside0.mk (blk_below K1.out hB)
        have H41 := Aside0.mk hx
        have N41 := Aside0.mk nx
        replace G1 := Aside0.mk (G1.out.trans (Grew.below hB))
        replace HO := Aside0.mk (HO.out.after hB)
        clear hx nx
        clear hB
        generalize w3.heap.size = g41 at *
        generalize w3.alloc (.cells #[.int .u8 41] 5) = w4 at *
        try simp only [Act.put, List.setIfInBounds_toArray, List.set_cons_zero, List.set_cons_succ]
        refine wpAnyH_ready (rs := [4]) (by kernel_rfl) (by simp) ?_
        refine AllReadyH.cons rfl (fun K hK => ?_) AllReadyH.nil
        go_simp
        refine (IH.out _ _ HO.out).mono ?_
        rintro e w5 ⟨v5, rfl, hO, hG⟩
        have hk := hG.keep K1.out NE.out
        replace K1 := Aside0.mk hk.1
        replace NE := Aside0.mk hk.2
        clear hk
        refine hK.out _ _ (OK.out _ K1.out) (fun hHeld => ?_)
        clear hK K
        replace G1 := Aside0.mk (G1.out.trans hG)
        replace HO := Aside0.mk hO
        have hk := hG.keep H41.out N41.out
        replace H41 := Aside0.mk hk.1
        replace N41 := Aside0.mk hk.2
        clear hk
        clear hO hG
        try simp only [Act.put, List.setIfInBounds_toArray, List.set_cons_zero, List.set_cons_succ]
        refine wpAnyH_ready (rs := [6]) (by kernel_rfl) (by simp) ?_
        refine AllReadyH.cons rfl (fun K hK => ?_) AllReadyH.nil
        rw [if_pos (by rfl)]
        refine wp_byte (.tmp 20) (.tmp 21) (d := some 22) rfl rfl (by rfl) HO.out _ 41 (by rfl) H41.out (brk_fits HLEN.out HR.out) ?_
        intro v6 w6 hO hG
        have hk := hG.keep K1.out NE.out
        replace K1 := Aside0.mk hk.1
        replace NE := Aside0.mk hk.2
        clear hk
        refine hK.out _ _ (OK.out _ K1.out) (fun hHeld => ?_)
        clear hK K
        replace G1 := Aside0.mk (G1.out.trans hG)
        replace HO := Aside0.mk hO
        clear hO hG
        try simp only [Act.put, List.setIfInBounds_toArray, List.set_cons_zero, List.set_cons_succ]
        refine takeH (d := some 6) (v := ?_) 7 rfl rfl (by kernel_rfl) (by kernel_rfl) (by kernel_rfl) (fun _ _ _ h => h) (by rfl) ?_ hHeld ?_
        rotate_left
        · intro w hSw
          try dsimp only at hSw
          go_simp <;> with_reducible rfl
        try simp only [Act.put, List.setIfInBounds_toArray, List.set_cons_zero, List.set_cons_succ]
        refine wpAnyH_done (by kernel_rfl) ?_ _
        go_wp2_with fail
        go_ret
        refine ⟨_, rfl, ?_, G1.out⟩
        have hh := HO.out
        rwa [List.append_assoc, List.append_assoc] at hh
    · go_simp
      have nx := HO.out.ne
      have hx := heap_alloc_new w2 (.cells #[.int .u8 41] 5)
      have hB := below1 w2 #[.int .u8 41] 5
      refine hK.out _ _ (OK.out _ (blk_below K1.out hB)) (fun hHeld => ?_)
      clear hK K
      replace K1 := Aside0.mk (blk_below K1.out hB)
      have H41 := Aside0.mk hx
      have N41 := Aside0.mk nx
      replace G1 := Aside0.mk (G1.out.trans (Grew.below hB))
      replace HO := Aside0.mk (HO.out.after hB)
      clear hx nx
      replace H40 := Aside0.mk (blk_below H40.out hB)
      clear hB
      generalize w2.heap.size = g41 at *
      generalize w2.alloc (.cells #[.int .u8 41] 5) = w3 at *
      try simp only [Act.put, List.setIfInBounds_toArray, List.set_cons_zero, List.set_cons_succ]
      refine wpAnyH_ready (rs := [2]) (by kernel_rfl) (by simp) ?_
      refine AllReadyH.cons rfl (fun K hK => ?_) AllReadyH.nil
      rw [if_pos (by rfl)]
      refine wp_byte (.tmp 16) (.tmp 17) (d := some 18) rfl rfl (by rfl) HO.out _ 40 (by rfl) H40.out (by omega) ?_
      intro v4 w4 hO hG
      have hk := hG.keep K1.out NE.out
      replace K1 := Aside0.mk hk.1
      replace NE := Aside0.mk hk.2
      clear hk
      refine hK.out _ _ (OK.out _ K1.out) (fun hHeld => ?_)
      clear hK K
      replace G1 := Aside0.mk (G1.out.trans hG)
      replace HO := Aside0.mk hO
      have hk := hG.keep H41.out N41.out
      replace H41 := Aside0.mk hk.1
      replace N41 := Aside0.mk hk.2
      clear hk
      clear hO hG
      try simp only [Act.put, List.setIfInBounds_toArray, List.set_cons_zero, List.set_cons_succ]
      refine wpAnyH_ready (rs := [4]) (by kernel_rfl) (by simp) ?_
      refine AllReadyH.cons rfl (fun K hK => ?_) AllReadyH.nil
      go_simp
      refine (IH.out _ _ HO.out).mono ?_
      rintro e w5 ⟨v5, rfl, hO, hG⟩
      have hk := hG.keep K1.out NE.out
      replace K1 := Aside0.mk hk.1
      replace NE := Aside0.mk hk.2
      clear hk
      refine hK.out _ _ (OK.out _ K1.out) (fun hHeld => ?_)
      clear hK K
      replace G1 := Aside0.mk (G1.out.trans hG)
      replace HO := Aside0.mk hO
      have hk := hG.keep H41.out N41.out
      replace H41 := Aside0.mk hk.1
      replace N41 := Aside0.mk hk.2
      clear hk
      clear hO hG
      try simp only [Act.put, List.setIfInBounds_toArray, List.set_cons_zero, List.set_cons_succ]
      refine wpAnyH_ready (rs := [6]) (by kernel_rfl) (by simp) ?_
      refine AllReadyH.cons rfl (fun K hK => ?_) AllReadyH.nil
      rw [if_pos (by rfl)]
      refine wp_byte (.tmp 20) (.tmp 21) (d := some 22) rfl rfl (by rfl) HO.out _ 41 (by rfl) H41.out (brk_fits HLEN.out HR.out) ?_
      intro v6 w6 hO hG
      have hk := hG.keep K1.out NE.out
      replace K1 := Aside0.mk hk.1
      replace NE := Aside0.mk hk.2
      clear hk
      refine hK.out _ _ (OK.out _ K1.out) (fun hHeld => ?_)
      clear hK K
      replace G1 := Aside0.mk (G1.out.trans hG)
      replace HO := Aside0.mk hO
      clear hO hG
      try simp only [Act.put, List.setIfInBounds_toArray, List.set_cons_zero, List.set_cons_succ]
      refine takeH (d := some 6) (v := ?_) 7 rfl rfl (by kernel_rfl) (by kernel_rfl) (by kernel_rfl) (fun _ _ _ h => h) (by rfl) ?_ hHeld ?_
      rotate_left
      · intro w hSw
        try dsimp only at hSw
        go_simp <;> with_reducible rfl
      try simp only [Act.put, List.setIfInBounds_toArray, List.set_cons_zero, List.set_cons_succ]
      refine wpAnyH_done (by kernel_rfl) ?_ _
      go_wp2_with fail
      go_ret
      refine ⟨_, rfl, ?_, G1.out⟩
      have hh := HO.out
      rwa [List.append_assoc, List.append_assoc] at hh
  · go_simp
    have nx := HO.out.ne
    have hx := heap_alloc_new wd (.cells #[.int .u8 41] 5)
    have hB := below1 wd #[.int .u8 41] 5
    refine hK.out _ _ (OK.out _ (blk_below K1.out hB)) (fun hHeld => ?_)
    clear hK K
    replace K1 := Aside0.mk (blk_below K1.out hB)
    have H41 := Aside0.mk hx
    have N41 := Aside0.mk nx
    replace G1 := Aside0.mk (G1.out.trans (Grew.below hB))
    replace HO := Aside0.mk (HO.out.after hB)
    clear hx nx
    clear hB
    generalize wd.heap.size = g41 at *
    generalize wd.alloc (.cells #[.int .u8 41] 5) = w2 at *
    try simp only [Act.put, List.setIfInBounds_toArray, List.set_cons_zero, List.set_cons_succ]
    refine wpAnyH_ready (rs := [1]) (by kernel_rfl) (by simp) ?_
    refine AllReadyH.cons rfl (fun K hK => ?_) AllReadyH.nil
    go_simp
    have nx := HO.out.ne
    have hx := heap_alloc_new w2 (.cells #[.int .u8 40] 5)
    have hB := below1 w2 #[.int .u8 40] 5
    refine hK.out _ _ (OK.out _ (blk_below K1.out hB)) (fun hHeld => ?_)
    clear hK K
    replace K1 := Aside0.mk (blk_below K1.out hB)
    have H40 := Aside0.mk hx
    have N40 := Aside0.mk nx
    replace G1 := Aside0.mk (G1.out.trans (Grew.below hB))
    replace HO := Aside0.mk (HO.out.after hB)
    clear hx nx
    replace H41 := Aside0.mk (blk_below H41.out hB)
    clear hB
    generalize w2.heap.size = g40 at *
    generalize w2.alloc (.cells #[.int .u8 40] 5) = w3 at *
    try simp only [Act.put, List.setIfInBounds_toArray, List.set_cons_zero, List.set_cons_succ]
    refine wpAnyH_ready (rs := [2]) (by kernel_rfl) (by simp) ?_
    refine AllReadyH.cons rfl (fun K hK => ?_) AllReadyH.nil
    rw [if_pos (by rfl)]
    refine wp_byte (.tmp 16) (.tmp 17) (d := some 18) rfl rfl (by rfl) HO.out _ 40 (by rfl) H40.out (by omega) ?_
    intro v4 w4 hO hG
    have hk := hG.keep K1.out NE.out
    replace K1 := Aside0.mk hk.1
    replace NE := Aside0.mk hk.2
    clear hk
    refine hK.out _ _ (OK.out _ K1.out) (fun hHeld => ?_)
    clear hK K
    replace G1 := Aside0.mk (G1.out.trans hG)
    replace HO := Aside0.mk hO
    have hk := hG.keep H41.out N41.out
    replace H41 := Aside0.mk hk.1
    replace N41 := Aside0.mk hk.2
    clear hk
    clear hO hG
    try simp only [Act.put, List.setIfInBounds_toArray, List.set_cons_zero, List.set_cons_succ]
    refine wpAnyH_ready (rs := [4]) (by kernel_rfl) (by simp) ?_
    refine AllReadyH.cons rfl (fun K hK => ?_) AllReadyH.nil
    go_simp
    refine (IH.out _ _ HO.out).mono ?_
    rintro e w5 ⟨v5, rfl, hO, hG⟩
    have hk := hG.keep K1.out NE.out
    replace K1 := Aside0.mk hk.1
    replace NE := Aside0.mk hk.2
    clear hk
    refine hK.out _ _ (OK.out _ K1.out) (fun hHeld => ?_)
    clear hK K
    replace G1 := Aside0.mk (G1.out.trans hG)
    replace HO := Aside0.mk hO
    have hk := hG.keep H41.out N41.out
    replace H41 := Aside0.mk hk.1
    replace N41 := Aside0.mk hk.2
    clear hk
    clear hO hG
    try simp only [Act.put, List.setIfInBounds_toArray, List.set_cons_zero, List.set_cons_succ]
    refine wpAnyH_ready (rs := [6]) (by kernel_rfl) (by simp) ?_
    refine AllReadyH.cons rfl (fun K hK => ?_) AllReadyH.nil
    rw [if_pos (by rfl)]
    refine wp_byte (.tmp 20) (.tmp 21) (d := some 22) rfl rfl (by rfl) HO.out _ 41 (by rfl) H41.out (brk_fits HLEN.out HR.out) ?_
    intro v6 w6 hO hG
    have hk := hG.keep K1.out NE.out
    replace K1 := Aside0.mk hk.1
    replace NE := Aside0.mk hk.2
    clear hk
    refine hK.out _ _ (OK.out _ K1.out) (fun hHeld => ?_)
    clear hK K
    replace G1 := Aside0.mk (G1.out.trans hG)
    replace HO := Aside0.mk hO
    clear hO hG
    try simp only [Act.put, List.setIfInBounds_toArray, List.set_cons_zero, List.set_cons_succ]
    refine takeH (d := some 6) (v := ?_) 7 rfl rfl (by kernel_rfl) (by kernel_rfl) (by kernel_rfl) (fun _ _ _ h => h) (by rfl) ?_ hHeld ?_
    rotate_left
    · intro w hSw
      try dsimp only at hSw
      go_simp <;> with_reducible rfl
    try simp only [Act.put, List.setIfInBounds_toArray, List.set_cons_zero, List.set_cons_succ]
    refine wpAnyH_done (by kernel_rfl) ?_ _
    go_wp2_with fail
    go_ret
    refine ⟨_, rfl, ?_, G1.out⟩
    have hh := HO.out
    rwa [List.append_assoc, List.append_assoc] at hh
theorem write_all (n : Nat) : WriteIH n := by
  induction n with
  | zero => intro t least v l W0 w vt h; omega
  | succ n ih =>
    have own : ∀ (t : S35) (least : Int) (v : Value) (l : List UInt8) (W0 w : World) (vt : Value), nodes t < n + 1 → rightB t = true → IsT W0 vt t → 0 ≤ least → least ≤ tightI t.f0 → OwnB W0 v l w → l.length + 6 * nodes t ≤ 100000001 →
        Calls Try.prog 18 #[v, vt, .int .i64 least] w (WPost W0 v w (l ++ core t)) := by
      intro t least v l W0 w vt hn hr hT h0 h4 hO hl
      rcases right_cases hr with ⟨k, hk, rfl⟩ | ⟨k, x, y, hk, hx, hy, rfl⟩
      · obtain ⟨A, c, rfl, _, _⟩ := hT
        rw [core_leaf]
        exact write_leaf k hk least (by have h5 : tightI k ≤ 4 := by (rcases hk with rfl | rfl | rfl <;> decide)
                                        exact Int.le_trans h4 h5) h0 v l W0 w A c (.mk hO) (.mk (by rw [nodes_leaf] at hl; omega))
      · exact write_node n k x y hk least h4 h0 v l W0 w vt (.mk ih) (.mk hn) (.mk hx) (.mk hy) (.mk hT) (.mk hO) (.mk hl)
    intro t least v l W0 w vt hn hr hT h0 h4 hO hl
    by_cases hb : tightI t.f0 < least
    · rw [parT_brk hb]
      have hk : leafK t.f0 ∨ nodeK t.f0 := by
        rcases right_cases hr with ⟨k, hk, rfl⟩ | ⟨k, x, y, hk, hx, hy, rfl⟩
        · exact .inl hk
        · exact .inr hk
      have ht0 : 0 ≤ tightI t.f0 := by unfold tightI; (repeat' split) <;> omega
      have hT2 := hT
      obtain ⟨A, c, rfl, _, _⟩ := hT
      exact write_brk t hk least hb v l W0 w A c (.mk hr) (.mk hT2) (.mk hO) (.mk hl) (.mk fun v' w' hO' => own t 0 v' _ W0 w' _ hn hr hT2 (Int.le_refl _) ht0 hO' (by simp only [List.length_append, List.length_cons, List.length_nil]; omega))
    · rw [parT_own (by omega)]
      exact own t least v l W0 w vt hn hr hT h0 (by omega) hO (by omega)
def textS (t : S35) : ByteArray := if checkI t = 0 then ⟨(core t).toArray⟩ else ⟨#[]⟩
def TPost (t : S35) (w : World) (e : Ending) (w' : World) : Prop := e = .returned (.tuple #[.string (textS t), .int .i64 (checkI t)]) ∧ Below w.heap.size w w'
set_option maxRecDepth 100000 in
set_option maxHeartbeats 1600000 in
theorem Text_calls {t : S35} {v : Value} {w : World} (h : IsT w v t) : Calls Try.prog 9 #[v] w (TPost t w) := by
  have HT := Aside0.mk h
  obtain ⟨A, c, rfl, _, _⟩ := h
  by_cases hc : checkI t = 0
  · have HC := Aside0.mk hc
    have HS : Aside0 (textS t = ⟨(core t).toArray⟩) := .mk (by unfold textS; rw [if_pos hc])
    have HR := Aside0.mk (check_nodes hc).2.2
    have HN := Aside0.mk (check_nodes hc).1
    clear hc
    go_enter Try.func9, Try.ntmps9
    go_wp2_with fail
    refine (Check_calls (HT.out.below (below1 ..))).mono ?_
    rw [HC.out]
    rintro e w1 ⟨rfl, hB⟩
    obtain ⟨k1, hB1⟩ := one_block hB
    have HB := Aside0.mk hB1
    replace HT := Aside0.mk (HT.out.below hB1)
    have e10 := (blk_cell k1 0).trans rfl
    have e11 := (blk_cell k1 1).trans rfl
    simp at e10 e11
    clear hB hB1 k1
    go_wp2_with fail
    refine (write_all (nodes t + 1) t 0 _ [] w1 w1 _ (by omega) HR.out HT.out (by omega) (by omega) (OwnB.nil w1) (by have := HN.out; simp only [List.length_nil]; omega)).mono ?_
    rintro e w2 ⟨v2, rfl, hO, hG⟩
    rw [List.nil_append, parT_own (by unfold tightI; (repeat' split) <;> omega)] at hO
    have hcv := bytes_back hO (core_ne t HR.out)
    have HB2 := Aside0.mk (below_then HB.out HB.out.size hO.below)
    clear hO hG e10 e11
    go_wp2_with fail
    go_ret2
    refine ⟨?_, HB2.out⟩
    rw [HS.out, HC.out]
    rfl
  · have HC : Aside0 ((checkI t != 0) = true) := .mk (by simp [hc])
    have HS : Aside0 (textS t = ⟨#[]⟩) := .mk (by unfold textS; rw [if_neg hc])
    clear hc
    go_enter Try.func9, Try.ntmps9
    go_wp2_with fail
    refine (Check_calls (HT.out.below (below1 ..))).mono ?_
    rintro e w1 ⟨rfl, hB⟩
    obtain ⟨k1, hB1⟩ := one_block hB
    have HB := Aside0.mk hB1
    have hc := HC.out
    clear hB hB1 k1 HC
    go_wp2_with fail
    go_ret2
    refine ⟨?_, HB.out⟩
    rw [HS.out]
    rfl
end Go.Proofs.Ytjmpejbciniceaa.X
/- Reading types from words: the parser of types.Read over lists of words, there and back, and the fewest brackets. -/
namespace Go.Proofs.Ytjmpejbciniceaa.X
set_option linter.unusedVariables false
set_option linter.unusedSimpArgs false

/-- A word's kind and text. -/
abbrev Tk : Type := Int × List UInt8
def tkQ : Tk := (4, [63])
def tkI : Tk := (3, [105, 110, 116])
def tkB : Tk := (3, [98, 111, 111, 108])
def tkO : Tk := (4, [40])
def tkC : Tk := (4, [41])
def tkA : Tk := (4, [45, 62])
def tkM : Tk := (4, [42])
def tkP : Tk := (4, [43])
def headIs (t : Tk) : List Tk → Bool
  | x :: _ => decide (x = t)
  | [] => false
def opOf (L : Nat) : Tk := if L = 3 then tkM else tkP
def kindOf (L : Nat) : Int := if L = 3 then 4 else 5
mutual
/-- fuel, level (4: an atom, 3: a product, 2: a sum, else the whole), words: the type and what is behind it -/
def parF : Nat → Nat → List Tk → Option (S35 × List Tk)
  | 0, _, _ => none
  | f + 1, L, ts =>
    if L = 4 then
      match ts with
      | [] => none
      | t :: r =>
        if t = tkQ then some (⟨0, []⟩, r)
        else if t = tkI then some (⟨1, []⟩, r)
        else if t = tkB then some (⟨2, []⟩, r)
        else if t = tkO then
          match parF f 0 r with
          | some (a, u) => if headIs tkC u then some (a, u.tail) else none
          | none => none
        else none
    else if L = 3 then (match parF f 4 ts with | some (a, r) => lopF f 3 a r | none => none)
    else if L = 2 then (match parF f 3 ts with | some (a, r) => lopF f 2 a r | none => none)
    else
      match parF f 2 ts with
      | some (a, r) => if headIs tkA r then (match parF f 0 r.tail with | some (b, u) => some (⟨3, [a, b]⟩, u) | none => none) else some (a, r)
      | none => none
def lopF : Nat → Nat → S35 → List Tk → Option (S35 × List Tk)
  | 0, _, _, _ => none
  | f + 1, L, a, ts => if headIs (opOf L) ts then (match parF f (L + 1) ts.tail with | some (b, r) => lopF f L ⟨kindOf L, [a, b]⟩ r | none => none) else some (a, ts)
end
theorem parF_eq (f L : Nat) (ts : List Tk) : parF (f + 1) L ts =
    (if L = 4 then
      match ts with
      | [] => none
      | t :: r =>
        if t = tkQ then some (⟨0, []⟩, r)
        else if t = tkI then some (⟨1, []⟩, r)
        else if t = tkB then some (⟨2, []⟩, r)
        else if t = tkO then
          match parF f 0 r with
          | some (a, u) => if headIs tkC u then some (a, u.tail) else none
          | none => none
        else none
    else if L = 3 then (match parF f 4 ts with | some (a, r) => lopF f 3 a r | none => none)
    else if L = 2 then (match parF f 3 ts with | some (a, r) => lopF f 2 a r | none => none)
    else
      match parF f 2 ts with
      | some (a, r) => if headIs tkA r then (match parF f 0 r.tail with | some (b, u) => some (⟨3, [a, b]⟩, u) | none => none) else some (a, r)
      | none => none) := by
  conv => lhs; unfold parF
theorem lopF_eq (f L : Nat) (a : S35) (ts : List Tk) : lopF (f + 1) L a ts = if headIs (opOf L) ts then (match parF f (L + 1) ts.tail with | some (b, r) => lopF f L ⟨kindOf L, [a, b]⟩ r | none => none) else some (a, ts) := by
  conv => lhs; unfold lopF
/-! ### fuel -/
theorem fuel_more (f : Nat) : (∀ L ts x, parF f L ts = some x → parF (f + 1) L ts = some x) ∧ (∀ L a ts x, lopF f L a ts = some x → lopF (f + 1) L a ts = some x) := by
  induction f with
  | zero => exact ⟨fun L ts x h => by simp [parF] at h, fun L a ts x h => by simp [lopF] at h⟩
  | succ f ih =>
    obtain ⟨ih1, ih2⟩ := ih
    constructor
    · intro L ts x h
      rw [parF_eq] at h
      rw [parF_eq]
      by_cases h4 : L = 4
      · simp only [h4, if_true] at h ⊢
        cases ts with
        | nil => simp at h
        | cons t r =>
          simp only at h ⊢
          split at h
          · rw [if_pos (by assumption)]; exact h
          rw [if_neg (by assumption)]
          split at h
          · rw [if_pos (by assumption)]; exact h
          rw [if_neg (by assumption)]
          split at h
          · rw [if_pos (by assumption)]; exact h
          rw [if_neg (by assumption)]
          split at h
          · rw [if_pos (by assumption)]
            cases hp : parF f 0 r with
            | none => rw [hp] at h; simp at h
            | some y => rw [hp] at h; rw [ih1 _ _ _ hp]; exact h
          · simp at h
      rw [if_neg h4] at h ⊢
      by_cases h3 : L = 3
      · rw [if_pos h3] at h ⊢
        cases hp : parF f 4 ts with
        | none => rw [hp] at h; simp at h
        | some y => rw [hp] at h; rw [ih1 _ _ _ hp]; exact ih2 _ _ _ _ h
      rw [if_neg h3] at h ⊢
      by_cases h2 : L = 2
      · rw [if_pos h2] at h ⊢
        cases hp : parF f 3 ts with
        | none => rw [hp] at h; simp at h
        | some y => rw [hp] at h; rw [ih1 _ _ _ hp]; exact ih2 _ _ _ _ h
      rw [if_neg h2] at h ⊢
      cases hp : parF f 2 ts with
      | none => rw [hp] at h; simp at h
      | some y =>
        rw [hp] at h; rw [ih1 _ _ _ hp]
        simp only at h ⊢
        split at h
        · rw [if_pos (by assumption)]
          cases hq : parF f 0 y.2.tail with
          | none => rw [hq] at h; simp at h
          | some z => rw [hq] at h; rw [ih1 _ _ _ hq]; exact h
        · rw [if_neg (by assumption)]; exact h
    · intro L a ts x h
      rw [lopF_eq] at h
      rw [lopF_eq]
      split at h
      · rw [if_pos (by assumption)]
        cases hp : parF f (L + 1) ts.tail with
        | none => rw [hp] at h; simp at h
        | some y => rw [hp] at h; rw [ih1 _ _ _ hp]; exact ih2 _ _ _ _ h
      · rw [if_neg (by assumption)]; exact h
theorem fuel_le {f g : Nat} (h : f ≤ g) {L : Nat} {ts : List Tk} {x : S35 × List Tk} (hp : parF f L ts = some x) : parF g L ts = some x := by
  obtain ⟨d, rfl⟩ := Nat.exists_eq_add_of_le h
  induction d with
  | zero => exact hp
  | succ d ih => exact (fuel_more _).1 _ _ _ (ih (by omega))
theorem lop_le {f g : Nat} (h : f ≤ g) {L : Nat} {a : S35} {ts : List Tk} {x : S35 × List Tk} (hp : lopF f L a ts = some x) : lopF g L a ts = some x := by
  obtain ⟨d, rfl⟩ := Nat.exists_eq_add_of_le h
  induction d with
  | zero => exact hp
  | succ d ih => exact (fuel_more _).2 _ _ _ _ (ih (by omega))
/-! ### there -/
def signTk (k : Int) : Tk := if k = 0 then tkQ else if k = 1 then tkI else if k = 2 then tkB else if k = 3 then tkA else if k = 4 then tkM else tkP
def brkT (b : Bool) (t : List Tk) : List Tk := if b then tkO :: (t ++ [tkC]) else t
def tokJ (k : Int) : List (Int × List Tk) → List Tk
  | [p, q] => brkT (decide (tightI p.1 < leftI k)) p.2 ++ signTk k :: brkT (decide (tightI q.1 < rightI k)) q.2
  | _ => [signTk k]
mutual
def tokC : S35 → List Tk
  | ⟨k, l⟩ => tokJ k (tokL l)
def tokL : List S35 → List (Int × List Tk)
  | [] => []
  | x :: l => (x.f0, tokC x) :: tokL l
end
def tokT (t : S35) (l : Int) : List Tk := brkT (decide (tightI t.f0 < l)) (tokC t)
theorem tokC_leaf (k : Int) : tokC ⟨k, []⟩ = [signTk k] := by simp [tokC, tokL, tokJ]
theorem tokC_two (k : Int) (x y : S35) : tokC ⟨k, [x, y]⟩ = tokT x (leftI k) ++ signTk k :: tokT y (rightI k) := by simp [tokC, tokL, tokJ, tokT]
theorem tokT_own {t : S35} {l : Int} (h : l ≤ tightI t.f0) : tokT t l = tokC t := by unfold tokT brkT; rw [if_neg]; simp; omega
theorem tokT_brk {t : S35} {l : Int} (h : tightI t.f0 < l) : tokT t l = tkO :: (tokC t ++ [tkC]) := by unfold tokT brkT; rw [if_pos]; simp; omega
theorem tight_bounds (k : Int) : 1 ≤ tightI k ∧ tightI k ≤ 4 := by unfold tightI; (repeat' split) <;> omega
def stopT (r : List Tk) : Prop := headIs tkM r = false ∧ headIs tkP r = false ∧ headIs tkA r = false
theorem lop_stop {L : Nat} {a : S35} {r : List Tk} (h : headIs (opOf L) r = false) : lopF 1 L a r = some (a, r) := by rw [lopF_eq, h]; rfl
/-- At each level: the words u are read as t. -/
def At4 (u : List Tk) (t : S35) : Prop := ∀ r, ∃ f, parF f 4 (u ++ r) = some (t, r)
def At3 (u : List Tk) (t : S35) : Prop := ∀ r x f0, lopF f0 3 t r = some x → ∃ f, parF f 3 (u ++ r) = some x
def At2 (u : List Tk) (t : S35) : Prop := ∀ r x f0, headIs tkM r = false → lopF f0 2 t r = some x → ∃ f, parF f 2 (u ++ r) = some x
def At0 (u : List Tk) (t : S35) : Prop := ∀ r, stopT r → ∃ f, parF f 0 (u ++ r) = some (t, r)
theorem up3 {u : List Tk} {t : S35} (h : At4 u t) : At3 u t := by
  intro r x f0 hx
  obtain ⟨f, hf⟩ := h r
  refine ⟨max f f0 + 1, ?_⟩
  rw [parF_eq, if_neg (by decide), if_pos rfl, fuel_le (by omega : f ≤ max f f0) hf]
  exact lop_le (by omega) hx
theorem up2 {u : List Tk} {t : S35} (h : At3 u t) : At2 u t := by
  intro r x f0 hr hx
  obtain ⟨f, hf⟩ := h r _ 1 (lop_stop (L := 3) hr)
  refine ⟨max f f0 + 1, ?_⟩
  rw [parF_eq, if_neg (by decide), if_neg (by decide), if_pos rfl, fuel_le (by omega : f ≤ max f f0) hf]
  exact lop_le (by omega) hx
theorem up0 {u : List Tk} {t : S35} (h : At2 u t) : At0 u t := by
  intro r hr
  obtain ⟨f, hf⟩ := h r _ 1 hr.1 (lop_stop (L := 2) hr.2.1)
  refine ⟨f + 1, ?_⟩
  rw [parF_eq, if_neg (by decide), if_neg (by decide), if_neg (by decide), hf]
  simp only
  rw [if_neg (by rw [hr.2.2]; decide)]
theorem at_brk {u : List Tk} {t : S35} (h : At0 u t) : At4 (tkO :: (u ++ [tkC])) t := by
  intro r
  obtain ⟨f, hf⟩ := h (tkC :: r) ⟨by rfl, by rfl, by rfl⟩
  refine ⟨f + 1, ?_⟩
  have e : (tkO :: (u ++ [tkC])) ++ r = tkO :: (u ++ tkC :: r) := by simp
  rw [e, parF_eq, if_pos rfl]
  simp only
  rw [if_neg (by decide), if_neg (by decide), if_neg (by decide), if_pos trivial, hf]
  rfl
structure Back (t : S35) : Prop where
  a4 : At4 (tokT t 4) t
  a3 : At3 (tokT t 3) t
  a2 : At2 (tokT t 2) t
  a0 : At0 (tokT t 0) t
theorem back_right (t : S35) (h : rightB t = true) : Back t := by
  refine right_ind (P := Back) (fun k hk => ?_) (fun k x y hk hx hy bx by_ => ?_) t h
  · have hl : ∀ l : Int, l ≤ 4 → tokT ⟨k, []⟩ l = [signTk k] := fun l hl => by
      rw [tokT_own, tokC_leaf]
      rcases hk with rfl | rfl | rfl <;> exact hl
    have h4 : At4 [signTk k] ⟨k, []⟩ := fun r => ⟨1, by rcases hk with rfl | rfl | rfl <;> rfl⟩
    exact ⟨by rw [hl 4 (by decide)]; exact h4, by rw [hl 3 (by decide)]; exact up3 h4, by rw [hl 2 (by decide)]; exact up2 (up3 h4), by rw [hl 0 (by decide)]; exact up0 (up2 (up3 h4))⟩
  · rcases hk with rfl | rfl | rfl
    · -- a function
      have hu : tokC ⟨3, [x, y]⟩ = tokT x 2 ++ tkA :: tokT y 0 := by
        rw [tokC_two]
        have e : tokT y (rightI 3) = tokT y 0 := by rw [tokT_own (by have := tight_bounds y.f0; show (1 : Int) ≤ _; omega), tokT_own (by have := tight_bounds y.f0; omega)]
        rw [e]
        rfl
      have c0 : At0 (tokC ⟨3, [x, y]⟩) ⟨3, [x, y]⟩ := by
        intro r hr
        obtain ⟨f, hf⟩ := bx.a2 (tkA :: (tokT y 0 ++ r)) _ 1 (by rfl) (lop_stop (L := 2) (by rfl))
        obtain ⟨g, hg⟩ := by_.a0 r hr
        refine ⟨max f g + 1, ?_⟩
        rw [hu, List.append_assoc, List.cons_append, parF_eq, if_neg (by decide), if_neg (by decide), if_neg (by decide), fuel_le (by omega : f ≤ max f g) hf]
        simp only
        rw [if_pos (by rfl), List.tail_cons, fuel_le (by omega : g ≤ max f g) hg]
      have c4 := at_brk c0
      exact ⟨by rw [tokT_brk (by simp [tightI])]; exact c4, by rw [tokT_brk (by simp [tightI])]; exact up3 c4, by rw [tokT_brk (by simp [tightI])]; exact up2 (up3 c4), by rw [tokT_own (by simp [tightI])]; exact c0⟩
    · -- a pair
      have c3 : At3 (tokC ⟨4, [x, y]⟩) ⟨4, [x, y]⟩ := by
        intro r z f0 hz
        obtain ⟨f, hf⟩ := by_.a4 r
        obtain ⟨g, hg⟩ := bx.a3 (tkM :: (tokT y 4 ++ r)) z (max f f0 + 1) (by
          rw [lopF_eq, if_pos (by rfl), List.tail_cons, fuel_le (by omega : f ≤ max f f0) hf]
          exact lop_le (by omega) hz)
        refine ⟨g, ?_⟩
        rw [tokC_two, List.append_assoc]
        exact hg
      have c0 := up0 (up2 c3)
      have c4 := at_brk c0
      exact ⟨by rw [tokT_brk (by simp [tightI])]; exact c4, by rw [tokT_own (by simp [tightI])]; exact c3, by rw [tokT_own (by simp [tightI])]; exact up2 c3, by rw [tokT_own (by simp [tightI])]; exact c0⟩
    · -- a sum
      have c2 : At2 (tokC ⟨5, [x, y]⟩) ⟨5, [x, y]⟩ := by
        intro r z f0 hr hz
        obtain ⟨f, hf⟩ := by_.a3 r _ 1 (lop_stop (L := 3) hr)
        obtain ⟨g, hg⟩ := bx.a2 (tkP :: (tokT y 3 ++ r)) z (max f f0 + 1) (by rfl) (by
          rw [lopF_eq, if_pos (by rfl), List.tail_cons, fuel_le (by omega : f ≤ max f f0) hf]
          exact lop_le (by omega) hz)
        refine ⟨g, ?_⟩
        rw [tokC_two, List.append_assoc]
        exact hg
      have c0 := up0 c2
      have c4 := at_brk c0
      exact ⟨by rw [tokT_brk (by simp [tightI])]; exact c4, by rw [tokT_brk (by simp [tightI])]; exact up3 c4, by rw [tokT_own (by simp [tightI])]; exact c2, by rw [tokT_own (by simp [tightI])]; exact c0⟩
/-! ### the fewest brackets -/
def br (ts : List Tk) : Nat := ts.countP (fun t => decide (t = tkO))
theorem br_append (u v : List Tk) : br (u ++ v) = br u + br v := List.countP_append
theorem br_cons_ne {t : Tk} (h : t ≠ tkO) (v : List Tk) : br (t :: v) = br v := by unfold br; rw [List.countP_cons]; simp [h]
theorem br_cons_o (v : List Tk) : br (tkO :: v) = br v + 1 := by unfold br; rw [List.countP_cons]; simp
theorem br_brk (t : S35) (l : Int) : br (tokT t l) = br (tokC t) + if tightI t.f0 < l then 1 else 0 := by
  by_cases h : tightI t.f0 < l
  · rw [tokT_brk h, br_cons_o, br_append, if_pos h]
    rfl
  · rw [tokT_own (by omega), if_neg h]; omega
theorem br_mono (t : S35) {l l' : Int} (h : l ≤ l') : br (tokT t l) ≤ br (tokT t l') := by
  rw [br_brk, br_brk]
  split <;> split <;> omega
theorem br_up (t : S35) (l : Int) : br (tokT t l) ≤ br (tokC t) + 1 := by rw [br_brk]; split <;> omega
theorem sign_ne (k : Int) : signTk k ≠ tkO := by unfold signTk; (repeat' split) <;> decide
theorem br_two (k : Int) (x y : S35) : br (tokC ⟨k, [x, y]⟩) = br (tokT x (leftI k)) + br (tokT y (rightI k)) := by rw [tokC_two, br_append, br_cons_ne (sign_ne k)]
theorem tail_of {t : Tk} {ts : List Tk} (h : headIs t ts = true) : ts = t :: ts.tail := by
  cases ts with
  | nil => simp [headIs] at h
  | cons a l => simp [headIs] at h; subst h; rfl
def lv (L : Nat) : Int := if L = 4 then 4 else if L = 3 then 3 else if L = 2 then 2 else 0
theorem br_least (f : Nat) : (∀ L ts c r, parF f L ts = some (c, r) → ∃ u, ts = u ++ r ∧ br (tokT c (lv L)) ≤ br u) ∧
    (∀ L a ts c r, L = 3 ∨ L = 2 → lopF f L a ts = some (c, r) → ∃ u, ts = u ++ r ∧ ∀ v, br (tokT a (lv L)) ≤ br v → br (tokT c (lv L)) ≤ br v + br u) := by
  induction f with
  | zero => exact ⟨fun L ts c r h => by simp [parF] at h, fun L a ts c r _ h => by simp [lopF] at h⟩
  | succ f ih =>
    obtain ⟨ih1, ih2⟩ := ih
    constructor
    · intro L ts c r h
      rw [parF_eq] at h
      by_cases h4 : L = 4
      · simp only [h4, if_true] at h ⊢
        cases ts with
        | nil => simp at h
        | cons t s =>
          simp only at h
          split at h
          · simp only [Option.some.injEq, Prod.mk.injEq] at h; obtain ⟨rfl, rfl⟩ := h; exact ⟨[t], rfl, by rw [tokT_own (by simp [tightI, lv]), tokC_leaf]; exact Nat.zero_le _⟩
          split at h
          · simp only [Option.some.injEq, Prod.mk.injEq] at h; obtain ⟨rfl, rfl⟩ := h; exact ⟨[t], rfl, by rw [tokT_own (by simp [tightI, lv]), tokC_leaf]; exact Nat.zero_le _⟩
          split at h
          · simp only [Option.some.injEq, Prod.mk.injEq] at h; obtain ⟨rfl, rfl⟩ := h; exact ⟨[t], rfl, by rw [tokT_own (by simp [tightI, lv]), tokC_leaf]; exact Nat.zero_le _⟩
          split at h
          · rename_i ht
            subst ht
            cases hp : parF f 0 s with
            | none => rw [hp] at h; simp at h
            | some y =>
              rw [hp] at h
              simp only at h
              split at h
              · rename_i hc
                simp only [Option.some.injEq, Prod.mk.injEq] at h
                obtain ⟨rfl, rfl⟩ := h
                obtain ⟨u, hu, hb⟩ := ih1 0 s y.1 y.2 (by rw [hp])
                refine ⟨tkO :: (u ++ [tkC]), by rw [hu, tail_of hc]; simp, ?_⟩
                rw [br_cons_o, br_append]
                have h0 : br (tokT y.1 (lv 0)) = br (tokC y.1) := by rw [tokT_own (by have := tight_bounds y.1.f0; show (0 : Int) ≤ _; omega)]
                have h1 := br_up y.1 (lv 4)
                omega
              · simp at h
          · simp at h
      rw [if_neg h4] at h
      by_cases h3 : L = 3
      · subst h3
        rw [if_pos rfl] at h
        cases hp : parF f 4 ts with
        | none => rw [hp] at h; simp at h
        | some y =>
          rw [hp] at h
          obtain ⟨u, hu, hb⟩ := ih1 4 ts y.1 y.2 (by rw [hp])
          obtain ⟨v, hv, hb2⟩ := ih2 3 y.1 y.2 c r (.inl rfl) h
          refine ⟨u ++ v, by rw [hu, hv, List.append_assoc], ?_⟩
          rw [br_append]
          exact hb2 u (Nat.le_trans (br_mono _ (by decide)) hb)
      rw [if_neg h3] at h
      by_cases h2 : L = 2
      · subst h2
        rw [if_pos rfl] at h
        cases hp : parF f 3 ts with
        | none => rw [hp] at h; simp at h
        | some y =>
          rw [hp] at h
          obtain ⟨u, hu, hb⟩ := ih1 3 ts y.1 y.2 (by rw [hp])
          obtain ⟨v, hv, hb2⟩ := ih2 2 y.1 y.2 c r (.inr rfl) h
          refine ⟨u ++ v, by rw [hu, hv, List.append_assoc], ?_⟩
          rw [br_append]
          exact hb2 u (Nat.le_trans (br_mono _ (by decide)) hb)
      rw [if_neg h2] at h
      have hlv : lv L = 0 := by unfold lv; rw [if_neg h4, if_neg h3, if_neg h2]
      rw [hlv]
      cases hp : parF f 2 ts with
      | none => rw [hp] at h; simp at h
      | some y =>
        rw [hp] at h
        simp only at h
        obtain ⟨u, hu, hb⟩ := ih1 2 ts y.1 y.2 (by rw [hp])
        split at h
        · rename_i ha
          cases hq : parF f 0 y.2.tail with
          | none => rw [hq] at h; simp at h
          | some z =>
            rw [hq] at h
            simp only [Option.some.injEq, Prod.mk.injEq] at h
            obtain ⟨rfl, rfl⟩ := h
            obtain ⟨v, hv, hb2⟩ := ih1 0 _ z.1 z.2 (by rw [hq])
            refine ⟨u ++ tkA :: v, by rw [hu, tail_of ha, hv]; simp, ?_⟩
            rw [br_append, br_cons_ne (by decide), tokT_own (by simp [tightI]), br_two]
            have e1 : br (tokT z.1 (rightI 3)) = br (tokT z.1 (lv 0)) := by
              rw [tokT_own (by have := tight_bounds z.1.f0; show (1 : Int) ≤ _; omega), tokT_own (by have := tight_bounds z.1.f0; show (0 : Int) ≤ _; omega)]
            rw [e1]
            exact Nat.add_le_add hb hb2
        · simp only [Option.some.injEq, Prod.mk.injEq] at h
          obtain ⟨rfl, rfl⟩ := h
          exact ⟨u, hu, Nat.le_trans (br_mono _ (by decide)) hb⟩
    · intro L a ts c r hL h
      rw [lopF_eq] at h
      split at h
      · rename_i hop
        cases hp : parF f (L + 1) ts.tail with
        | none => rw [hp] at h; simp at h
        | some y =>
          rw [hp] at h
          obtain ⟨u, hu, hb⟩ := ih1 _ _ y.1 y.2 (by rw [hp])
          obtain ⟨v, hv, hb2⟩ := ih2 L _ y.2 c r hL h
          refine ⟨opOf L :: (u ++ v), by rw [tail_of hop, hu, hv]; simp, fun w hw => ?_⟩
          have hno : opOf L ≠ tkO := by unfold opOf; split <;> decide
          rw [br_cons_ne hno, br_append]
          have h5 := hb2 (w ++ opOf L :: u) (by
            rw [br_append, br_cons_ne hno]
            rcases hL with rfl | rfl
            · rw [tokT_own (by simp [tightI, lv, kindOf]), br_two]
              exact Nat.add_le_add hw hb
            · rw [tokT_own (by simp [tightI, lv, kindOf]), br_two]
              exact Nat.add_le_add hw hb)
          rw [br_append, br_cons_ne hno] at h5
          omega
      · simp only [Option.some.injEq, Prod.mk.injEq] at h
        obtain ⟨rfl, rfl⟩ := h
        exact ⟨[], rfl, fun w hw => Nat.le_add_right_of_le hw⟩
/-! ### brackets belong together -/
def mtF : Nat → List Tk → Option Nat
  | 0, _ => some 0
  | _ + 1, [] => none
  | n + 1, t :: ts => (mtF (if t = tkO then n + 2 else if t = tkC then n else n + 1) ts).map (· + 1)
def Dy (u : List Tk) : Prop := ∀ n v, mtF (n + 1) (u ++ v) = (mtF (n + 1) v).map (· + u.length)
theorem dy_append {u v : List Tk} (hu : Dy u) (hv : Dy v) : Dy (u ++ v) := by
  intro n w
  rw [List.append_assoc, hu, hv, Option.map_map]
  congr 1
  funext x
  simp only [Function.comp, List.length_append]
  omega
theorem dy_one {t : Tk} (h1 : t ≠ tkO) (h2 : t ≠ tkC) : Dy [t] := by
  intro n v
  rw [List.singleton_append, mtF, if_neg h1, if_neg h2]
  rfl
theorem dy_brk {u : List Tk} (h : Dy u) : Dy (tkO :: (u ++ [tkC])) := by
  intro n v
  have e : (tkO :: (u ++ [tkC])) ++ v = tkO :: (u ++ tkC :: v) := by simp
  rw [e, mtF, if_pos rfl, h, mtF, if_neg (by decide), if_pos rfl, Option.map_map, Option.map_map]
  congr 1
  funext x
  simp only [Function.comp, List.length_cons, List.length_append, List.length_nil]
  omega
theorem sign_nc (k : Int) : signTk k ≠ tkC := by unfold signTk; (repeat' split) <;> decide
/-- Behind each bracket its match. -/
def Mb (u : List Tk) : Prop := ∀ p v, u = p ++ tkO :: v → ∀ z, ∃ j, mtF 1 (v ++ z) = some j ∧ j ≤ v.length
theorem mb_append {u v : List Tk} (hu : Mb u) (hv : Mb v) : Mb (u ++ v) := by
  intro p w h z
  rcases List.append_eq_append_iff.1 h with ⟨q, h1, h2⟩ | ⟨q, h1, h2⟩
  · exact hv q w h2 z
  · cases q with
    | nil => exact hv [] w (by simpa using h2.symm) z
    | cons t q =>
      injection h2 with h3 h4
      subst h3
      have h4 : w = q ++ v := h4
      obtain ⟨j, hj, hl⟩ := hu p q h1 (v ++ z)
      exact ⟨j, by rw [h4, List.append_assoc]; exact hj, by rw [h4, List.length_append]; omega⟩
theorem mb_one {t : Tk} (h : t ≠ tkO) : Mb [t] := by
  intro p v e z
  cases p with
  | nil => injection e with e1 _; exact absurd e1 h
  | cons a p => injection e with _ e2; simp at e2
theorem mb_brk {u : List Tk} (hd : Dy u) (h : Mb u) : Mb (tkO :: (u ++ [tkC])) := by
  intro p v e z
  cases p with
  | nil =>
    injection e with _ e2
    subst e2
    refine ⟨u.length + 1, ?_, by simp⟩
    rw [List.append_assoc, hd]
    show ((mtF 1 (tkC :: z)).map _) = _
    rw [mtF, if_neg (by decide), if_pos rfl]
    simp [mtF, Nat.add_comm]
  | cons a p =>
    injection e with _ e2
    exact mb_append h (mb_one (by decide)) p v e2 z
theorem tok_both (t : S35) (h : rightB t = true) : Dy (tokC t) ∧ Mb (tokC t) := by
  have brk : ∀ (x : S35) (l : Int), Dy (tokC x) ∧ Mb (tokC x) → Dy (tokT x l) ∧ Mb (tokT x l) := fun x l hx => by
    by_cases hl : tightI x.f0 < l
    · rw [tokT_brk hl]; exact ⟨dy_brk hx.1, mb_brk hx.1 hx.2⟩
    · rw [tokT_own (by omega)]; exact hx
  refine right_ind (P := fun t => Dy (tokC t) ∧ Mb (tokC t)) (fun k hk => ?_) (fun k x y hk hx hy bx by_ => ?_) t h
  · rw [tokC_leaf]; exact ⟨dy_one (sign_ne k) (sign_nc k), mb_one (sign_ne k)⟩
  · rw [tokC_two]
    obtain ⟨a1, a2⟩ := brk x (leftI k) bx
    obtain ⟨b1, b2⟩ := brk y (rightI k) by_
    have e : tokT x (leftI k) ++ signTk k :: tokT y (rightI k) = tokT x (leftI k) ++ ([signTk k] ++ tokT y (rightI k)) := rfl
    rw [e]
    exact ⟨dy_append a1 (dy_append (dy_one (sign_ne k) (sign_nc k)) b1), mb_append a2 (mb_append (mb_one (sign_ne k)) b2)⟩
theorem mt_at (n : Nat) : ∀ (v : List Tk) (j : Nat), mtF (n + 1) v = some j → ∃ x y, v = x ++ tkC :: y ∧ j = x.length + 1 := by
  intro v
  induction v generalizing n with
  | nil => intro j h; simp [mtF] at h
  | cons t v ih =>
    intro j h
    rw [mtF] at h
    by_cases h1 : t = tkO
    · rw [if_pos h1] at h
      cases hm : mtF (n + 2) v with
      | none => rw [hm] at h; simp at h
      | some i =>
        rw [hm] at h
        simp at h
        obtain ⟨x, y, hv, hj⟩ := ih (n + 1) i hm
        exact ⟨t :: x, y, by rw [hv]; rfl, by simp; omega⟩
    rw [if_neg h1] at h
    by_cases h2 : t = tkC
    · rw [if_pos h2] at h
      cases n with
      | zero => simp [mtF] at h; subst h; exact ⟨[], v, by rw [h2]; rfl, rfl⟩
      | succ n =>
        cases hm : mtF (n + 1) v with
        | none => rw [hm] at h; simp at h
        | some i =>
          rw [hm] at h
          simp at h
          obtain ⟨x, y, hv, hj⟩ := ih n i hm
          exact ⟨t :: x, y, by rw [hv]; rfl, by simp; omega⟩
    · rw [if_neg h2] at h
      cases hm : mtF (n + 1) v with
      | none => rw [hm] at h; simp at h
      | some i =>
        rw [hm] at h
        simp at h
        obtain ⟨x, y, hv, hj⟩ := ih n i hm
        exact ⟨t :: x, y, by rw [hv]; rfl, by simp; omega⟩
/-- With a pair of brackets taken away the words are never read as the same type, to the end. -/
theorem less_not (t : S35) (p x y : List Tk) (h : tokC t = p ++ tkO :: (x ++ tkC :: y)) (e : Tk) (f : Nat) (he : e ≠ tkO) : parF f 0 (p ++ (x ++ (y ++ [e]))) ≠ some (t, [e]) := by
  intro hp
  obtain ⟨u, hu, hb⟩ := (br_least f).1 0 _ _ _ hp
  have h0 : br (tokT t (lv 0)) = br (tokC t) := by rw [tokT_own (by have := tight_bounds t.f0; show (0 : Int) ≤ _; omega)]
  have h1 := congrArg br hu
  simp only [br_append] at h1
  have h2 := congrArg br h
  rw [br_append, br_cons_o, br_append, br_cons_ne (by decide)] at h2
  have h3 : br [e] = 0 := by rw [br_cons_ne he]; rfl
  omega
end Go.Proofs.Ytjmpejbciniceaa.X
