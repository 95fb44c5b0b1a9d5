/- Texts of this claim, joined: WkTypesParts0, WkTypesParts1, WkTypesParts2, WkTypesParts. -/
import Derived.Deep.DeepCutAuto
import Derived.Test.YtamhdpllmhafhaaJTypesParts0
import Derived.Test.YtamhdpllmhafhaaJTypesParts1
import Derived.Test.YtamhdpllmhafhaaJTypesParts2
/- The walk of the law TypesParts: a type and its parts. -/
namespace Go.Proofs.Ytamhdpllmhafhaa.X
open Go.RowKit Go.Proofs.YtamhdpllmhafhaaW.PrintWords Go.Proofs.YtamhdpllmhafhaaW.PrintLast Go.Proofs.YtamhdpllmhafhaaW.PrintMore
set_option linter.unusedVariables false
set_option linter.unusedSimpArgs false

/-! ### the plain laws -/
theorem same_symm (a b : S26) : sameB b a = sameB a b := by
  have hl : likeB b a = likeB a b := by
    cases h : likeB a b with
    | true => rw [(like_iff a b).1 h]; exact like_refl b
    | false =>
      cases h' : likeB b a with
      | true => rw [(like_iff b a).1 h', like_refl] at h; exact absurd h (by simp)
      | false => rfl
  unfold sameB
  rw [hl]
  cases decide (checkI a = 0) <;> cases decide (checkI b = 0) <;> rfl
theorem same_own (a : S26) : sameB a a = (checkI a == 0) := by
  unfold sameB
  rw [like_refl]
  by_cases h : checkI a = 0 <;> simp [h]
theorem kid_nodes {l : List S26} {i : Nat} (h : i < l.length) : nodes (rd_T26 l i) ≤ nodesL l := nodes_rd_le l i h
theorem depthL_le (l : List S26) (i : Nat) (h : i < l.length) : depth (rd_T26 l i) ≤ depthL l := by
  have : depthL (l.drop i) ≤ depthL l := by
    clear h
    induction l generalizing i with
    | nil => simp
    | cons x l ih =>
      cases i with
      | zero => simp
      | succ i => simp only [List.drop_succ_cons, depthL]; have := ih i; omega
  have h2 := depthL_drop l i h
  omega
theorem kid_known {a : S26} {i : Nat} (h : i < a.f1.length) (hk : knownB a = true) : knownB (rd_T26 a.f1 i) = true := by
  unfold knownB at hk ⊢
  simp only [Bool.and_eq_true, decide_eq_true_eq] at hk ⊢
  obtain ⟨hc, hd⟩ := hk
  rcases right_cases (check_nodes hc).2.2 with ⟨k, hk, rfl⟩ | ⟨k, x, y, hk, hx, hy, rfl⟩
  · simp at h
  · obtain ⟨c1, c2, _⟩ := check_two hc
    rw [closed_two k x y hk] at hd
    simp only [Bool.and_eq_true] at hd
    match i, h with
    | 0, _ => exact ⟨c1, hd.1⟩
    | 1, _ => exact ⟨c2, hd.2⟩
def nI (t : S26) : Int := ((min (nodes t) 8193 : Nat) : Int)
theorem NodesI_calls {t : S26} {v : Value} {w : World} (h : IsT w v t) : Calls Try.prog 46 #[v] w fun e w' => e = .returned (.int .i64 (nI t)) ∧ Below w.heap.size w w' := Nodes_calls h
theorem depth_lt {a x : S26} (h : nodes x < nodes a) (hd : depth x < depth a) (h2 : depthI a ≤ depthI x) : ¬ depthI a ≤ 200 := by
  unfold depthI at *
  by_cases h8 : 8192 < nodes a
  · rw [if_pos h8] at *; omega
  · rw [if_neg h8] at *
    rw [if_neg (by omega)] at h2
    omega
theorem ground_own {a : S26} (hc : checkI a = 0) (h0 : a.f0 ≠ 0) : ∃ g, groundT a = (g, true) ∧ groundT g = (g, true) ∧ sameB g g = true ∧ decide (depthI g ≤ 2) = true := by
  rcases right_cases (check_nodes hc).2.2 with ⟨k, hk, rfl⟩ | ⟨k, x, y, hk, hx, hy, rfl⟩
  · refine ⟨⟨k, []⟩, by unfold groundT; rw [if_pos ⟨hc, h0⟩]; rfl, ?_⟩
    rcases hk with rfl | rfl | rfl
    · exact absurd rfl h0
    · exact ⟨by kernel_rfl, by kernel_rfl, by kernel_rfl⟩
    · exact ⟨by kernel_rfl, by kernel_rfl, by kernel_rfl⟩
  · refine ⟨⟨k, [z26, z26]⟩, by unfold groundT; rw [if_pos ⟨hc, h0⟩]; rfl, ?_⟩
    rcases hk with rfl | rfl | rfl
    · exact ⟨by kernel_rfl, by kernel_rfl, by kernel_rfl⟩
    · exact ⟨by kernel_rfl, by kernel_rfl, by kernel_rfl⟩
    · exact ⟨by kernel_rfl, by kernel_rfl, by kernel_rfl⟩
theorem groundZ : groundT z26 = (z26, false) := by kernel_rfl
theorem ground_no {a : S26} (h : ¬ (checkI a = 0 ∧ a.f0 ≠ 0)) : groundT a = (z26, false) := by unfold groundT; rw [if_neg h]
theorem pt_le {a x : S26} (h : nI a ≤ nI x) : decide (nI a ≤ nI x) = true := decide_eq_true h
theorem pt_len {a x : S26} (h : ¬ nI a ≤ nI x) : decide (nI a ≤ nI x) = false := decide_eq_false h
theorem pt_big {a x : S26} (hn : nodes x < nodes a) (h : nI a ≤ nI x) : decide (nI a ≤ 8192) = false := by
  unfold nI at *
  exact decide_eq_false (by omega)
theorem pt_dle {a x : S26} (h : depthI a ≤ depthI x) : decide (depthI a ≤ depthI x) = true := decide_eq_true h
theorem pt_dlen {a x : S26} (h : ¬ depthI a ≤ depthI x) : decide (depthI a ≤ depthI x) = false := decide_eq_false h
theorem pt_dbig {a x : S26} (hn : nodes x < nodes a) (hd : depth x < depth a) (h : depthI a ≤ depthI x) : decide (depthI a ≤ 200) = false := decide_eq_false (depth_lt hn hd h)
theorem IsT.C {w : World} {k : Int} {A : Option Addr} {n c : Nat} {t : S26} (h : IsT w (.agg #[.int .i8 k, .slice A n c]) t) : Kd.C k26 w A t.f1.length t.f1 := by
  obtain ⟨B, d, e, _, h2⟩ := h
  injection e with e
  simp at e
  obtain ⟨_, rfl, _, _⟩ := e
  exact h2
set_option maxRecDepth 100000 in
set_option maxHeartbeats 3200000 in
theorem parts_0 (a b g : S26) (w : World) (A : Option Addr) (ca : Nat) (B : Option Addr) (cb : Nat) (T0 : Aside0 (IsT w (.agg #[.int .i8 a.f0, .slice A a.f1.length ca]) a)) (T1 : Aside0 (IsT w (.agg #[.int .i8 b.f0, .slice B b.f1.length cb]) b)) (KN : Aside0 (∀ i : Nat, i < a.f1.length → knownB a = true → knownB (rd_T26 a.f1 i) = true)) (DN : Aside0 (∀ i : Nat, i < a.f1.length → depth (rd_T26 a.f1 i) < depth a)) (NN : Aside0 (∀ i : Nat, i < a.f1.length → nodes (rd_T26 a.f1 i) < nodes a)) (RF : Aside0 (sameB a a = true)) (SY : Aside0 (sameB b a = sameB a b)) (GA : Aside0 (groundT a = (g, true))) (GG : Aside0 (groundT g = (g, true))) (CK : Aside0 (checkI a = 0)) (D0 : Aside0 ((a.f0 != 0) = true)) (GS : Aside0 (sameB g g = true)) (GD : depthI g ≤ 2) :
    Calls Try.prog 13 #[.agg #[.int .i8 a.f0, .slice A a.f1.length ca], .agg #[.int .i8 b.f0, .slice B b.f1.length cb]] w fun e w' => e = .returned (.bool true) ∧ Below w.heap.size w w' := by
  go_enter Try.func13, Try.ntmps13
  go_wp2_with fail
  refine (Check_calls (T0.out.below (below2 ..))).mono ?_
  rw [CK.out]
  rintro e w1 ⟨rfl, hB⟩
  obtain ⟨b1, b2, hB1⟩ := two_blocks hB
  have HB := Aside0.mk hB1
  have K1 := Aside0.mk b1
  have K2 := Aside0.mk b2
  replace T0 := Aside0.mk (IsT.below T0.out hB1)
  replace T1 := Aside0.mk (IsT.below T1.out hB1)
  clear hB hB1 b1 b2
  go_wp2_with fail
  have OK := Aside0.mk (fun w' (h : Below w1.heap.size w1 w') => (⟨c26_of K1.out h, c26_of K2.out h⟩ : ((w'.cell? ⟨w.heap.size, 0, none⟩ = some (.int .i8 a.f0) ∧ w'.cell? ⟨w.heap.size, 1, none⟩ = some (.slice A a.f1.length ca)) ∧ (w'.cell? ⟨(w.heap.size + 1), 0, none⟩ = some (.int .i8 b.f0) ∧ w'.cell? ⟨(w.heap.size + 1), 1, none⟩ = some (.slice B b.f1.length cb)))))
  have HBW := Aside0.mk (Below.refl w1.heap.size w1)
  refine wp_region_held_drew (S := (fun w' => ((w'.cell? ⟨w.heap.size, 0, none⟩ = some (.int .i8 a.f0) ∧ w'.cell? ⟨w.heap.size, 1, none⟩ = some (.slice A a.f1.length ca)) ∧ (w'.cell? ⟨(w.heap.size + 1), 0, none⟩ = some (.int .i8 b.f0) ∧ w'.cell? ⟨(w.heap.size + 1), 1, none⟩ = some (.slice B b.f1.length cb))))) (by kernel_rfl) (OK.out _ HBW.out.drew) (fun hHeld => ?_)
  refine takeH (d := some 15) (v := ?_) 0 rfl rfl (by kernel_rfl) (by kernel_rfl) (by kernel_rfl) (fun _ _ _ h => h) (by rfl) ?_ hHeld ?_
  rotate_left
  · intro w hSw
    try dsimp only at hSw
    go_simp <;> with_reducible rfl
  try simp only [Act.put, List.setIfInBounds_toArray, List.set_cons_zero, List.set_cons_succ]
  refine takeH (d := some 16) (v := ?_) 1 rfl rfl (by kernel_rfl) (by kernel_rfl) (by kernel_rfl) (fun _ _ _ h => h) (by rfl) ?_ hHeld ?_
  rotate_left
  · intro w hSw
    try dsimp only at hSw
    go_simp <;> with_reducible rfl
  try simp only [Act.put, List.setIfInBounds_toArray, List.set_cons_zero, List.set_cons_succ]
  refine takeH (d := some 18) (v := ?_) 3 rfl rfl (by kernel_rfl) (by kernel_rfl) (by kernel_rfl) (fun _ _ _ h => h) (by rfl) ?_ hHeld ?_
  rotate_left
  · intro w hSw
    try dsimp only at hSw
    go_simp <;> with_reducible rfl
  try simp only [Act.put, List.setIfInBounds_toArray, List.set_cons_zero, List.set_cons_succ]
  refine callH (d := some 17) 2 rfl rfl (by kernel_rfl) (by rfl) (by kernel_rfl) (Same_calls ((T0).out.below HBW.out.drew) ((T0).out.below HBW.out.drew)) ?_
  rw [(RF).out]
  rintro e v1 ⟨rfl, hB⟩
  have H1 := Aside0.mk (below_then HBW.out.drew (HBW.out.drew).size hB)
  clear hB
  refine ⟨_, rfl, OK.out _ H1.out, fun hHeld => ?_⟩
  try simp only [Act.put, List.setIfInBounds_toArray, List.set_cons_zero, List.set_cons_succ]
  refine takeH (d := some 19) (v := ?_) 4 rfl rfl (by kernel_rfl) (by kernel_rfl) (by kernel_rfl) (fun _ _ _ h => h) (by rfl) ?_ hHeld ?_
  rotate_left
  · intro w hSw
    try dsimp only at hSw
    go_simp <;> with_reducible rfl
  try simp only [Act.put, List.setIfInBounds_toArray, List.set_cons_zero, List.set_cons_succ]
  refine takeH (d := some 20) (v := ?_) 5 rfl rfl (by kernel_rfl) (by kernel_rfl) (by kernel_rfl) (fun _ _ _ h => h) (by rfl) ?_ hHeld ?_
  rotate_left
  · intro w hSw
    try dsimp only at hSw
    go_simp <;> with_reducible rfl
  try simp only [Act.put, List.setIfInBounds_toArray, List.set_cons_zero, List.set_cons_succ]
  refine takeH (d := some 21) (v := ?_) 6 rfl rfl (by kernel_rfl) (by kernel_rfl) (by kernel_rfl) (fun _ _ _ h => h) (by rfl) ?_ hHeld ?_
  rotate_left
  · intro w hSw
    try dsimp only at hSw
    go_simp <;> with_reducible rfl
  try simp only [Act.put, List.setIfInBounds_toArray, List.set_cons_zero, List.set_cons_succ]
  refine takeH (d := some 22) (v := ?_) 7 rfl rfl (by kernel_rfl) (by kernel_rfl) (by kernel_rfl) (fun _ _ _ h => h) (by rfl) ?_ hHeld ?_
  rotate_left
  · intro w hSw
    try dsimp only at hSw
    go_simp <;> with_reducible rfl
  try simp only [Act.put, List.setIfInBounds_toArray, List.set_cons_zero, List.set_cons_succ]
  refine takeH (d := some 24) (v := ?_) 9 rfl rfl (by kernel_rfl) (by kernel_rfl) (by kernel_rfl) (fun _ _ _ h => h) (by rfl) ?_ hHeld ?_
  rotate_left
  · intro w hSw
    try dsimp only at hSw
    go_simp <;> with_reducible rfl
  try simp only [Act.put, List.setIfInBounds_toArray, List.set_cons_zero, List.set_cons_succ]
  refine takeH (d := some 25) (v := ?_) 10 rfl rfl (by kernel_rfl) (by kernel_rfl) (by kernel_rfl) (fun _ _ _ h => h) (by rfl) ?_ hHeld ?_
  rotate_left
  · intro w hSw
    try dsimp only at hSw
    go_simp <;> with_reducible rfl
  try simp only [Act.put, List.setIfInBounds_toArray, List.set_cons_zero, List.set_cons_succ]
  refine callH (d := some 23) 8 rfl rfl (by kernel_rfl) (by rfl) (by kernel_rfl) (Same_calls ((T0).out.below H1.out) ((T1).out.below H1.out)) ?_
  rintro e v2 ⟨rfl, hB⟩
  have H2 := Aside0.mk (below_then H1.out (H1.out).size hB)
  clear hB
  refine ⟨_, rfl, OK.out _ H2.out, fun hHeld => ?_⟩
  try simp only [Act.put, List.setIfInBounds_toArray, List.set_cons_zero, List.set_cons_succ]
  refine callH (d := some 26) 11 rfl rfl (by kernel_rfl) (by rfl) (by kernel_rfl) (Same_calls ((T1).out.below H2.out) ((T0).out.below H2.out)) ?_
  rw [(SY).out]
  rintro e v3 ⟨rfl, hB⟩
  have H3 := Aside0.mk (below_then H2.out (H2.out).size hB)
  clear hB
  refine ⟨_, rfl, OK.out _ H3.out, fun hHeld => ?_⟩
  try simp only [Act.put, List.setIfInBounds_toArray, List.set_cons_zero, List.set_cons_succ]
  refine takeH (d := some 27) (v := ?_) 12 rfl rfl (by kernel_rfl) (by kernel_rfl) (by kernel_rfl) (fun _ _ _ h => h) (by rfl) ?_ hHeld ?_
  rotate_left
  · intro w hSw
    try dsimp only at hSw
    go_simp <;> with_reducible rfl
  try simp only [Act.put, List.setIfInBounds_toArray, List.set_cons_zero, List.set_cons_succ]
  refine takeH (d := some 28) (v := ?_) 13 rfl rfl (by kernel_rfl) (by kernel_rfl) (by kernel_rfl) (fun _ _ _ h => h) (by rfl) ?_ hHeld ?_
  rotate_left
  · intro w hSw
    try dsimp only at hSw
    go_simp <;> with_reducible rfl
  try simp only [Act.put, List.setIfInBounds_toArray, List.set_cons_zero, List.set_cons_succ]
  refine wpAnyH_done (by kernel_rfl) ?_ _
  replace K1 := Aside0.mk (blk_below K1.out H3.out)
  replace T0 := Aside0.mk (IsT.below T0.out H3.out)
  replace HB := Aside0.mk (below_then HB.out HB.out.size H3.out)
  clear OK HBW K2 T1 H1 H2 H3
  obtain ⟨e0, e1⟩ := c26_of K1.out (Below.refl _ _)
  have q1 := blk_lt K1.out
  go_wp2_with fail
  refine (Ground_calls T0.out).mono ?_
  rw [GA.out]
  rintro e w2 ⟨vv, rfl, ht, hB⟩
  obtain ⟨A6, c6, rfl, hl, hc⟩ := ht
  have TG := Aside0.mk (IsT.mk (k := (g).f0) hl hc)
  rw [S26.eta] at TG
  replace K1 := Aside0.mk (blk_below K1.out hB)
  replace T0 := Aside0.mk (T0.out.below hB)
  replace HB := Aside0.mk (below_then HB.out HB.out.size hB)
  clear hB hl hc e0 e1 q1
  go_wp2_with fail
  have hB := below1 w2 #[.int .i8 (g).f0, .slice A6 (g).f1.length c6] 26
  have K6 := Aside0.mk (heap_alloc_new w2 (.cells #[.int .i8 (g).f0, .slice A6 (g).f1.length c6] 26))
  replace K1 := Aside0.mk (blk_below K1.out hB)
  replace T0 := Aside0.mk (T0.out.below hB)
  replace HB := Aside0.mk (below_then HB.out HB.out.size hB)
  replace TG := Aside0.mk (TG.out.below hB)
  clear hB
  refine (Ground_calls TG.out).mono ?_
  rw [GG.out]
  rintro e w3 ⟨vv, rfl, ht, hB⟩
  obtain ⟨A8, c8, rfl, hl, hc⟩ := ht
  have TH := Aside0.mk (IsT.mk (k := (g).f0) hl hc)
  rw [S26.eta] at TH
  replace K1 := Aside0.mk (blk_below K1.out hB)
  replace T0 := Aside0.mk (T0.out.below hB)
  replace HB := Aside0.mk (below_then HB.out HB.out.size hB)
  replace TG := Aside0.mk (TG.out.below hB)
  replace K6 := Aside0.mk (blk_below K6.out hB)
  clear hB hl hc
  generalize w2.heap.size = n6 at *
  obtain ⟨e0, e1⟩ := c26_of K1.out (Below.refl _ _)
  have q1 := blk_lt K1.out
  have e60 := (blk_cell K6.out 0).trans rfl
  have e61 := (blk_cell K6.out 1).trans rfl
  simp at e60 e61
  have d0 := D0.out
  have q6 := blk_lt K6.out
  go_wp2_with fail
  have hB := below1 w3 #[.int .i8 (g).f0, .slice A8 (g).f1.length c8] 26
  have K8 := Aside0.mk (heap_alloc_new w3 (.cells #[.int .i8 (g).f0, .slice A8 (g).f1.length c8] 26))
  replace K1 := Aside0.mk (blk_below K1.out hB)
  replace T0 := Aside0.mk (T0.out.below hB)
  replace HB := Aside0.mk (below_then HB.out HB.out.size hB)
  replace TG := Aside0.mk (TG.out.below hB)
  replace TH := Aside0.mk (TH.out.below hB)
  replace K6 := Aside0.mk (blk_below K6.out hB)
  clear hB e0 e1 e60 e61 d0 q6 q1
  refine (Same_calls TG.out TH.out).mono ?_
  rw [GS.out]
  rintro e w4 ⟨rfl, hB⟩
  replace K1 := Aside0.mk (blk_below K1.out hB)
  replace T0 := Aside0.mk (T0.out.below hB)
  replace HB := Aside0.mk (below_then HB.out HB.out.size hB)
  replace TG := Aside0.mk (TG.out.below hB)
  replace K6 := Aside0.mk (blk_below K6.out hB)
  clear hB
  have e60 := (blk_cell K6.out 0).trans rfl
  have e61 := (blk_cell K6.out 1).trans rfl
  simp at e60 e61
  go_wp2_with fail
  refine (Depth_calls TG.out).mono ?_
  rintro e w5 ⟨rfl, hB⟩
  replace K1 := Aside0.mk (blk_below K1.out hB)
  replace T0 := Aside0.mk (T0.out.below hB)
  replace HB := Aside0.mk (below_then HB.out HB.out.size hB)
  clear hB e60 e61
  go_wp2_with fail
  have HR := Aside0.mk (T0.out.C)
  go_loopw [10] (fun i wr => ∃ k : Nat, i = .int .i64 k ∧ k ≤ a.f1.length ∧ Below w5.heap.size w5 wr) (fun i _ => a.f1.length - (intOf i).toNat)
  case atStart => exact ⟨0, rfl, Nat.zero_le _, Below.refl _ _⟩
  case round =>
    obtain ⟨k, rfl, hk, hB⟩ := hrel
    have BR := Aside0.mk hB
    clear hB
    have KK := Aside0.mk (blk_below K1.out BR.out)
    have e0 := (blk_cell KK.out 0).trans rfl
    have e1 := (blk_cell KK.out 1).trans rfl
    simp at e0 e1
    have hmax := HR.out.2.1
    by_cases hk2 : k < a.f1.length ∧ k < 5
    · obtain ⟨hlt, h5⟩ := hk2
      obtain ⟨ad, A1, c1, hA, hx0, hx1, hl1, hi1⟩ := at_T26 HR.out (k : Int) (by omega) (by omega)
      obtain rfl := hA
      have hd := DN.out k hlt
      have hn := NN.out k hlt
      have hkn := KN.out k hlt
      have hy0 := (BR.out.cell (World.block_lt_of_cell? _ _ hx0)).trans hx0
      have hy1 := (BR.out.cell (World.block_lt_of_cell? _ _ hx1)).trans hx1
      generalize hel : rd_T26 a.f1 (k : Int) = x at *
      have TX := Aside0.mk ((IsT.mk (k := x.f0) hl1 hi1).below BR.out)
      rw [S26.eta] at TX
      have HD := Aside0.mk hd
      have HN := Aside0.mk hn
      have HKN := Aside0.mk hkn
      simp only [Int.toNat_natCast] at hy0 hy1
      clear hx0 hx1 hl1 hi1 hel hd hn hkn
      go_wp2_with fail
      have hB := below1 wr #[.int .i8 x.f0, .slice A1 x.f1.length c1] 26
      have KX := Aside0.mk (heap_alloc_new wr (.cells #[.int .i8 x.f0, .slice A1 x.f1.length c1] 26))
      have TA := Aside0.mk ((T0.out.below BR.out).below hB)
      replace TX := Aside0.mk (TX.out.below hB)
      replace KK := Aside0.mk (blk_below KK.out hB)
      replace BR := Aside0.mk (below_then BR.out BR.out.size hB)
      clear hB hy0 hy1 e0 e1
      generalize wr.heap.size = n11 at *
      generalize wr.alloc (.cells #[.int .i8 x.f0, .slice A1 x.f1.length c1] 26) = W at *
      have OK := Aside0.mk (fun w' (h : Below W.heap.size W w') => (⟨c26_of KK.out h, c26_of KX.out h⟩ : ((w'.cell? ⟨w.heap.size, 0, none⟩ = some (.int .i8 a.f0) ∧ w'.cell? ⟨w.heap.size, 1, none⟩ = some (.slice (some ad) a.f1.length ca)) ∧ (w'.cell? ⟨n11, 0, none⟩ = some (.int .i8 x.f0) ∧ w'.cell? ⟨n11, 1, none⟩ = some (.slice A1 x.f1.length c1)))))
      have HBW := Aside0.mk (Below.refl W.heap.size W)
      by_cases hp1 : nI a ≤ nI x
      · by_cases hp3 : depthI a ≤ depthI x
        · have P1 := Aside0.mk (pt_le hp1)
          have P2 := Aside0.mk (pt_big HN.out hp1)
          have P3 := Aside0.mk (pt_dle hp3)
          have P4 := Aside0.mk (pt_dbig HN.out HD.out hp3)
          clear hp1 hp3
          refine wp_region_held_drew (S := (fun w' => ((w'.cell? ⟨w.heap.size, 0, none⟩ = some (.int .i8 a.f0) ∧ w'.cell? ⟨w.heap.size, 1, none⟩ = some (.slice (some ad) a.f1.length ca)) ∧ (w'.cell? ⟨n11, 0, none⟩ = some (.int .i8 x.f0) ∧ w'.cell? ⟨n11, 1, none⟩ = some (.slice A1 x.f1.length c1))))) (by kernel_rfl) (OK.out _ HBW.out.drew) (fun hHeld => ?_)
          refine takeH (d := some 81) (v := ?_) 0 rfl rfl (by kernel_rfl) (by kernel_rfl) (by kernel_rfl) (fun _ _ _ h => h) (by rfl) ?_ hHeld ?_
          rotate_left
          · intro w hSw
            try dsimp only at hSw
            go_simp <;> with_reducible rfl
          try simp only [Act.put, List.setIfInBounds_toArray, List.set_cons_zero, List.set_cons_succ]
          refine takeH (d := some 83) (v := ?_) 2 rfl rfl (by kernel_rfl) (by kernel_rfl) (by kernel_rfl) (fun _ _ _ h => h) (by rfl) ?_ hHeld ?_
          rotate_left
          · intro w hSw
            try dsimp only at hSw
            go_simp <;> with_reducible rfl
          try simp only [Act.put, List.setIfInBounds_toArray, List.set_cons_zero, List.set_cons_succ]
          refine callH (d := some 82) 1 rfl rfl (by kernel_rfl) (by rfl) (by kernel_rfl) (NodesI_calls ((TA).out.below HBW.out.drew)) ?_
          rintro e u1 ⟨rfl, hB⟩
          have H1 := Aside0.mk (below_then HBW.out.drew (HBW.out.drew).size hB)
          clear hB
          refine ⟨_, rfl, OK.out _ H1.out, fun hHeld => ?_⟩
          try simp only [Act.put, List.setIfInBounds_toArray, List.set_cons_zero, List.set_cons_succ]
          refine callH (d := some 84) 3 rfl rfl (by kernel_rfl) (by rfl) (by kernel_rfl) (NodesI_calls ((TX).out.below H1.out)) ?_
          rintro e u2 ⟨rfl, hB⟩
          have H2 := Aside0.mk (below_then H1.out (H1.out).size hB)
          clear hB
          refine ⟨_, rfl, OK.out _ H2.out, fun hHeld => ?_⟩
          try simp only [Act.put, List.setIfInBounds_toArray, List.set_cons_zero, List.set_cons_succ]
          refine takeH (d := some 85) (v := .bool true) 4 rfl rfl (by kernel_rfl) (by kernel_rfl) (by kernel_rfl) (fun _ _ _ h => h) (by rfl) (fun w hSw => Eq.trans (b := Result.ok (Next.value (.bool (decide (nI a ≤ nI x)))) w) (by kernel_rfl) (by rw [P1.out])) hHeld ?_
          try simp only [Act.put, List.setIfInBounds_toArray, List.set_cons_zero, List.set_cons_succ]
          refine takeH (d := some 86) (v := ?_) 5 rfl rfl (by kernel_rfl) (by kernel_rfl) (by kernel_rfl) (fun _ _ _ h => h) (by rfl) ?_ hHeld ?_
          rotate_left
          · intro w hSw
            try dsimp only at hSw
            go_simp <;> with_reducible rfl
          try simp only [Act.put, List.setIfInBounds_toArray, List.set_cons_zero, List.set_cons_succ]
          refine takeH (d := some 87) (v := ?_) 6 rfl rfl (by kernel_rfl) (by kernel_rfl) (by kernel_rfl) (fun _ _ _ h => h) (by rfl) ?_ hHeld ?_
          rotate_left
          · intro w hSw
            try dsimp only at hSw
            go_simp <;> with_reducible rfl
          try simp only [Act.put, List.setIfInBounds_toArray, List.set_cons_zero, List.set_cons_succ]
          refine callH (d := some 88) 7 rfl rfl (by kernel_rfl) (by rfl) (by kernel_rfl) (NodesI_calls ((TA).out.below H2.out)) ?_
          rintro e u3 ⟨rfl, hB⟩
          have H3 := Aside0.mk (below_then H2.out (H2.out).size hB)
          clear hB
          refine ⟨_, rfl, OK.out _ H3.out, fun hHeld => ?_⟩
          try simp only [Act.put, List.setIfInBounds_toArray, List.set_cons_zero, List.set_cons_succ]
          refine takeH (d := some 89) (v := .bool false) 8 rfl rfl (by kernel_rfl) (by kernel_rfl) (by kernel_rfl) (fun _ _ _ h => h) (by rfl) (fun w hSw => Eq.trans (b := Result.ok (Next.value (.bool (decide (nI a ≤ 8192)))) w) (by kernel_rfl) (by rw [P2.out])) hHeld ?_
          try simp only [Act.put, List.setIfInBounds_toArray, List.set_cons_zero, List.set_cons_succ]
          refine takeH (d := some 90) (v := ?_) 9 rfl rfl (by kernel_rfl) (by kernel_rfl) (by kernel_rfl) (fun _ _ _ h => h) (by rfl) ?_ hHeld ?_
          rotate_left
          · intro w hSw
            try dsimp only at hSw
            go_simp <;> with_reducible rfl
          try simp only [Act.put, List.setIfInBounds_toArray, List.set_cons_zero, List.set_cons_succ]
          refine takeH (d := some 91) (v := ?_) 10 rfl rfl (by kernel_rfl) (by kernel_rfl) (by kernel_rfl) (fun _ _ _ h => h) (by rfl) ?_ hHeld ?_
          rotate_left
          · intro w hSw
            try dsimp only at hSw
            go_simp <;> with_reducible rfl
          try simp only [Act.put, List.setIfInBounds_toArray, List.set_cons_zero, List.set_cons_succ]
          refine takeH (d := some 92) (v := ?_) 11 rfl rfl (by kernel_rfl) (by kernel_rfl) (by kernel_rfl) (fun _ _ _ h => h) (by rfl) ?_ hHeld ?_
          rotate_left
          · intro w hSw
            try dsimp only at hSw
            go_simp <;> with_reducible rfl
          try simp only [Act.put, List.setIfInBounds_toArray, List.set_cons_zero, List.set_cons_succ]
          refine takeH (d := some 94) (v := ?_) 13 rfl rfl (by kernel_rfl) (by kernel_rfl) (by kernel_rfl) (fun _ _ _ h => h) (by rfl) ?_ hHeld ?_
          rotate_left
          · intro w hSw
            try dsimp only at hSw
            go_simp <;> with_reducible rfl
          try simp only [Act.put, List.setIfInBounds_toArray, List.set_cons_zero, List.set_cons_succ]
          refine callH (d := some 93) 12 rfl rfl (by kernel_rfl) (by rfl) (by kernel_rfl) (Depth_calls ((TA).out.below H3.out)) ?_
          rintro e u4 ⟨rfl, hB⟩
          have H4 := Aside0.mk (below_then H3.out (H3.out).size hB)
          clear hB
          refine ⟨_, rfl, OK.out _ H4.out, fun hHeld => ?_⟩
          try simp only [Act.put, List.setIfInBounds_toArray, List.set_cons_zero, List.set_cons_succ]
          refine callH (d := some 95) 14 rfl rfl (by kernel_rfl) (by rfl) (by kernel_rfl) (Depth_calls ((TX).out.below H4.out)) ?_
          rintro e u5 ⟨rfl, hB⟩
          have H5 := Aside0.mk (below_then H4.out (H4.out).size hB)
          clear hB
          refine ⟨_, rfl, OK.out _ H5.out, fun hHeld => ?_⟩
          try simp only [Act.put, List.setIfInBounds_toArray, List.set_cons_zero, List.set_cons_succ]
          refine takeH (d := some 96) (v := .bool true) 15 rfl rfl (by kernel_rfl) (by kernel_rfl) (by kernel_rfl) (fun _ _ _ h => h) (by rfl) (fun w hSw => Eq.trans (b := Result.ok (Next.value (.bool (decide (depthI a ≤ depthI x)))) w) (by kernel_rfl) (by rw [P3.out])) hHeld ?_
          try simp only [Act.put, List.setIfInBounds_toArray, List.set_cons_zero, List.set_cons_succ]
          refine takeH (d := some 97) (v := ?_) 16 rfl rfl (by kernel_rfl) (by kernel_rfl) (by kernel_rfl) (fun _ _ _ h => h) (by rfl) ?_ hHeld ?_
          rotate_left
          · intro w hSw
            try dsimp only at hSw
            go_simp <;> with_reducible rfl
          try simp only [Act.put, List.setIfInBounds_toArray, List.set_cons_zero, List.set_cons_succ]
          refine takeH (d := some 98) (v := ?_) 17 rfl rfl (by kernel_rfl) (by kernel_rfl) (by kernel_rfl) (fun _ _ _ h => h) (by rfl) ?_ hHeld ?_
          rotate_left
          · intro w hSw
            try dsimp only at hSw
            go_simp <;> with_reducible rfl
          try simp only [Act.put, List.setIfInBounds_toArray, List.set_cons_zero, List.set_cons_succ]
          refine callH (d := some 99) 18 rfl rfl (by kernel_rfl) (by rfl) (by kernel_rfl) (Depth_calls ((TA).out.below H5.out)) ?_
          rintro e u6 ⟨rfl, hB⟩
          have H6 := Aside0.mk (below_then H5.out (H5.out).size hB)
          clear hB
          refine ⟨_, rfl, OK.out _ H6.out, fun hHeld => ?_⟩
          try simp only [Act.put, List.setIfInBounds_toArray, List.set_cons_zero, List.set_cons_succ]
          refine takeH (d := some 100) (v := .bool false) 19 rfl rfl (by kernel_rfl) (by kernel_rfl) (by kernel_rfl) (fun _ _ _ h => h) (by rfl) (fun w hSw => Eq.trans (b := Result.ok (Next.value (.bool (decide (depthI a ≤ 200)))) w) (by kernel_rfl) (by rw [P4.out])) hHeld ?_
          try simp only [Act.put, List.setIfInBounds_toArray, List.set_cons_zero, List.set_cons_succ]
          refine takeH (d := some 101) (v := ?_) 20 rfl rfl (by kernel_rfl) (by kernel_rfl) (by kernel_rfl) (fun _ _ _ h => h) (by rfl) ?_ hHeld ?_
          rotate_left
          · intro w hSw
            try dsimp only at hSw
            go_simp <;> with_reducible rfl
          try simp only [Act.put, List.setIfInBounds_toArray, List.set_cons_zero, List.set_cons_succ]
          refine takeH (d := some 102) (v := ?_) 21 rfl rfl (by kernel_rfl) (by kernel_rfl) (by kernel_rfl) (fun _ _ _ h => h) (by rfl) ?_ hHeld ?_
          rotate_left
          · intro w hSw
            try dsimp only at hSw
            go_simp <;> with_reducible rfl
          try simp only [Act.put, List.setIfInBounds_toArray, List.set_cons_zero, List.set_cons_succ]
          refine wpAnyH_done (by kernel_rfl) ?_ _
          replace KK := Aside0.mk (blk_below KK.out H6.out)
          replace KX := Aside0.mk (blk_below KX.out H6.out)
          replace TA := Aside0.mk (IsT.below TA.out H6.out)
          replace TX := Aside0.mk (IsT.below TX.out H6.out)
          replace BR := Aside0.mk (below_then BR.out BR.out.size H6.out)
          clear OK HBW P1 P2 P3 P4 H1 H2 H3 H4 H5 H6
          have e0 := (blk_cell KK.out 0).trans rfl
          have e1 := (blk_cell KK.out 1).trans rfl
          simp at e0 e1
          go_wp2_with fail
          refine (Known_calls TA.out).mono ?_
          rintro e wk ⟨rfl, hB⟩
          replace KX := Aside0.mk (blk_below KX.out hB)
          replace TX := Aside0.mk (TX.out.below hB)
          replace BR := Aside0.mk (below_then BR.out BR.out.size hB)
          clear hB e0 e1 KK
          cases hka : knownB a with
          | false =>
            clear hka
            go_wp2_with fail
            go_roundw
            case rel => exact ⟨k + 1, by go_num, by omega, BR.out⟩
            case measure => simp [intOf]; omega
          | true =>
            have HX := Aside0.mk (HKN.out hka)
            clear hka
            have e2 := (blk_cell KX.out 0).trans rfl
            have e3 := (blk_cell KX.out 1).trans rfl
            simp at e2 e3
            go_wp2_with fail
            refine (Known_calls TX.out).mono ?_
            rw [HX.out]
            rintro e wk2 ⟨rfl, hB⟩
            replace BR := Aside0.mk (below_then BR.out BR.out.size hB)
            clear hB e2 e3
            go_wp2_with fail
            go_roundw
            case rel => exact ⟨k + 1, by go_num, by omega, BR.out⟩
            case measure => simp [intOf]; omega
        · have P1 := Aside0.mk (pt_le hp1)
          have P2 := Aside0.mk (pt_big HN.out hp1)
          have P3 := Aside0.mk (pt_dlen hp3)
          have P4 : True := trivial
          clear hp1 hp3
          refine wp_region_held_drew (S := (fun w' => ((w'.cell? ⟨w.heap.size, 0, none⟩ = some (.int .i8 a.f0) ∧ w'.cell? ⟨w.heap.size, 1, none⟩ = some (.slice (some ad) a.f1.length ca)) ∧ (w'.cell? ⟨n11, 0, none⟩ = some (.int .i8 x.f0) ∧ w'.cell? ⟨n11, 1, none⟩ = some (.slice A1 x.f1.length c1))))) (by kernel_rfl) (OK.out _ HBW.out.drew) (fun hHeld => ?_)
          refine takeH (d := some 81) (v := ?_) 0 rfl rfl (by kernel_rfl) (by kernel_rfl) (by kernel_rfl) (fun _ _ _ h => h) (by rfl) ?_ hHeld ?_
          rotate_left
          · intro w hSw
            try dsimp only at hSw
            go_simp <;> with_reducible rfl
          try simp only [Act.put, List.setIfInBounds_toArray, List.set_cons_zero, List.set_cons_succ]
          refine takeH (d := some 83) (v := ?_) 2 rfl rfl (by kernel_rfl) (by kernel_rfl) (by kernel_rfl) (fun _ _ _ h => h) (by rfl) ?_ hHeld ?_
          rotate_left
          · intro w hSw
            try dsimp only at hSw
            go_simp <;> with_reducible rfl
          try simp only [Act.put, List.setIfInBounds_toArray, List.set_cons_zero, List.set_cons_succ]
          refine callH (d := some 82) 1 rfl rfl (by kernel_rfl) (by rfl) (by kernel_rfl) (NodesI_calls ((TA).out.below HBW.out.drew)) ?_
          rintro e u1 ⟨rfl, hB⟩
          have H1 := Aside0.mk (below_then HBW.out.drew (HBW.out.drew).size hB)
          clear hB
          refine ⟨_, rfl, OK.out _ H1.out, fun hHeld => ?_⟩
          try simp only [Act.put, List.setIfInBounds_toArray, List.set_cons_zero, List.set_cons_succ]
          refine callH (d := some 84) 3 rfl rfl (by kernel_rfl) (by rfl) (by kernel_rfl) (NodesI_calls ((TX).out.below H1.out)) ?_
          rintro e u2 ⟨rfl, hB⟩
          have H2 := Aside0.mk (below_then H1.out (H1.out).size hB)
          clear hB
          refine ⟨_, rfl, OK.out _ H2.out, fun hHeld => ?_⟩
          try simp only [Act.put, List.setIfInBounds_toArray, List.set_cons_zero, List.set_cons_succ]
          refine takeH (d := some 85) (v := .bool true) 4 rfl rfl (by kernel_rfl) (by kernel_rfl) (by kernel_rfl) (fun _ _ _ h => h) (by rfl) (fun w hSw => Eq.trans (b := Result.ok (Next.value (.bool (decide (nI a ≤ nI x)))) w) (by kernel_rfl) (by rw [P1.out])) hHeld ?_
          try simp only [Act.put, List.setIfInBounds_toArray, List.set_cons_zero, List.set_cons_succ]
          refine takeH (d := some 86) (v := ?_) 5 rfl rfl (by kernel_rfl) (by kernel_rfl) (by kernel_rfl) (fun _ _ _ h => h) (by rfl) ?_ hHeld ?_
          rotate_left
          · intro w hSw
            try dsimp only at hSw
            go_simp <;> with_reducible rfl
          try simp only [Act.put, List.setIfInBounds_toArray, List.set_cons_zero, List.set_cons_succ]
          refine takeH (d := some 87) (v := ?_) 6 rfl rfl (by kernel_rfl) (by kernel_rfl) (by kernel_rfl) (fun _ _ _ h => h) (by rfl) ?_ hHeld ?_
          rotate_left
          · intro w hSw
            try dsimp only at hSw
            go_simp <;> with_reducible rfl
          try simp only [Act.put, List.setIfInBounds_toArray, List.set_cons_zero, List.set_cons_succ]
          refine callH (d := some 88) 7 rfl rfl (by kernel_rfl) (by rfl) (by kernel_rfl) (NodesI_calls ((TA).out.below H2.out)) ?_
          rintro e u3 ⟨rfl, hB⟩
          have H3 := Aside0.mk (below_then H2.out (H2.out).size hB)
          clear hB
          refine ⟨_, rfl, OK.out _ H3.out, fun hHeld => ?_⟩
          try simp only [Act.put, List.setIfInBounds_toArray, List.set_cons_zero, List.set_cons_succ]
          refine takeH (d := some 89) (v := .bool false) 8 rfl rfl (by kernel_rfl) (by kernel_rfl) (by kernel_rfl) (fun _ _ _ h => h) (by rfl) (fun w hSw => Eq.trans (b := Result.ok (Next.value (.bool (decide (nI a ≤ 8192)))) w) (by kernel_rfl) (by rw [P2.out])) hHeld ?_
          try simp only [Act.put, List.setIfInBounds_toArray, List.set_cons_zero, List.set_cons_succ]
          refine takeH (d := some 90) (v := ?_) 9 rfl rfl (by kernel_rfl) (by kernel_rfl) (by kernel_rfl) (fun _ _ _ h => h) (by rfl) ?_ hHeld ?_
          rotate_left
          · intro w hSw
            try dsimp only at hSw
            go_simp <;> with_reducible rfl
          try simp only [Act.put, List.setIfInBounds_toArray, List.set_cons_zero, List.set_cons_succ]
          refine takeH (d := some 91) (v := ?_) 10 rfl rfl (by kernel_rfl) (by kernel_rfl) (by kernel_rfl) (fun _ _ _ h => h) (by rfl) ?_ hHeld ?_
          rotate_left
          · intro w hSw
            try dsimp only at hSw
            go_simp <;> with_reducible rfl
          try simp only [Act.put, List.setIfInBounds_toArray, List.set_cons_zero, List.set_cons_succ]
          refine takeH (d := some 92) (v := ?_) 11 rfl rfl (by kernel_rfl) (by kernel_rfl) (by kernel_rfl) (fun _ _ _ h => h) (by rfl) ?_ hHeld ?_
          rotate_left
          · intro w hSw
            try dsimp only at hSw
            go_simp <;> with_reducible rfl
          try simp only [Act.put, List.setIfInBounds_toArray, List.set_cons_zero, List.set_cons_succ]
          refine takeH (d := some 94) (v := ?_) 13 rfl rfl (by kernel_rfl) (by kernel_rfl) (by kernel_rfl) (fun _ _ _ h => h) (by rfl) ?_ hHeld ?_
          rotate_left
          · intro w hSw
            try dsimp only at hSw
            go_simp <;> with_reducible rfl
          try simp only [Act.put, List.setIfInBounds_toArray, List.set_cons_zero, List.set_cons_succ]
          refine callH (d := some 93) 12 rfl rfl (by kernel_rfl) (by rfl) (by kernel_rfl) (Depth_calls ((TA).out.below H3.out)) ?_
          rintro e u4 ⟨rfl, hB⟩
          have H4 := Aside0.mk (below_then H3.out (H3.out).size hB)
          clear hB
          refine ⟨_, rfl, OK.out _ H4.out, fun hHeld => ?_⟩
          try simp only [Act.put, List.setIfInBounds_toArray, List.set_cons_zero, List.set_cons_succ]
          refine callH (d := some 95) 14 rfl rfl (by kernel_rfl) (by rfl) (by kernel_rfl) (Depth_calls ((TX).out.below H4.out)) ?_
          rintro e u5 ⟨rfl, hB⟩
          have H5 := Aside0.mk (below_then H4.out (H4.out).size hB)
          clear hB
          refine ⟨_, rfl, OK.out _ H5.out, fun hHeld => ?_⟩
          try simp only [Act.put, List.setIfInBounds_toArray, List.set_cons_zero, List.set_cons_succ]
          refine takeH (d := some 96) (v := .bool false) 15 rfl rfl (by kernel_rfl) (by kernel_rfl) (by kernel_rfl) (fun _ _ _ h => h) (by rfl) (fun w hSw => Eq.trans (b := Result.ok (Next.value (.bool (decide (depthI a ≤ depthI x)))) w) (by kernel_rfl) (by rw [P3.out])) hHeld ?_
          try simp only [Act.put, List.setIfInBounds_toArray, List.set_cons_zero, List.set_cons_succ]
          refine takeH (d := some 97) (v := ?_) 16 rfl rfl (by kernel_rfl) (by kernel_rfl) (by kernel_rfl) (fun _ _ _ h => h) (by rfl) ?_ hHeld ?_
          rotate_left
          · intro w hSw
            try dsimp only at hSw
            go_simp <;> with_reducible rfl
          try simp only [Act.put, List.setIfInBounds_toArray, List.set_cons_zero, List.set_cons_succ]
          refine passH (d := some 98) 17 rfl rfl (by kernel_rfl) (by kernel_rfl) (by kernel_rfl) (fun _ _ _ h => h) (by rfl) hHeld ?_
          try simp only [Act.put, List.setIfInBounds_toArray, List.set_cons_zero, List.set_cons_succ]
          refine passH (d := some 99) 18 rfl rfl (by kernel_rfl) (by kernel_rfl) (by kernel_rfl) (fun _ _ _ h => h) (by rfl) hHeld ?_
          try simp only [Act.put, List.setIfInBounds_toArray, List.set_cons_zero, List.set_cons_succ]
          refine passH (d := some 100) 19 rfl rfl (by kernel_rfl) (by kernel_rfl) (by kernel_rfl) (fun _ _ _ h => h) (by rfl) hHeld ?_
          try simp only [Act.put, List.setIfInBounds_toArray, List.set_cons_zero, List.set_cons_succ]
          refine takeH (d := some 101) (v := ?_) 20 rfl rfl (by kernel_rfl) (by kernel_rfl) (by kernel_rfl) (fun _ _ _ h => h) (by rfl) ?_ hHeld ?_
          rotate_left
          · intro w hSw
            try dsimp only at hSw
            go_simp <;> with_reducible rfl
          try simp only [Act.put, List.setIfInBounds_toArray, List.set_cons_zero, List.set_cons_succ]
          refine takeH (d := some 102) (v := ?_) 21 rfl rfl (by kernel_rfl) (by kernel_rfl) (by kernel_rfl) (fun _ _ _ h => h) (by rfl) ?_ hHeld ?_
          rotate_left
          · intro w hSw
            try dsimp only at hSw
            go_simp <;> with_reducible rfl
          try simp only [Act.put, List.setIfInBounds_toArray, List.set_cons_zero, List.set_cons_succ]
          refine wpAnyH_done (by kernel_rfl) ?_ _
          replace KK := Aside0.mk (blk_below KK.out H5.out)
          replace KX := Aside0.mk (blk_below KX.out H5.out)
          replace TA := Aside0.mk (IsT.below TA.out H5.out)
          replace TX := Aside0.mk (IsT.below TX.out H5.out)
          replace BR := Aside0.mk (below_then BR.out BR.out.size H5.out)
          clear OK HBW P1 P2 P3 P4 H1 H2 H3 H4 H5
          have e0 := (blk_cell KK.out 0).trans rfl
          have e1 := (blk_cell KK.out 1).trans rfl
          simp at e0 e1
          go_wp2_with fail
          refine (Known_calls TA.out).mono ?_
          rintro e wk ⟨rfl, hB⟩
          replace KX := Aside0.mk (blk_below KX.out hB)
          replace TX := Aside0.mk (TX.out.below hB)
          replace BR := Aside0.mk (below_then BR.out BR.out.size hB)
          clear hB e0 e1 KK
          cases hka : knownB a with
          | false =>
            clear hka
            go_wp2_with fail
            go_roundw
            case rel => exact ⟨k + 1, by go_num, by omega, BR.out⟩
            case measure => simp [intOf]; omega
          | true =>
            have HX := Aside0.mk (HKN.out hka)
            clear hka
            have e2 := (blk_cell KX.out 0).trans rfl
            have e3 := (blk_cell KX.out 1).trans rfl
            simp at e2 e3
            go_wp2_with fail
            refine (Known_calls TX.out).mono ?_
            rw [HX.out]
            rintro e wk2 ⟨rfl, hB⟩
            replace BR := Aside0.mk (below_then BR.out BR.out.size hB)
            clear hB e2 e3
            go_wp2_with fail
            go_roundw
            case rel => exact ⟨k + 1, by go_num, by omega, BR.out⟩
            case measure => simp [intOf]; omega
      · by_cases hp3 : depthI a ≤ depthI x
        · have P1 := Aside0.mk (pt_len hp1)
          have P2 : True := trivial
          have P3 := Aside0.mk (pt_dle hp3)
          have P4 := Aside0.mk (pt_dbig HN.out HD.out hp3)
          clear hp1 hp3
          refine wp_region_held_drew (S := (fun w' => ((w'.cell? ⟨w.heap.size, 0, none⟩ = some (.int .i8 a.f0) ∧ w'.cell? ⟨w.heap.size, 1, none⟩ = some (.slice (some ad) a.f1.length ca)) ∧ (w'.cell? ⟨n11, 0, none⟩ = some (.int .i8 x.f0) ∧ w'.cell? ⟨n11, 1, none⟩ = some (.slice A1 x.f1.length c1))))) (by kernel_rfl) (OK.out _ HBW.out.drew) (fun hHeld => ?_)
          refine takeH (d := some 81) (v := ?_) 0 rfl rfl (by kernel_rfl) (by kernel_rfl) (by kernel_rfl) (fun _ _ _ h => h) (by rfl) ?_ hHeld ?_
          rotate_left
          · intro w hSw
            try dsimp only at hSw
            go_simp <;> with_reducible rfl
          try simp only [Act.put, List.setIfInBounds_toArray, List.set_cons_zero, List.set_cons_succ]
          refine takeH (d := some 83) (v := ?_) 2 rfl rfl (by kernel_rfl) (by kernel_rfl) (by kernel_rfl) (fun _ _ _ h => h) (by rfl) ?_ hHeld ?_
          rotate_left
          · intro w hSw
            try dsimp only at hSw
            go_simp <;> with_reducible rfl
          try simp only [Act.put, List.setIfInBounds_toArray, List.set_cons_zero, List.set_cons_succ]
          refine callH (d := some 82) 1 rfl rfl (by kernel_rfl) (by rfl) (by kernel_rfl) (NodesI_calls ((TA).out.below HBW.out.drew)) ?_
          rintro e u1 ⟨rfl, hB⟩
          have H1 := Aside0.mk (below_then HBW.out.drew (HBW.out.drew).size hB)
          clear hB
          refine ⟨_, rfl, OK.out _ H1.out, fun hHeld => ?_⟩
          try simp only [Act.put, List.setIfInBounds_toArray, List.set_cons_zero, List.set_cons_succ]
          refine callH (d := some 84) 3 rfl rfl (by kernel_rfl) (by rfl) (by kernel_rfl) (NodesI_calls ((TX).out.below H1.out)) ?_
          rintro e u2 ⟨rfl, hB⟩
          have H2 := Aside0.mk (below_then H1.out (H1.out).size hB)
          clear hB
          refine ⟨_, rfl, OK.out _ H2.out, fun hHeld => ?_⟩
          try simp only [Act.put, List.setIfInBounds_toArray, List.set_cons_zero, List.set_cons_succ]
          refine takeH (d := some 85) (v := .bool false) 4 rfl rfl (by kernel_rfl) (by kernel_rfl) (by kernel_rfl) (fun _ _ _ h => h) (by rfl) (fun w hSw => Eq.trans (b := Result.ok (Next.value (.bool (decide (nI a ≤ nI x)))) w) (by kernel_rfl) (by rw [P1.out])) hHeld ?_
          try simp only [Act.put, List.setIfInBounds_toArray, List.set_cons_zero, List.set_cons_succ]
          refine takeH (d := some 86) (v := ?_) 5 rfl rfl (by kernel_rfl) (by kernel_rfl) (by kernel_rfl) (fun _ _ _ h => h) (by rfl) ?_ hHeld ?_
          rotate_left
          · intro w hSw
            try dsimp only at hSw
            go_simp <;> with_reducible rfl
          try simp only [Act.put, List.setIfInBounds_toArray, List.set_cons_zero, List.set_cons_succ]
          refine passH (d := some 87) 6 rfl rfl (by kernel_rfl) (by kernel_rfl) (by kernel_rfl) (fun _ _ _ h => h) (by rfl) hHeld ?_
          try simp only [Act.put, List.setIfInBounds_toArray, List.set_cons_zero, List.set_cons_succ]
          refine passH (d := some 88) 7 rfl rfl (by kernel_rfl) (by kernel_rfl) (by kernel_rfl) (fun _ _ _ h => h) (by rfl) hHeld ?_
          try simp only [Act.put, List.setIfInBounds_toArray, List.set_cons_zero, List.set_cons_succ]
          refine passH (d := some 89) 8 rfl rfl (by kernel_rfl) (by kernel_rfl) (by kernel_rfl) (fun _ _ _ h => h) (by rfl) hHeld ?_
          try simp only [Act.put, List.setIfInBounds_toArray, List.set_cons_zero, List.set_cons_succ]
          refine takeH (d := some 90) (v := ?_) 9 rfl rfl (by kernel_rfl) (by kernel_rfl) (by kernel_rfl) (fun _ _ _ h => h) (by rfl) ?_ hHeld ?_
          rotate_left
          · intro w hSw
            try dsimp only at hSw
            go_simp <;> with_reducible rfl
          try simp only [Act.put, List.setIfInBounds_toArray, List.set_cons_zero, List.set_cons_succ]
          refine takeH (d := some 91) (v := ?_) 10 rfl rfl (by kernel_rfl) (by kernel_rfl) (by kernel_rfl) (fun _ _ _ h => h) (by rfl) ?_ hHeld ?_
          rotate_left
          · intro w hSw
            try dsimp only at hSw
            go_simp <;> with_reducible rfl
          try simp only [Act.put, List.setIfInBounds_toArray, List.set_cons_zero, List.set_cons_succ]
          refine takeH (d := some 92) (v := ?_) 11 rfl rfl (by kernel_rfl) (by kernel_rfl) (by kernel_rfl) (fun _ _ _ h => h) (by rfl) ?_ hHeld ?_
          rotate_left
          · intro w hSw
            try dsimp only at hSw
            go_simp <;> with_reducible rfl
          try simp only [Act.put, List.setIfInBounds_toArray, List.set_cons_zero, List.set_cons_succ]
          refine takeH (d := some 94) (v := ?_) 13 rfl rfl (by kernel_rfl) (by kernel_rfl) (by kernel_rfl) (fun _ _ _ h => h) (by rfl) ?_ hHeld ?_
          rotate_left
          · intro w hSw
            try dsimp only at hSw
            go_simp <;> with_reducible rfl
          try simp only [Act.put, List.setIfInBounds_toArray, List.set_cons_zero, List.set_cons_succ]
          refine callH (d := some 93) 12 rfl rfl (by kernel_rfl) (by rfl) (by kernel_rfl) (Depth_calls ((TA).out.below H2.out)) ?_
          rintro e u3 ⟨rfl, hB⟩
          have H3 := Aside0.mk (below_then H2.out (H2.out).size hB)
          clear hB
          refine ⟨_, rfl, OK.out _ H3.out, fun hHeld => ?_⟩
          try simp only [Act.put, List.setIfInBounds_toArray, List.set_cons_zero, List.set_cons_succ]
          refine callH (d := some 95) 14 rfl rfl (by kernel_rfl) (by rfl) (by kernel_rfl) (Depth_calls ((TX).out.below H3.out)) ?_
          rintro e u4 ⟨rfl, hB⟩
          have H4 := Aside0.mk (below_then H3.out (H3.out).size hB)
          clear hB
          refine ⟨_, rfl, OK.out _ H4.out, fun hHeld => ?_⟩
          try simp only [Act.put, List.setIfInBounds_toArray, List.set_cons_zero, List.set_cons_succ]
          refine takeH (d := some 96) (v := .bool true) 15 rfl rfl (by kernel_rfl) (by kernel_rfl) (by kernel_rfl) (fun _ _ _ h => h) (by rfl) (fun w hSw => Eq.trans (b := Result.ok (Next.value (.bool (decide (depthI a ≤ depthI x)))) w) (by kernel_rfl) (by rw [P3.out])) hHeld ?_
          try simp only [Act.put, List.setIfInBounds_toArray, List.set_cons_zero, List.set_cons_succ]
          refine takeH (d := some 97) (v := ?_) 16 rfl rfl (by kernel_rfl) (by kernel_rfl) (by kernel_rfl) (fun _ _ _ h => h) (by rfl) ?_ hHeld ?_
          rotate_left
          · intro w hSw
            try dsimp only at hSw
            go_simp <;> with_reducible rfl
          try simp only [Act.put, List.setIfInBounds_toArray, List.set_cons_zero, List.set_cons_succ]
          refine takeH (d := some 98) (v := ?_) 17 rfl rfl (by kernel_rfl) (by kernel_rfl) (by kernel_rfl) (fun _ _ _ h => h) (by rfl) ?_ hHeld ?_
          rotate_left
          · intro w hSw
            try dsimp only at hSw
            go_simp <;> with_reducible rfl
          try simp only [Act.put, List.setIfInBounds_toArray, List.set_cons_zero, List.set_cons_succ]
          refine callH (d := some 99) 18 rfl rfl (by kernel_rfl) (by rfl) (by kernel_rfl) (Depth_calls ((TA).out.below H4.out)) ?_
          rintro e u5 ⟨rfl, hB⟩
          have H5 := Aside0.mk (below_then H4.out (H4.out).size hB)
          clear hB
          refine ⟨_, rfl, OK.out _ H5.out, fun hHeld => ?_⟩
          try simp only [Act.put, List.setIfInBounds_toArray, List.set_cons_zero, List.set_cons_succ]
          refine takeH (d := some 100) (v := .bool false) 19 rfl rfl (by kernel_rfl) (by kernel_rfl) (by kernel_rfl) (fun _ _ _ h => h) (by rfl) (fun w hSw => Eq.trans (b := Result.ok (Next.value (.bool (decide (depthI a ≤ 200)))) w) (by kernel_rfl) (by rw [P4.out])) hHeld ?_
          try simp only [Act.put, List.setIfInBounds_toArray, List.set_cons_zero, List.set_cons_succ]
          refine takeH (d := some 101) (v := ?_) 20 rfl rfl (by kernel_rfl) (by kernel_rfl) (by kernel_rfl) (fun _ _ _ h => h) (by rfl) ?_ hHeld ?_
          rotate_left
          · intro w hSw
            try dsimp only at hSw
            go_simp <;> with_reducible rfl
          try simp only [Act.put, List.setIfInBounds_toArray, List.set_cons_zero, List.set_cons_succ]
          refine takeH (d := some 102) (v := ?_) 21 rfl rfl (by kernel_rfl) (by kernel_rfl) (by kernel_rfl) (fun _ _ _ h => h) (by rfl) ?_ hHeld ?_
          rotate_left
          · intro w hSw
            try dsimp only at hSw
            go_simp <;> with_reducible rfl
          try simp only [Act.put, List.setIfInBounds_toArray, List.set_cons_zero, List.set_cons_succ]
          refine wpAnyH_done (by kernel_rfl) ?_ _
          replace KK := Aside0.mk (blk_below KK.out H5.out)
          replace KX := Aside0.mk (blk_below KX.out H5.out)
          replace TA := Aside0.mk (IsT.below TA.out H5.out)
          replace TX := Aside0.mk (IsT.below TX.out H5.out)
          replace BR := Aside0.mk (below_then BR.out BR.out.size H5.out)
          clear OK HBW P1 P2 P3 P4 H1 H2 H3 H4 H5
          have e0 := (blk_cell KK.out 0).trans rfl
          have e1 := (blk_cell KK.out 1).trans rfl
          simp at e0 e1
          go_wp2_with fail
          refine (Known_calls TA.out).mono ?_
          rintro e wk ⟨rfl, hB⟩
          replace KX := Aside0.mk (blk_below KX.out hB)
          replace TX := Aside0.mk (TX.out.below hB)
          replace BR := Aside0.mk (below_then BR.out BR.out.size hB)
          clear hB e0 e1 KK
          cases hka : knownB a with
          | false =>
            clear hka
            go_wp2_with fail
            go_roundw
            case rel => exact ⟨k + 1, by go_num, by omega, BR.out⟩
            case measure => simp [intOf]; omega
          | true =>
            have HX := Aside0.mk (HKN.out hka)
            clear hka
            have e2 := (blk_cell KX.out 0).trans rfl
            have e3 := (blk_cell KX.out 1).trans rfl
            simp at e2 e3
            go_wp2_with fail
            refine (Known_calls TX.out).mono ?_
            rw [HX.out]
            rintro e wk2 ⟨rfl, hB⟩
            replace BR := Aside0.mk (below_then BR.out BR.out.size hB)
            clear hB e2 e3
            go_wp2_with fail
            go_roundw
            case rel => exact ⟨k + 1, by go_num, by omega, BR.out⟩
            case measure => simp [intOf]; omega
        · have P1 := Aside0.mk (pt_len hp1)
          have P2 : True := trivial
          have P3 := Aside0.mk (pt_dlen hp3)
          have P4 : True := trivial
          clear hp1 hp3
          refine wp_region_held_drew (S := (fun w' => ((w'.cell? ⟨w.heap.size, 0, none⟩ = some (.int .i8 a.f0) ∧ w'.cell? ⟨w.heap.size, 1, none⟩ = some (.slice (some ad) a.f1.length ca)) ∧ (w'.cell? ⟨n11, 0, none⟩ = some (.int .i8 x.f0) ∧ w'.cell? ⟨n11, 1, none⟩ = some (.slice A1 x.f1.length c1))))) (by kernel_rfl) (OK.out _ HBW.out.drew) (fun hHeld => ?_)
          refine takeH (d := some 81) (v := ?_) 0 rfl rfl (by kernel_rfl) (by kernel_rfl) (by kernel_rfl) (fun _ _ _ h => h) (by rfl) ?_ hHeld ?_
          rotate_left
          · intro w hSw
            try dsimp only at hSw
            go_simp <;> with_reducible rfl
          try simp only [Act.put, List.setIfInBounds_toArray, List.set_cons_zero, List.set_cons_succ]
          refine takeH (d := some 83) (v := ?_) 2 rfl rfl (by kernel_rfl) (by kernel_rfl) (by kernel_rfl) (fun _ _ _ h => h) (by rfl) ?_ hHeld ?_
          rotate_left
          · intro w hSw
            try dsimp only at hSw
            go_simp <;> with_reducible rfl
          try simp only [Act.put, List.setIfInBounds_toArray, List.set_cons_zero, List.set_cons_succ]
          refine callH (d := some 82) 1 rfl rfl (by kernel_rfl) (by rfl) (by kernel_rfl) (NodesI_calls ((TA).out.below HBW.out.drew)) ?_
          rintro e u1 ⟨rfl, hB⟩
          have H1 := Aside0.mk (below_then HBW.out.drew (HBW.out.drew).size hB)
          clear hB
          refine ⟨_, rfl, OK.out _ H1.out, fun hHeld => ?_⟩
          try simp only [Act.put, List.setIfInBounds_toArray, List.set_cons_zero, List.set_cons_succ]
          refine callH (d := some 84) 3 rfl rfl (by kernel_rfl) (by rfl) (by kernel_rfl) (NodesI_calls ((TX).out.below H1.out)) ?_
          rintro e u2 ⟨rfl, hB⟩
          have H2 := Aside0.mk (below_then H1.out (H1.out).size hB)
          clear hB
          refine ⟨_, rfl, OK.out _ H2.out, fun hHeld => ?_⟩
          try simp only [Act.put, List.setIfInBounds_toArray, List.set_cons_zero, List.set_cons_succ]
          refine takeH (d := some 85) (v := .bool false) 4 rfl rfl (by kernel_rfl) (by kernel_rfl) (by kernel_rfl) (fun _ _ _ h => h) (by rfl) (fun w hSw => Eq.trans (b := Result.ok (Next.value (.bool (decide (nI a ≤ nI x)))) w) (by kernel_rfl) (by rw [P1.out])) hHeld ?_
          try simp only [Act.put, List.setIfInBounds_toArray, List.set_cons_zero, List.set_cons_succ]
          refine takeH (d := some 86) (v := ?_) 5 rfl rfl (by kernel_rfl) (by kernel_rfl) (by kernel_rfl) (fun _ _ _ h => h) (by rfl) ?_ hHeld ?_
          rotate_left
          · intro w hSw
            try dsimp only at hSw
            go_simp <;> with_reducible rfl
          try simp only [Act.put, List.setIfInBounds_toArray, List.set_cons_zero, List.set_cons_succ]
          refine passH (d := some 87) 6 rfl rfl (by kernel_rfl) (by kernel_rfl) (by kernel_rfl) (fun _ _ _ h => h) (by rfl) hHeld ?_
          try simp only [Act.put, List.setIfInBounds_toArray, List.set_cons_zero, List.set_cons_succ]
          refine passH (d := some 88) 7 rfl rfl (by kernel_rfl) (by kernel_rfl) (by kernel_rfl) (fun _ _ _ h => h) (by rfl) hHeld ?_
          try simp only [Act.put, List.setIfInBounds_toArray, List.set_cons_zero, List.set_cons_succ]
          refine passH (d := some 89) 8 rfl rfl (by kernel_rfl) (by kernel_rfl) (by kernel_rfl) (fun _ _ _ h => h) (by rfl) hHeld ?_
          try simp only [Act.put, List.setIfInBounds_toArray, List.set_cons_zero, List.set_cons_succ]
          refine takeH (d := some 90) (v := ?_) 9 rfl rfl (by kernel_rfl) (by kernel_rfl) (by kernel_rfl) (fun _ _ _ h => h) (by rfl) ?_ hHeld ?_
          rotate_left
          · intro w hSw
            try dsimp only at hSw
            go_simp <;> with_reducible rfl
          try simp only [Act.put, List.setIfInBounds_toArray, List.set_cons_zero, List.set_cons_succ]
          refine takeH (d := some 91) (v := ?_) 10 rfl rfl (by kernel_rfl) (by kernel_rfl) (by kernel_rfl) (fun _ _ _ h => h) (by rfl) ?_ hHeld ?_
          rotate_left
          · intro w hSw
            try dsimp only at hSw
            go_simp <;> with_reducible rfl
          try simp only [Act.put, List.setIfInBounds_toArray, List.set_cons_zero, List.set_cons_succ]
          refine takeH (d := some 92) (v := ?_) 11 rfl rfl (by kernel_rfl) (by kernel_rfl) (by kernel_rfl) (fun _ _ _ h => h) (by rfl) ?_ hHeld ?_
          rotate_left
          · intro w hSw
            try dsimp only at hSw
            go_simp <;> with_reducible rfl
          try simp only [Act.put, List.setIfInBounds_toArray, List.set_cons_zero, List.set_cons_succ]
          refine takeH (d := some 94) (v := ?_) 13 rfl rfl (by kernel_rfl) (by kernel_rfl) (by kernel_rfl) (fun _ _ _ h => h) (by rfl) ?_ hHeld ?_
          rotate_left
          · intro w hSw
            try dsimp only at hSw
            go_simp <;> with_reducible rfl
          try simp only [Act.put, List.setIfInBounds_toArray, List.set_cons_zero, List.set_cons_succ]
          refine callH (d := some 93) 12 rfl rfl (by kernel_rfl) (by rfl) (by kernel_rfl) (Depth_calls ((TA).out.below H2.out)) ?_
          rintro e u3 ⟨rfl, hB⟩
          have H3 := Aside0.mk (below_then H2.out (H2.out).size hB)
          clear hB
          refine ⟨_, rfl, OK.out _ H3.out, fun hHeld => ?_⟩
          try simp only [Act.put, List.setIfInBounds_toArray, List.set_cons_zero, List.set_cons_succ]
          refine callH (d := some 95) 14 rfl rfl (by kernel_rfl) (by rfl) (by kernel_rfl) (Depth_calls ((TX).out.below H3.out)) ?_
          rintro e u4 ⟨rfl, hB⟩
          have H4 := Aside0.mk (below_then H3.out (H3.out).size hB)
          clear hB
          refine ⟨_, rfl, OK.out _ H4.out, fun hHeld => ?_⟩
          try simp only [Act.put, List.setIfInBounds_toArray, List.set_cons_zero, List.set_cons_succ]
          refine takeH (d := some 96) (v := .bool false) 15 rfl rfl (by kernel_rfl) (by kernel_rfl) (by kernel_rfl) (fun _ _ _ h => h) (by rfl) (fun w hSw => Eq.trans (b := Result.ok (Next.value (.bool (decide (depthI a ≤ depthI x)))) w) (by kernel_rfl) (by rw [P3.out])) hHeld ?_
          try simp only [Act.put, List.setIfInBounds_toArray, List.set_cons_zero, List.set_cons_succ]
          refine takeH (d := some 97) (v := ?_) 16 rfl rfl (by kernel_rfl) (by kernel_rfl) (by kernel_rfl) (fun _ _ _ h => h) (by rfl) ?_ hHeld ?_
          rotate_left
          · intro w hSw
            try dsimp only at hSw
            go_simp <;> with_reducible rfl
          try simp only [Act.put, List.setIfInBounds_toArray, List.set_cons_zero, List.set_cons_succ]
          refine passH (d := some 98) 17 rfl rfl (by kernel_rfl) (by kernel_rfl) (by kernel_rfl) (fun _ _ _ h => h) (by rfl) hHeld ?_
          try simp only [Act.put, List.setIfInBounds_toArray, List.set_cons_zero, List.set_cons_succ]
          refine passH (d := some 99) 18 rfl rfl (by kernel_rfl) (by kernel_rfl) (by kernel_rfl) (fun _ _ _ h => h) (by rfl) hHeld ?_
          try simp only [Act.put, List.setIfInBounds_toArray, List.set_cons_zero, List.set_cons_succ]
          refine passH (d := some 100) 19 rfl rfl (by kernel_rfl) (by kernel_rfl) (by kernel_rfl) (fun _ _ _ h => h) (by rfl) hHeld ?_
          try simp only [Act.put, List.setIfInBounds_toArray, List.set_cons_zero, List.set_cons_succ]
          refine takeH (d := some 101) (v := ?_) 20 rfl rfl (by kernel_rfl) (by kernel_rfl) (by kernel_rfl) (fun _ _ _ h => h) (by rfl) ?_ hHeld ?_
          rotate_left
          · intro w hSw
            try dsimp only at hSw
            go_simp <;> with_reducible rfl
          try simp only [Act.put, List.setIfInBounds_toArray, List.set_cons_zero, List.set_cons_succ]
          refine takeH (d := some 102) (v := ?_) 21 rfl rfl (by kernel_rfl) (by kernel_rfl) (by kernel_rfl) (fun _ _ _ h => h) (by rfl) ?_ hHeld ?_
          rotate_left
          · intro w hSw
            try dsimp only at hSw
            go_simp <;> with_reducible rfl
          try simp only [Act.put, List.setIfInBounds_toArray, List.set_cons_zero, List.set_cons_succ]
          refine wpAnyH_done (by kernel_rfl) ?_ _
          replace KK := Aside0.mk (blk_below KK.out H4.out)
          replace KX := Aside0.mk (blk_below KX.out H4.out)
          replace TA := Aside0.mk (IsT.below TA.out H4.out)
          replace TX := Aside0.mk (IsT.below TX.out H4.out)
          replace BR := Aside0.mk (below_then BR.out BR.out.size H4.out)
          clear OK HBW P1 P2 P3 P4 H1 H2 H3 H4
          have e0 := (blk_cell KK.out 0).trans rfl
          have e1 := (blk_cell KK.out 1).trans rfl
          simp at e0 e1
          go_wp2_with fail
          refine (Known_calls TA.out).mono ?_
          rintro e wk ⟨rfl, hB⟩
          replace KX := Aside0.mk (blk_below KX.out hB)
          replace TX := Aside0.mk (TX.out.below hB)
          replace BR := Aside0.mk (below_then BR.out BR.out.size hB)
          clear hB e0 e1 KK
          cases hka : knownB a with
          | false =>
            clear hka
            go_wp2_with fail
            go_roundw
            case rel => exact ⟨k + 1, by go_num, by omega, BR.out⟩
            case measure => simp [intOf]; omega
          | true =>
            have HX := Aside0.mk (HKN.out hka)
            clear hka
            have e2 := (blk_cell KX.out 0).trans rfl
            have e3 := (blk_cell KX.out 1).trans rfl
            simp at e2 e3
            go_wp2_with fail
            refine (Known_calls TX.out).mono ?_
            rw [HX.out]
            rintro e wk2 ⟨rfl, hB⟩
            replace BR := Aside0.mk (below_then BR.out BR.out.size hB)
            clear hB e2 e3
            go_wp2_with fail
            go_roundw
            case rel => exact ⟨k + 1, by go_num, by omega, BR.out⟩
            case measure => simp [intOf]; omega
    · have h9 : k = a.f1.length ∨ 5 ≤ k := by omega
      clear hk2
      by_cases h5 : k < 5
      · obtain rfl : k = a.f1.length := by omega
        go_wp2_with fail
        refine (wakes2_calls _).mono ?_
        rintro e we ⟨rfl, hB⟩
        replace BR := Aside0.mk (below_then BR.out BR.out.size hB)
        clear hB
        go_wp2_with fail
        go_ret
        exact ⟨rfl, below_then HB.out HB.out.size BR.out⟩
      · by_cases hlt : k < a.f1.length
        · go_wp2_with fail
          refine (wakes2_calls _).mono ?_
          rintro e we ⟨rfl, hB⟩
          replace BR := Aside0.mk (below_then BR.out BR.out.size hB)
          clear hB
          go_wp2_with fail
          go_ret
          exact ⟨rfl, below_then HB.out HB.out.size BR.out⟩
        · go_wp2_with fail
          refine (wakes2_calls _).mono ?_
          rintro e we ⟨rfl, hB⟩
          replace BR := Aside0.mk (below_then BR.out BR.out.size hB)
          clear hB
          go_wp2_with fail
          go_ret
          exact ⟨rfl, below_then HB.out HB.out.size BR.out⟩
end Go.Proofs.Ytamhdpllmhafhaa.X
/- The walk of the law TypesParts: a type and its parts. -/
namespace Go.Proofs.Ytamhdpllmhafhaa.X
open Go.RowKit Go.Proofs.YtamhdpllmhafhaaW.PrintWords Go.Proofs.YtamhdpllmhafhaaW.PrintLast Go.Proofs.YtamhdpllmhafhaaW.PrintMore
set_option linter.unusedVariables false
set_option linter.unusedSimpArgs false

set_option maxRecDepth 100000 in
set_option maxHeartbeats 3200000 in
theorem parts_1 (a b : S26) (w : World) (A : Option Addr) (ca : Nat) (B : Option Addr) (cb : Nat) (T0 : Aside0 (IsT w (.agg #[.int .i8 a.f0, .slice A a.f1.length ca]) a)) (T1 : Aside0 (IsT w (.agg #[.int .i8 b.f0, .slice B b.f1.length cb]) b)) (KN : Aside0 (∀ i : Nat, i < a.f1.length → knownB a = true → knownB (rd_T26 a.f1 i) = true)) (DN : Aside0 (∀ i : Nat, i < a.f1.length → depth (rd_T26 a.f1 i) < depth a)) (NN : Aside0 (∀ i : Nat, i < a.f1.length → nodes (rd_T26 a.f1 i) < nodes a)) (RF : Aside0 (sameB a a = true)) (SY : Aside0 (sameB b a = sameB a b)) (GA : Aside0 (groundT a = (z26, false))) (GG : Aside0 (groundT z26 = (z26, false))) (CK : Aside0 (checkI a = 0)) (D0 : Aside0 ((a.f0 != 0) = false)) :
    Calls Try.prog 13 #[.agg #[.int .i8 a.f0, .slice A a.f1.length ca], .agg #[.int .i8 b.f0, .slice B b.f1.length cb]] w fun e w' => e = .returned (.bool true) ∧ Below w.heap.size w w' := by
  go_enter Try.func13, Try.ntmps13
  go_wp2_with fail
  refine (Check_calls (T0.out.below (below2 ..))).mono ?_
  rw [CK.out]
  rintro e w1 ⟨rfl, hB⟩
  obtain ⟨b1, b2, hB1⟩ := two_blocks hB
  have HB := Aside0.mk hB1
  have K1 := Aside0.mk b1
  have K2 := Aside0.mk b2
  replace T0 := Aside0.mk (IsT.below T0.out hB1)
  replace T1 := Aside0.mk (IsT.below T1.out hB1)
  clear hB hB1 b1 b2
  go_wp2_with fail
  have OK := Aside0.mk (fun w' (h : Below w1.heap.size w1 w') => (⟨c26_of K1.out h, c26_of K2.out h⟩ : ((w'.cell? ⟨w.heap.size, 0, none⟩ = some (.int .i8 a.f0) ∧ w'.cell? ⟨w.heap.size, 1, none⟩ = some (.slice A a.f1.length ca)) ∧ (w'.cell? ⟨(w.heap.size + 1), 0, none⟩ = some (.int .i8 b.f0) ∧ w'.cell? ⟨(w.heap.size + 1), 1, none⟩ = some (.slice B b.f1.length cb)))))
  have HBW := Aside0.mk (Below.refl w1.heap.size w1)
  refine wp_region_held_drew (S := (fun w' => ((w'.cell? ⟨w.heap.size, 0, none⟩ = some (.int .i8 a.f0) ∧ w'.cell? ⟨w.heap.size, 1, none⟩ = some (.slice A a.f1.length ca)) ∧ (w'.cell? ⟨(w.heap.size + 1), 0, none⟩ = some (.int .i8 b.f0) ∧ w'.cell? ⟨(w.heap.size + 1), 1, none⟩ = some (.slice B b.f1.length cb))))) (by kernel_rfl) (OK.out _ HBW.out.drew) (fun hHeld => ?_)
  refine takeH (d := some 15) (v := ?_) 0 rfl rfl (by kernel_rfl) (by kernel_rfl) (by kernel_rfl) (fun _ _ _ h => h) (by rfl) ?_ hHeld ?_
  rotate_left
  · intro w hSw
    try dsimp only at hSw
    go_simp <;> with_reducible rfl
  try simp only [Act.put, List.setIfInBounds_toArray, List.set_cons_zero, List.set_cons_succ]
  refine takeH (d := some 16) (v := ?_) 1 rfl rfl (by kernel_rfl) (by kernel_rfl) (by kernel_rfl) (fun _ _ _ h => h) (by rfl) ?_ hHeld ?_
  rotate_left
  · intro w hSw
    try dsimp only at hSw
    go_simp <;> with_reducible rfl
  try simp only [Act.put, List.setIfInBounds_toArray, List.set_cons_zero, List.set_cons_succ]
  refine takeH (d := some 18) (v := ?_) 3 rfl rfl (by kernel_rfl) (by kernel_rfl) (by kernel_rfl) (fun _ _ _ h => h) (by rfl) ?_ hHeld ?_
  rotate_left
  · intro w hSw
    try dsimp only at hSw
    go_simp <;> with_reducible rfl
  try simp only [Act.put, List.setIfInBounds_toArray, List.set_cons_zero, List.set_cons_succ]
  refine callH (d := some 17) 2 rfl rfl (by kernel_rfl) (by rfl) (by kernel_rfl) (Same_calls ((T0).out.below HBW.out.drew) ((T0).out.below HBW.out.drew)) ?_
  rw [(RF).out]
  rintro e v1 ⟨rfl, hB⟩
  have H1 := Aside0.mk (below_then HBW.out.drew (HBW.out.drew).size hB)
  clear hB
  refine ⟨_, rfl, OK.out _ H1.out, fun hHeld => ?_⟩
  try simp only [Act.put, List.setIfInBounds_toArray, List.set_cons_zero, List.set_cons_succ]
  refine takeH (d := some 19) (v := ?_) 4 rfl rfl (by kernel_rfl) (by kernel_rfl) (by kernel_rfl) (fun _ _ _ h => h) (by rfl) ?_ hHeld ?_
  rotate_left
  · intro w hSw
    try dsimp only at hSw
    go_simp <;> with_reducible rfl
  try simp only [Act.put, List.setIfInBounds_toArray, List.set_cons_zero, List.set_cons_succ]
  refine takeH (d := some 20) (v := ?_) 5 rfl rfl (by kernel_rfl) (by kernel_rfl) (by kernel_rfl) (fun _ _ _ h => h) (by rfl) ?_ hHeld ?_
  rotate_left
  · intro w hSw
    try dsimp only at hSw
    go_simp <;> with_reducible rfl
  try simp only [Act.put, List.setIfInBounds_toArray, List.set_cons_zero, List.set_cons_succ]
  refine takeH (d := some 21) (v := ?_) 6 rfl rfl (by kernel_rfl) (by kernel_rfl) (by kernel_rfl) (fun _ _ _ h => h) (by rfl) ?_ hHeld ?_
  rotate_left
  · intro w hSw
    try dsimp only at hSw
    go_simp <;> with_reducible rfl
  try simp only [Act.put, List.setIfInBounds_toArray, List.set_cons_zero, List.set_cons_succ]
  refine takeH (d := some 22) (v := ?_) 7 rfl rfl (by kernel_rfl) (by kernel_rfl) (by kernel_rfl) (fun _ _ _ h => h) (by rfl) ?_ hHeld ?_
  rotate_left
  · intro w hSw
    try dsimp only at hSw
    go_simp <;> with_reducible rfl
  try simp only [Act.put, List.setIfInBounds_toArray, List.set_cons_zero, List.set_cons_succ]
  refine takeH (d := some 24) (v := ?_) 9 rfl rfl (by kernel_rfl) (by kernel_rfl) (by kernel_rfl) (fun _ _ _ h => h) (by rfl) ?_ hHeld ?_
  rotate_left
  · intro w hSw
    try dsimp only at hSw
    go_simp <;> with_reducible rfl
  try simp only [Act.put, List.setIfInBounds_toArray, List.set_cons_zero, List.set_cons_succ]
  refine takeH (d := some 25) (v := ?_) 10 rfl rfl (by kernel_rfl) (by kernel_rfl) (by kernel_rfl) (fun _ _ _ h => h) (by rfl) ?_ hHeld ?_
  rotate_left
  · intro w hSw
    try dsimp only at hSw
    go_simp <;> with_reducible rfl
  try simp only [Act.put, List.setIfInBounds_toArray, List.set_cons_zero, List.set_cons_succ]
  refine callH (d := some 23) 8 rfl rfl (by kernel_rfl) (by rfl) (by kernel_rfl) (Same_calls ((T0).out.below H1.out) ((T1).out.below H1.out)) ?_
  rintro e v2 ⟨rfl, hB⟩
  have H2 := Aside0.mk (below_then H1.out (H1.out).size hB)
  clear hB
  refine ⟨_, rfl, OK.out _ H2.out, fun hHeld => ?_⟩
  try simp only [Act.put, List.setIfInBounds_toArray, List.set_cons_zero, List.set_cons_succ]
  refine callH (d := some 26) 11 rfl rfl (by kernel_rfl) (by rfl) (by kernel_rfl) (Same_calls ((T1).out.below H2.out) ((T0).out.below H2.out)) ?_
  rw [(SY).out]
  rintro e v3 ⟨rfl, hB⟩
  have H3 := Aside0.mk (below_then H2.out (H2.out).size hB)
  clear hB
  refine ⟨_, rfl, OK.out _ H3.out, fun hHeld => ?_⟩
  try simp only [Act.put, List.setIfInBounds_toArray, List.set_cons_zero, List.set_cons_succ]
  refine takeH (d := some 27) (v := ?_) 12 rfl rfl (by kernel_rfl) (by kernel_rfl) (by kernel_rfl) (fun _ _ _ h => h) (by rfl) ?_ hHeld ?_
  rotate_left
  · intro w hSw
    try dsimp only at hSw
    go_simp <;> with_reducible rfl
  try simp only [Act.put, List.setIfInBounds_toArray, List.set_cons_zero, List.set_cons_succ]
  refine takeH (d := some 28) (v := ?_) 13 rfl rfl (by kernel_rfl) (by kernel_rfl) (by kernel_rfl) (fun _ _ _ h => h) (by rfl) ?_ hHeld ?_
  rotate_left
  · intro w hSw
    try dsimp only at hSw
    go_simp <;> with_reducible rfl
  try simp only [Act.put, List.setIfInBounds_toArray, List.set_cons_zero, List.set_cons_succ]
  refine wpAnyH_done (by kernel_rfl) ?_ _
  replace K1 := Aside0.mk (blk_below K1.out H3.out)
  replace T0 := Aside0.mk (IsT.below T0.out H3.out)
  replace HB := Aside0.mk (below_then HB.out HB.out.size H3.out)
  clear OK HBW K2 T1 H1 H2 H3
  obtain ⟨e0, e1⟩ := c26_of K1.out (Below.refl _ _)
  have q1 := blk_lt K1.out
  go_wp2_with fail
  refine (Ground_calls T0.out).mono ?_
  rw [GA.out]
  rintro e w2 ⟨vv, rfl, ht, hB⟩
  obtain ⟨A6, c6, rfl, hl, hc⟩ := ht
  have TG := Aside0.mk (IsT.mk (k := (z26).f0) hl hc)
  rw [S26.eta] at TG
  replace K1 := Aside0.mk (blk_below K1.out hB)
  replace T0 := Aside0.mk (T0.out.below hB)
  replace HB := Aside0.mk (below_then HB.out HB.out.size hB)
  clear hB hl hc e0 e1 q1
  go_wp2_with fail
  have hB := below1 w2 #[.int .i8 (z26).f0, .slice A6 (z26).f1.length c6] 26
  have K6 := Aside0.mk (heap_alloc_new w2 (.cells #[.int .i8 (z26).f0, .slice A6 (z26).f1.length c6] 26))
  replace K1 := Aside0.mk (blk_below K1.out hB)
  replace T0 := Aside0.mk (T0.out.below hB)
  replace HB := Aside0.mk (below_then HB.out HB.out.size hB)
  replace TG := Aside0.mk (TG.out.below hB)
  clear hB
  refine (Ground_calls TG.out).mono ?_
  rw [GG.out]
  rintro e w3 ⟨vv, rfl, ht, hB⟩
  obtain ⟨A8, c8, rfl, hl, hc⟩ := ht
  have TH := Aside0.mk (IsT.mk (k := (z26).f0) hl hc)
  rw [S26.eta] at TH
  replace K1 := Aside0.mk (blk_below K1.out hB)
  replace T0 := Aside0.mk (T0.out.below hB)
  replace HB := Aside0.mk (below_then HB.out HB.out.size hB)
  replace TG := Aside0.mk (TG.out.below hB)
  replace K6 := Aside0.mk (blk_below K6.out hB)
  clear hB hl hc
  generalize w2.heap.size = n6 at *
  obtain ⟨e0, e1⟩ := c26_of K1.out (Below.refl _ _)
  have q1 := blk_lt K1.out
  have d0 := D0.out
  have hB := below1 w3 #[.int .i8 (z26).f0, .slice A8 (z26).f1.length c8] 26
  replace K1 := Aside0.mk (blk_below K1.out hB)
  replace T0 := Aside0.mk (T0.out.below hB)
  replace HB := Aside0.mk (below_then HB.out HB.out.size hB)
  clear hB
  go_upto_region 9 with fail
  try clear d0
  generalize w3.alloc (.cells #[.int .i8 (z26).f0, .slice A8 (z26).f1.length c8] 26) = w5 at *
  clear e0 e1 q1
  have HR := Aside0.mk (T0.out.C)
  go_loopw [10] (fun i wr => ∃ k : Nat, i = .int .i64 k ∧ k ≤ a.f1.length ∧ Below w5.heap.size w5 wr) (fun i _ => a.f1.length - (intOf i).toNat)
  case atStart => exact ⟨0, rfl, Nat.zero_le _, Below.refl _ _⟩
  case round =>
    obtain ⟨k, rfl, hk, hB⟩ := hrel
    have BR := Aside0.mk hB
    clear hB
    have KK := Aside0.mk (blk_below K1.out BR.out)
    have e0 := (blk_cell KK.out 0).trans rfl
    have e1 := (blk_cell KK.out 1).trans rfl
    simp at e0 e1
    have hmax := HR.out.2.1
    by_cases hk2 : k < a.f1.length ∧ k < 5
    · obtain ⟨hlt, h5⟩ := hk2
      obtain ⟨ad, A1, c1, hA, hx0, hx1, hl1, hi1⟩ := at_T26 HR.out (k : Int) (by omega) (by omega)
      obtain rfl := hA
      have hd := DN.out k hlt
      have hn := NN.out k hlt
      have hkn := KN.out k hlt
      have hy0 := (BR.out.cell (World.block_lt_of_cell? _ _ hx0)).trans hx0
      have hy1 := (BR.out.cell (World.block_lt_of_cell? _ _ hx1)).trans hx1
      generalize hel : rd_T26 a.f1 (k : Int) = x at *
      have TX := Aside0.mk ((IsT.mk (k := x.f0) hl1 hi1).below BR.out)
      rw [S26.eta] at TX
      have HD := Aside0.mk hd
      have HN := Aside0.mk hn
      have HKN := Aside0.mk hkn
      simp only [Int.toNat_natCast] at hy0 hy1
      clear hx0 hx1 hl1 hi1 hel hd hn hkn
      go_wp2_with fail
      have hB := below1 wr #[.int .i8 x.f0, .slice A1 x.f1.length c1] 26
      have KX := Aside0.mk (heap_alloc_new wr (.cells #[.int .i8 x.f0, .slice A1 x.f1.length c1] 26))
      have TA := Aside0.mk ((T0.out.below BR.out).below hB)
      replace TX := Aside0.mk (TX.out.below hB)
      replace KK := Aside0.mk (blk_below KK.out hB)
      replace BR := Aside0.mk (below_then BR.out BR.out.size hB)
      clear hB hy0 hy1 e0 e1
      generalize wr.heap.size = n11 at *
      generalize wr.alloc (.cells #[.int .i8 x.f0, .slice A1 x.f1.length c1] 26) = W at *
      have OK := Aside0.mk (fun w' (h : Below W.heap.size W w') => (⟨c26_of KK.out h, c26_of KX.out h⟩ : ((w'.cell? ⟨w.heap.size, 0, none⟩ = some (.int .i8 a.f0) ∧ w'.cell? ⟨w.heap.size, 1, none⟩ = some (.slice (some ad) a.f1.length ca)) ∧ (w'.cell? ⟨n11, 0, none⟩ = some (.int .i8 x.f0) ∧ w'.cell? ⟨n11, 1, none⟩ = some (.slice A1 x.f1.length c1)))))
      have HBW := Aside0.mk (Below.refl W.heap.size W)
      by_cases hp1 : nI a ≤ nI x
      · by_cases hp3 : depthI a ≤ depthI x
        · have P1 := Aside0.mk (pt_le hp1)
          have P2 := Aside0.mk (pt_big HN.out hp1)
          have P3 := Aside0.mk (pt_dle hp3)
          have P4 := Aside0.mk (pt_dbig HN.out HD.out hp3)
          clear hp1 hp3
          refine wp_region_held_drew (S := (fun w' => ((w'.cell? ⟨w.heap.size, 0, none⟩ = some (.int .i8 a.f0) ∧ w'.cell? ⟨w.heap.size, 1, none⟩ = some (.slice (some ad) a.f1.length ca)) ∧ (w'.cell? ⟨n11, 0, none⟩ = some (.int .i8 x.f0) ∧ w'.cell? ⟨n11, 1, none⟩ = some (.slice A1 x.f1.length c1))))) (by kernel_rfl) (OK.out _ HBW.out.drew) (fun hHeld => ?_)
          refine takeH (d := some 81) (v := ?_) 0 rfl rfl (by kernel_rfl) (by kernel_rfl) (by kernel_rfl) (fun _ _ _ h => h) (by rfl) ?_ hHeld ?_
          rotate_left
          · intro w hSw
            try dsimp only at hSw
            go_simp <;> with_reducible rfl
          try simp only [Act.put, List.setIfInBounds_toArray, List.set_cons_zero, List.set_cons_succ]
          refine takeH (d := some 83) (v := ?_) 2 rfl rfl (by kernel_rfl) (by kernel_rfl) (by kernel_rfl) (fun _ _ _ h => h) (by rfl) ?_ hHeld ?_
          rotate_left
          · intro w hSw
            try dsimp only at hSw
            go_simp <;> with_reducible rfl
          try simp only [Act.put, List.setIfInBounds_toArray, List.set_cons_zero, List.set_cons_succ]
          refine callH (d := some 82) 1 rfl rfl (by kernel_rfl) (by rfl) (by kernel_rfl) (NodesI_calls ((TA).out.below HBW.out.drew)) ?_
          rintro e u1 ⟨rfl, hB⟩
          have H1 := Aside0.mk (below_then HBW.out.drew (HBW.out.drew).size hB)
          clear hB
          refine ⟨_, rfl, OK.out _ H1.out, fun hHeld => ?_⟩
          try simp only [Act.put, List.setIfInBounds_toArray, List.set_cons_zero, List.set_cons_succ]
          refine callH (d := some 84) 3 rfl rfl (by kernel_rfl) (by rfl) (by kernel_rfl) (NodesI_calls ((TX).out.below H1.out)) ?_
          rintro e u2 ⟨rfl, hB⟩
          have H2 := Aside0.mk (below_then H1.out (H1.out).size hB)
          clear hB
          refine ⟨_, rfl, OK.out _ H2.out, fun hHeld => ?_⟩
          try simp only [Act.put, List.setIfInBounds_toArray, List.set_cons_zero, List.set_cons_succ]
          refine takeH (d := some 85) (v := .bool true) 4 rfl rfl (by kernel_rfl) (by kernel_rfl) (by kernel_rfl) (fun _ _ _ h => h) (by rfl) (fun w hSw => Eq.trans (b := Result.ok (Next.value (.bool (decide (nI a ≤ nI x)))) w) (by kernel_rfl) (by rw [P1.out])) hHeld ?_
          try simp only [Act.put, List.setIfInBounds_toArray, List.set_cons_zero, List.set_cons_succ]
          refine takeH (d := some 86) (v := ?_) 5 rfl rfl (by kernel_rfl) (by kernel_rfl) (by kernel_rfl) (fun _ _ _ h => h) (by rfl) ?_ hHeld ?_
          rotate_left
          · intro w hSw
            try dsimp only at hSw
            go_simp <;> with_reducible rfl
          try simp only [Act.put, List.setIfInBounds_toArray, List.set_cons_zero, List.set_cons_succ]
          refine takeH (d := some 87) (v := ?_) 6 rfl rfl (by kernel_rfl) (by kernel_rfl) (by kernel_rfl) (fun _ _ _ h => h) (by rfl) ?_ hHeld ?_
          rotate_left
          · intro w hSw
            try dsimp only at hSw
            go_simp <;> with_reducible rfl
          try simp only [Act.put, List.setIfInBounds_toArray, List.set_cons_zero, List.set_cons_succ]
          refine callH (d := some 88) 7 rfl rfl (by kernel_rfl) (by rfl) (by kernel_rfl) (NodesI_calls ((TA).out.below H2.out)) ?_
          rintro e u3 ⟨rfl, hB⟩
          have H3 := Aside0.mk (below_then H2.out (H2.out).size hB)
          clear hB
          refine ⟨_, rfl, OK.out _ H3.out, fun hHeld => ?_⟩
          try simp only [Act.put, List.setIfInBounds_toArray, List.set_cons_zero, List.set_cons_succ]
          refine takeH (d := some 89) (v := .bool false) 8 rfl rfl (by kernel_rfl) (by kernel_rfl) (by kernel_rfl) (fun _ _ _ h => h) (by rfl) (fun w hSw => Eq.trans (b := Result.ok (Next.value (.bool (decide (nI a ≤ 8192)))) w) (by kernel_rfl) (by rw [P2.out])) hHeld ?_
          try simp only [Act.put, List.setIfInBounds_toArray, List.set_cons_zero, List.set_cons_succ]
          refine takeH (d := some 90) (v := ?_) 9 rfl rfl (by kernel_rfl) (by kernel_rfl) (by kernel_rfl) (fun _ _ _ h => h) (by rfl) ?_ hHeld ?_
          rotate_left
          · intro w hSw
            try dsimp only at hSw
            go_simp <;> with_reducible rfl
          try simp only [Act.put, List.setIfInBounds_toArray, List.set_cons_zero, List.set_cons_succ]
          refine takeH (d := some 91) (v := ?_) 10 rfl rfl (by kernel_rfl) (by kernel_rfl) (by kernel_rfl) (fun _ _ _ h => h) (by rfl) ?_ hHeld ?_
          rotate_left
          · intro w hSw
            try dsimp only at hSw
            go_simp <;> with_reducible rfl
          try simp only [Act.put, List.setIfInBounds_toArray, List.set_cons_zero, List.set_cons_succ]
          refine takeH (d := some 92) (v := ?_) 11 rfl rfl (by kernel_rfl) (by kernel_rfl) (by kernel_rfl) (fun _ _ _ h => h) (by rfl) ?_ hHeld ?_
          rotate_left
          · intro w hSw
            try dsimp only at hSw
            go_simp <;> with_reducible rfl
          try simp only [Act.put, List.setIfInBounds_toArray, List.set_cons_zero, List.set_cons_succ]
          refine takeH (d := some 94) (v := ?_) 13 rfl rfl (by kernel_rfl) (by kernel_rfl) (by kernel_rfl) (fun _ _ _ h => h) (by rfl) ?_ hHeld ?_
          rotate_left
          · intro w hSw
            try dsimp only at hSw
            go_simp <;> with_reducible rfl
          try simp only [Act.put, List.setIfInBounds_toArray, List.set_cons_zero, List.set_cons_succ]
          refine callH (d := some 93) 12 rfl rfl (by kernel_rfl) (by rfl) (by kernel_rfl) (Depth_calls ((TA).out.below H3.out)) ?_
          rintro e u4 ⟨rfl, hB⟩
          have H4 := Aside0.mk (below_then H3.out (H3.out).size hB)
          clear hB
          refine ⟨_, rfl, OK.out _ H4.out, fun hHeld => ?_⟩
          try simp only [Act.put, List.setIfInBounds_toArray, List.set_cons_zero, List.set_cons_succ]
          refine callH (d := some 95) 14 rfl rfl (by kernel_rfl) (by rfl) (by kernel_rfl) (Depth_calls ((TX).out.below H4.out)) ?_
          rintro e u5 ⟨rfl, hB⟩
          have H5 := Aside0.mk (below_then H4.out (H4.out).size hB)
          clear hB
          refine ⟨_, rfl, OK.out _ H5.out, fun hHeld => ?_⟩
          try simp only [Act.put, List.setIfInBounds_toArray, List.set_cons_zero, List.set_cons_succ]
          refine takeH (d := some 96) (v := .bool true) 15 rfl rfl (by kernel_rfl) (by kernel_rfl) (by kernel_rfl) (fun _ _ _ h => h) (by rfl) (fun w hSw => Eq.trans (b := Result.ok (Next.value (.bool (decide (depthI a ≤ depthI x)))) w) (by kernel_rfl) (by rw [P3.out])) hHeld ?_
          try simp only [Act.put, List.setIfInBounds_toArray, List.set_cons_zero, List.set_cons_succ]
          refine takeH (d := some 97) (v := ?_) 16 rfl rfl (by kernel_rfl) (by kernel_rfl) (by kernel_rfl) (fun _ _ _ h => h) (by rfl) ?_ hHeld ?_
          rotate_left
          · intro w hSw
            try dsimp only at hSw
            go_simp <;> with_reducible rfl
          try simp only [Act.put, List.setIfInBounds_toArray, List.set_cons_zero, List.set_cons_succ]
          refine takeH (d := some 98) (v := ?_) 17 rfl rfl (by kernel_rfl) (by kernel_rfl) (by kernel_rfl) (fun _ _ _ h => h) (by rfl) ?_ hHeld ?_
          rotate_left
          · intro w hSw
            try dsimp only at hSw
            go_simp <;> with_reducible rfl
          try simp only [Act.put, List.setIfInBounds_toArray, List.set_cons_zero, List.set_cons_succ]
          refine callH (d := some 99) 18 rfl rfl (by kernel_rfl) (by rfl) (by kernel_rfl) (Depth_calls ((TA).out.below H5.out)) ?_
          rintro e u6 ⟨rfl, hB⟩
          have H6 := Aside0.mk (below_then H5.out (H5.out).size hB)
          clear hB
          refine ⟨_, rfl, OK.out _ H6.out, fun hHeld => ?_⟩
          try simp only [Act.put, List.setIfInBounds_toArray, List.set_cons_zero, List.set_cons_succ]
          refine takeH (d := some 100) (v := .bool false) 19 rfl rfl (by kernel_rfl) (by kernel_rfl) (by kernel_rfl) (fun _ _ _ h => h) (by rfl) (fun w hSw => Eq.trans (b := Result.ok (Next.value (.bool (decide (depthI a ≤ 200)))) w) (by kernel_rfl) (by rw [P4.out])) hHeld ?_
          try simp only [Act.put, List.setIfInBounds_toArray, List.set_cons_zero, List.set_cons_succ]
          refine takeH (d := some 101) (v := ?_) 20 rfl rfl (by kernel_rfl) (by kernel_rfl) (by kernel_rfl) (fun _ _ _ h => h) (by rfl) ?_ hHeld ?_
          rotate_left
          · intro w hSw
            try dsimp only at hSw
            go_simp <;> with_reducible rfl
          try simp only [Act.put, List.setIfInBounds_toArray, List.set_cons_zero, List.set_cons_succ]
          refine takeH (d := some 102) (v := ?_) 21 rfl rfl (by kernel_rfl) (by kernel_rfl) (by kernel_rfl) (fun _ _ _ h => h) (by rfl) ?_ hHeld ?_
          rotate_left
          · intro w hSw
            try dsimp only at hSw
            go_simp <;> with_reducible rfl
          try simp only [Act.put, List.setIfInBounds_toArray, List.set_cons_zero, List.set_cons_succ]
          refine wpAnyH_done (by kernel_rfl) ?_ _
          replace KK := Aside0.mk (blk_below KK.out H6.out)
          replace KX := Aside0.mk (blk_below KX.out H6.out)
          replace TA := Aside0.mk (IsT.below TA.out H6.out)
          replace TX := Aside0.mk (IsT.below TX.out H6.out)
          replace BR := Aside0.mk (below_then BR.out BR.out.size H6.out)
          clear OK HBW P1 P2 P3 P4 H1 H2 H3 H4 H5 H6
          have e0 := (blk_cell KK.out 0).trans rfl
          have e1 := (blk_cell KK.out 1).trans rfl
          simp at e0 e1
          go_wp2_with fail
          refine (Known_calls TA.out).mono ?_
          rintro e wk ⟨rfl, hB⟩
          replace KX := Aside0.mk (blk_below KX.out hB)
          replace TX := Aside0.mk (TX.out.below hB)
          replace BR := Aside0.mk (below_then BR.out BR.out.size hB)
          clear hB e0 e1 KK
          cases hka : knownB a with
          | false =>
            clear hka
            go_wp2_with fail
            go_roundw
            case rel => exact ⟨k + 1, by go_num, by omega, BR.out⟩
            case measure => simp [intOf]; omega
          | true =>
            have HX := Aside0.mk (HKN.out hka)
            clear hka
            have e2 := (blk_cell KX.out 0).trans rfl
            have e3 := (blk_cell KX.out 1).trans rfl
            simp at e2 e3
            go_wp2_with fail
            refine (Known_calls TX.out).mono ?_
            rw [HX.out]
            rintro e wk2 ⟨rfl, hB⟩
            replace BR := Aside0.mk (below_then BR.out BR.out.size hB)
            clear hB e2 e3
            go_wp2_with fail
            go_roundw
            case rel => exact ⟨k + 1, by go_num, by omega, BR.out⟩
            case measure => simp [intOf]; omega
        · have P1 := Aside0.mk (pt_le hp1)
          have P2 := Aside0.mk (pt_big HN.out hp1)
          have P3 := Aside0.mk (pt_dlen hp3)
          have P4 : True := trivial
          clear hp1 hp3
          refine wp_region_held_drew (S := (fun w' => ((w'.cell? ⟨w.heap.size, 0, none⟩ = some (.int .i8 a.f0) ∧ w'.cell? ⟨w.heap.size, 1, none⟩ = some (.slice (some ad) a.f1.length ca)) ∧ (w'.cell? ⟨n11, 0, none⟩ = some (.int .i8 x.f0) ∧ w'.cell? ⟨n11, 1, none⟩ = some (.slice A1 x.f1.length c1))))) (by kernel_rfl) (OK.out _ HBW.out.drew) (fun hHeld => ?_)
          refine takeH (d := some 81) (v := ?_) 0 rfl rfl (by kernel_rfl) (by kernel_rfl) (by kernel_rfl) (fun _ _ _ h => h) (by rfl) ?_ hHeld ?_
          rotate_left
          · intro w hSw
            try dsimp only at hSw
            go_simp <;> with_reducible rfl
          try simp only [Act.put, List.setIfInBounds_toArray, List.set_cons_zero, List.set_cons_succ]
          refine takeH (d := some 83) (v := ?_) 2 rfl rfl (by kernel_rfl) (by kernel_rfl) (by kernel_rfl) (fun _ _ _ h => h) (by rfl) ?_ hHeld ?_
          rotate_left
          · intro w hSw
            try dsimp only at hSw
            go_simp <;> with_reducible rfl
          try simp only [Act.put, List.setIfInBounds_toArray, List.set_cons_zero, List.set_cons_succ]
          refine callH (d := some 82) 1 rfl rfl (by kernel_rfl) (by rfl) (by kernel_rfl) (NodesI_calls ((TA).out.below HBW.out.drew)) ?_
          rintro e u1 ⟨rfl, hB⟩
          have H1 := Aside0.mk (below_then HBW.out.drew (HBW.out.drew).size hB)
          clear hB
          refine ⟨_, rfl, OK.out _ H1.out, fun hHeld => ?_⟩
          try simp only [Act.put, List.setIfInBounds_toArray, List.set_cons_zero, List.set_cons_succ]
          refine callH (d := some 84) 3 rfl rfl (by kernel_rfl) (by rfl) (by kernel_rfl) (NodesI_calls ((TX).out.below H1.out)) ?_
          rintro e u2 ⟨rfl, hB⟩
          have H2 := Aside0.mk (below_then H1.out (H1.out).size hB)
          clear hB
          refine ⟨_, rfl, OK.out _ H2.out, fun hHeld => ?_⟩
          try simp only [Act.put, List.setIfInBounds_toArray, List.set_cons_zero, List.set_cons_succ]
          refine takeH (d := some 85) (v := .bool true) 4 rfl rfl (by kernel_rfl) (by kernel_rfl) (by kernel_rfl) (fun _ _ _ h => h) (by rfl) (fun w hSw => Eq.trans (b := Result.ok (Next.value (.bool (decide (nI a ≤ nI x)))) w) (by kernel_rfl) (by rw [P1.out])) hHeld ?_
          try simp only [Act.put, List.setIfInBounds_toArray, List.set_cons_zero, List.set_cons_succ]
          refine takeH (d := some 86) (v := ?_) 5 rfl rfl (by kernel_rfl) (by kernel_rfl) (by kernel_rfl) (fun _ _ _ h => h) (by rfl) ?_ hHeld ?_
          rotate_left
          · intro w hSw
            try dsimp only at hSw
            go_simp <;> with_reducible rfl
          try simp only [Act.put, List.setIfInBounds_toArray, List.set_cons_zero, List.set_cons_succ]
          refine takeH (d := some 87) (v := ?_) 6 rfl rfl (by kernel_rfl) (by kernel_rfl) (by kernel_rfl) (fun _ _ _ h => h) (by rfl) ?_ hHeld ?_
          rotate_left
          · intro w hSw
            try dsimp only at hSw
            go_simp <;> with_reducible rfl
          try simp only [Act.put, List.setIfInBounds_toArray, List.set_cons_zero, List.set_cons_succ]
          refine callH (d := some 88) 7 rfl rfl (by kernel_rfl) (by rfl) (by kernel_rfl) (NodesI_calls ((TA).out.below H2.out)) ?_
          rintro e u3 ⟨rfl, hB⟩
          have H3 := Aside0.mk (below_then H2.out (H2.out).size hB)
          clear hB
          refine ⟨_, rfl, OK.out _ H3.out, fun hHeld => ?_⟩
          try simp only [Act.put, List.setIfInBounds_toArray, List.set_cons_zero, List.set_cons_succ]
          refine takeH (d := some 89) (v := .bool false) 8 rfl rfl (by kernel_rfl) (by kernel_rfl) (by kernel_rfl) (fun _ _ _ h => h) (by rfl) (fun w hSw => Eq.trans (b := Result.ok (Next.value (.bool (decide (nI a ≤ 8192)))) w) (by kernel_rfl) (by rw [P2.out])) hHeld ?_
          try simp only [Act.put, List.setIfInBounds_toArray, List.set_cons_zero, List.set_cons_succ]
          refine takeH (d := some 90) (v := ?_) 9 rfl rfl (by kernel_rfl) (by kernel_rfl) (by kernel_rfl) (fun _ _ _ h => h) (by rfl) ?_ hHeld ?_
          rotate_left
          · intro w hSw
            try dsimp only at hSw
            go_simp <;> with_reducible rfl
          try simp only [Act.put, List.setIfInBounds_toArray, List.set_cons_zero, List.set_cons_succ]
          refine takeH (d := some 91) (v := ?_) 10 rfl rfl (by kernel_rfl) (by kernel_rfl) (by kernel_rfl) (fun _ _ _ h => h) (by rfl) ?_ hHeld ?_
          rotate_left
          · intro w hSw
            try dsimp only at hSw
            go_simp <;> with_reducible rfl
          try simp only [Act.put, List.setIfInBounds_toArray, List.set_cons_zero, List.set_cons_succ]
          refine takeH (d := some 92) (v := ?_) 11 rfl rfl (by kernel_rfl) (by kernel_rfl) (by kernel_rfl) (fun _ _ _ h => h) (by rfl) ?_ hHeld ?_
          rotate_left
          · intro w hSw
            try dsimp only at hSw
            go_simp <;> with_reducible rfl
          try simp only [Act.put, List.setIfInBounds_toArray, List.set_cons_zero, List.set_cons_succ]
          refine takeH (d := some 94) (v := ?_) 13 rfl rfl (by kernel_rfl) (by kernel_rfl) (by kernel_rfl) (fun _ _ _ h => h) (by rfl) ?_ hHeld ?_
          rotate_left
          · intro w hSw
            try dsimp only at hSw
            go_simp <;> with_reducible rfl
          try simp only [Act.put, List.setIfInBounds_toArray, List.set_cons_zero, List.set_cons_succ]
          refine callH (d := some 93) 12 rfl rfl (by kernel_rfl) (by rfl) (by kernel_rfl) (Depth_calls ((TA).out.below H3.out)) ?_
          rintro e u4 ⟨rfl, hB⟩
          have H4 := Aside0.mk (below_then H3.out (H3.out).size hB)
          clear hB
          refine ⟨_, rfl, OK.out _ H4.out, fun hHeld => ?_⟩
          try simp only [Act.put, List.setIfInBounds_toArray, List.set_cons_zero, List.set_cons_succ]
          refine callH (d := some 95) 14 rfl rfl (by kernel_rfl) (by rfl) (by kernel_rfl) (Depth_calls ((TX).out.below H4.out)) ?_
          rintro e u5 ⟨rfl, hB⟩
          have H5 := Aside0.mk (below_then H4.out (H4.out).size hB)
          clear hB
          refine ⟨_, rfl, OK.out _ H5.out, fun hHeld => ?_⟩
          try simp only [Act.put, List.setIfInBounds_toArray, List.set_cons_zero, List.set_cons_succ]
          refine takeH (d := some 96) (v := .bool false) 15 rfl rfl (by kernel_rfl) (by kernel_rfl) (by kernel_rfl) (fun _ _ _ h => h) (by rfl) (fun w hSw => Eq.trans (b := Result.ok (Next.value (.bool (decide (depthI a ≤ depthI x)))) w) (by kernel_rfl) (by rw [P3.out])) hHeld ?_
          try simp only [Act.put, List.setIfInBounds_toArray, List.set_cons_zero, List.set_cons_succ]
          refine takeH (d := some 97) (v := ?_) 16 rfl rfl (by kernel_rfl) (by kernel_rfl) (by kernel_rfl) (fun _ _ _ h => h) (by rfl) ?_ hHeld ?_
          rotate_left
          · intro w hSw
            try dsimp only at hSw
            go_simp <;> with_reducible rfl
          try simp only [Act.put, List.setIfInBounds_toArray, List.set_cons_zero, List.set_cons_succ]
          refine passH (d := some 98) 17 rfl rfl (by kernel_rfl) (by kernel_rfl) (by kernel_rfl) (fun _ _ _ h => h) (by rfl) hHeld ?_
          try simp only [Act.put, List.setIfInBounds_toArray, List.set_cons_zero, List.set_cons_succ]
          refine passH (d := some 99) 18 rfl rfl (by kernel_rfl) (by kernel_rfl) (by kernel_rfl) (fun _ _ _ h => h) (by rfl) hHeld ?_
          try simp only [Act.put, List.setIfInBounds_toArray, List.set_cons_zero, List.set_cons_succ]
          refine passH (d := some 100) 19 rfl rfl (by kernel_rfl) (by kernel_rfl) (by kernel_rfl) (fun _ _ _ h => h) (by rfl) hHeld ?_
          try simp only [Act.put, List.setIfInBounds_toArray, List.set_cons_zero, List.set_cons_succ]
          refine takeH (d := some 101) (v := ?_) 20 rfl rfl (by kernel_rfl) (by kernel_rfl) (by kernel_rfl) (fun _ _ _ h => h) (by rfl) ?_ hHeld ?_
          rotate_left
          · intro w hSw
            try dsimp only at hSw
            go_simp <;> with_reducible rfl
          try simp only [Act.put, List.setIfInBounds_toArray, List.set_cons_zero, List.set_cons_succ]
          refine takeH (d := some 102) (v := ?_) 21 rfl rfl (by kernel_rfl) (by kernel_rfl) (by kernel_rfl) (fun _ _ _ h => h) (by rfl) ?_ hHeld ?_
          rotate_left
          · intro w hSw
            try dsimp only at hSw
            go_simp <;> with_reducible rfl
          try simp only [Act.put, List.setIfInBounds_toArray, List.set_cons_zero, List.set_cons_succ]
          refine wpAnyH_done (by kernel_rfl) ?_ _
          replace KK := Aside0.mk (blk_below KK.out H5.out)
          replace KX := Aside0.mk (blk_below KX.out H5.out)
          replace TA := Aside0.mk (IsT.below TA.out H5.out)
          replace TX := Aside0.mk (IsT.below TX.out H5.out)
          replace BR := Aside0.mk (below_then BR.out BR.out.size H5.out)
          clear OK HBW P1 P2 P3 P4 H1 H2 H3 H4 H5
          have e0 := (blk_cell KK.out 0).trans rfl
          have e1 := (blk_cell KK.out 1).trans rfl
          simp at e0 e1
          go_wp2_with fail
          refine (Known_calls TA.out).mono ?_
          rintro e wk ⟨rfl, hB⟩
          replace KX := Aside0.mk (blk_below KX.out hB)
          replace TX := Aside0.mk (TX.out.below hB)
          replace BR := Aside0.mk (below_then BR.out BR.out.size hB)
          clear hB e0 e1 KK
          cases hka : knownB a with
          | false =>
            clear hka
            go_wp2_with fail
            go_roundw
            case rel => exact ⟨k + 1, by go_num, by omega, BR.out⟩
            case measure => simp [intOf]; omega
          | true =>
            have HX := Aside0.mk (HKN.out hka)
            clear hka
            have e2 := (blk_cell KX.out 0).trans rfl
            have e3 := (blk_cell KX.out 1).trans rfl
            simp at e2 e3
            go_wp2_with fail
            refine (Known_calls TX.out).mono ?_
            rw [HX.out]
            rintro e wk2 ⟨rfl, hB⟩
            replace BR := Aside0.mk (below_then BR.out BR.out.size hB)
            clear hB e2 e3
            go_wp2_with fail
            go_roundw
            case rel => exact ⟨k + 1, by go_num, by omega, BR.out⟩
            case measure => simp [intOf]; omega
      · by_cases hp3 : depthI a ≤ depthI x
        · have P1 := Aside0.mk (pt_len hp1)
          have P2 : True := trivial
          have P3 := Aside0.mk (pt_dle hp3)
          have P4 := Aside0.mk (pt_dbig HN.out HD.out hp3)
          clear hp1 hp3
          refine wp_region_held_drew (S := (fun w' => ((w'.cell? ⟨w.heap.size, 0, none⟩ = some (.int .i8 a.f0) ∧ w'.cell? ⟨w.heap.size, 1, none⟩ = some (.slice (some ad) a.f1.length ca)) ∧ (w'.cell? ⟨n11, 0, none⟩ = some (.int .i8 x.f0) ∧ w'.cell? ⟨n11, 1, none⟩ = some (.slice A1 x.f1.length c1))))) (by kernel_rfl) (OK.out _ HBW.out.drew) (fun hHeld => ?_)
          refine takeH (d := some 81) (v := ?_) 0 rfl rfl (by kernel_rfl) (by kernel_rfl) (by kernel_rfl) (fun _ _ _ h => h) (by rfl) ?_ hHeld ?_
          rotate_left
          · intro w hSw
            try dsimp only at hSw
            go_simp <;> with_reducible rfl
          try simp only [Act.put, List.setIfInBounds_toArray, List.set_cons_zero, List.set_cons_succ]
          refine takeH (d := some 83) (v := ?_) 2 rfl rfl (by kernel_rfl) (by kernel_rfl) (by kernel_rfl) (fun _ _ _ h => h) (by rfl) ?_ hHeld ?_
          rotate_left
          · intro w hSw
            try dsimp only at hSw
            go_simp <;> with_reducible rfl
          try simp only [Act.put, List.setIfInBounds_toArray, List.set_cons_zero, List.set_cons_succ]
          refine callH (d := some 82) 1 rfl rfl (by kernel_rfl) (by rfl) (by kernel_rfl) (NodesI_calls ((TA).out.below HBW.out.drew)) ?_
          rintro e u1 ⟨rfl, hB⟩
          have H1 := Aside0.mk (below_then HBW.out.drew (HBW.out.drew).size hB)
          clear hB
          refine ⟨_, rfl, OK.out _ H1.out, fun hHeld => ?_⟩
          try simp only [Act.put, List.setIfInBounds_toArray, List.set_cons_zero, List.set_cons_succ]
          refine callH (d := some 84) 3 rfl rfl (by kernel_rfl) (by rfl) (by kernel_rfl) (NodesI_calls ((TX).out.below H1.out)) ?_
          rintro e u2 ⟨rfl, hB⟩
          have H2 := Aside0.mk (below_then H1.out (H1.out).size hB)
          clear hB
          refine ⟨_, rfl, OK.out _ H2.out, fun hHeld => ?_⟩
          try simp only [Act.put, List.setIfInBounds_toArray, List.set_cons_zero, List.set_cons_succ]
          refine takeH (d := some 85) (v := .bool false) 4 rfl rfl (by kernel_rfl) (by kernel_rfl) (by kernel_rfl) (fun _ _ _ h => h) (by rfl) (fun w hSw => Eq.trans (b := Result.ok (Next.value (.bool (decide (nI a ≤ nI x)))) w) (by kernel_rfl) (by rw [P1.out])) hHeld ?_
          try simp only [Act.put, List.setIfInBounds_toArray, List.set_cons_zero, List.set_cons_succ]
          refine takeH (d := some 86) (v := ?_) 5 rfl rfl (by kernel_rfl) (by kernel_rfl) (by kernel_rfl) (fun _ _ _ h => h) (by rfl) ?_ hHeld ?_
          rotate_left
          · intro w hSw
            try dsimp only at hSw
            go_simp <;> with_reducible rfl
          try simp only [Act.put, List.setIfInBounds_toArray, List.set_cons_zero, List.set_cons_succ]
          refine passH (d := some 87) 6 rfl rfl (by kernel_rfl) (by kernel_rfl) (by kernel_rfl) (fun _ _ _ h => h) (by rfl) hHeld ?_
          try simp only [Act.put, List.setIfInBounds_toArray, List.set_cons_zero, List.set_cons_succ]
          refine passH (d := some 88) 7 rfl rfl (by kernel_rfl) (by kernel_rfl) (by kernel_rfl) (fun _ _ _ h => h) (by rfl) hHeld ?_
          try simp only [Act.put, List.setIfInBounds_toArray, List.set_cons_zero, List.set_cons_succ]
          refine passH (d := some 89) 8 rfl rfl (by kernel_rfl) (by kernel_rfl) (by kernel_rfl) (fun _ _ _ h => h) (by rfl) hHeld ?_
          try simp only [Act.put, List.setIfInBounds_toArray, List.set_cons_zero, List.set_cons_succ]
          refine takeH (d := some 90) (v := ?_) 9 rfl rfl (by kernel_rfl) (by kernel_rfl) (by kernel_rfl) (fun _ _ _ h => h) (by rfl) ?_ hHeld ?_
          rotate_left
          · intro w hSw
            try dsimp only at hSw
            go_simp <;> with_reducible rfl
          try simp only [Act.put, List.setIfInBounds_toArray, List.set_cons_zero, List.set_cons_succ]
          refine takeH (d := some 91) (v := ?_) 10 rfl rfl (by kernel_rfl) (by kernel_rfl) (by kernel_rfl) (fun _ _ _ h => h) (by rfl) ?_ hHeld ?_
          rotate_left
          · intro w hSw
            try dsimp only at hSw
            go_simp <;> with_reducible rfl
          try simp only [Act.put, List.setIfInBounds_toArray, List.set_cons_zero, List.set_cons_succ]
          refine takeH (d := some 92) (v := ?_) 11 rfl rfl (by kernel_rfl) (by kernel_rfl) (by kernel_rfl) (fun _ _ _ h => h) (by rfl) ?_ hHeld ?_
          rotate_left
          · intro w hSw
            try dsimp only at hSw
            go_simp <;> with_reducible rfl
          try simp only [Act.put, List.setIfInBounds_toArray, List.set_cons_zero, List.set_cons_succ]
          refine takeH (d := some 94) (v := ?_) 13 rfl rfl (by kernel_rfl) (by kernel_rfl) (by kernel_rfl) (fun _ _ _ h => h) (by rfl) ?_ hHeld ?_
          rotate_left
          · intro w hSw
            try dsimp only at hSw
            go_simp <;> with_reducible rfl
          try simp only [Act.put, List.setIfInBounds_toArray, List.set_cons_zero, List.set_cons_succ]
          refine callH (d := some 93) 12 rfl rfl (by kernel_rfl) (by rfl) (by kernel_rfl) (Depth_calls ((TA).out.below H2.out)) ?_
          rintro e u3 ⟨rfl, hB⟩
          have H3 := Aside0.mk (below_then H2.out (H2.out).size hB)
          clear hB
          refine ⟨_, rfl, OK.out _ H3.out, fun hHeld => ?_⟩
          try simp only [Act.put, List.setIfInBounds_toArray, List.set_cons_zero, List.set_cons_succ]
          refine callH (d := some 95) 14 rfl rfl (by kernel_rfl) (by rfl) (by kernel_rfl) (Depth_calls ((TX).out.below H3.out)) ?_
          rintro e u4 ⟨rfl, hB⟩
          have H4 := Aside0.mk (below_then H3.out (H3.out).size hB)
          clear hB
          refine ⟨_, rfl, OK.out _ H4.out, fun hHeld => ?_⟩
          try simp only [Act.put, List.setIfInBounds_toArray, List.set_cons_zero, List.set_cons_succ]
          refine takeH (d := some 96) (v := .bool true) 15 rfl rfl (by kernel_rfl) (by kernel_rfl) (by kernel_rfl) (fun _ _ _ h => h) (by rfl) (fun w hSw => Eq.trans (b := Result.ok (Next.value (.bool (decide (depthI a ≤ depthI x)))) w) (by kernel_rfl) (by rw [P3.out])) hHeld ?_
          try simp only [Act.put, List.setIfInBounds_toArray, List.set_cons_zero, List.set_cons_succ]
          refine takeH (d := some 97) (v := ?_) 16 rfl rfl (by kernel_rfl) (by kernel_rfl) (by kernel_rfl) (fun _ _ _ h => h) (by rfl) ?_ hHeld ?_
          rotate_left
          · intro w hSw
            try dsimp only at hSw
            go_simp <;> with_reducible rfl
          try simp only [Act.put, List.setIfInBounds_toArray, List.set_cons_zero, List.set_cons_succ]
          refine takeH (d := some 98) (v := ?_) 17 rfl rfl (by kernel_rfl) (by kernel_rfl) (by kernel_rfl) (fun _ _ _ h => h) (by rfl) ?_ hHeld ?_
          rotate_left
          · intro w hSw
            try dsimp only at hSw
            go_simp <;> with_reducible rfl
          try simp only [Act.put, List.setIfInBounds_toArray, List.set_cons_zero, List.set_cons_succ]
          refine callH (d := some 99) 18 rfl rfl (by kernel_rfl) (by rfl) (by kernel_rfl) (Depth_calls ((TA).out.below H4.out)) ?_
          rintro e u5 ⟨rfl, hB⟩
          have H5 := Aside0.mk (below_then H4.out (H4.out).size hB)
          clear hB
          refine ⟨_, rfl, OK.out _ H5.out, fun hHeld => ?_⟩
          try simp only [Act.put, List.setIfInBounds_toArray, List.set_cons_zero, List.set_cons_succ]
          refine takeH (d := some 100) (v := .bool false) 19 rfl rfl (by kernel_rfl) (by kernel_rfl) (by kernel_rfl) (fun _ _ _ h => h) (by rfl) (fun w hSw => Eq.trans (b := Result.ok (Next.value (.bool (decide (depthI a ≤ 200)))) w) (by kernel_rfl) (by rw [P4.out])) hHeld ?_
          try simp only [Act.put, List.setIfInBounds_toArray, List.set_cons_zero, List.set_cons_succ]
          refine takeH (d := some 101) (v := ?_) 20 rfl rfl (by kernel_rfl) (by kernel_rfl) (by kernel_rfl) (fun _ _ _ h => h) (by rfl) ?_ hHeld ?_
          rotate_left
          · intro w hSw
            try dsimp only at hSw
            go_simp <;> with_reducible rfl
          try simp only [Act.put, List.setIfInBounds_toArray, List.set_cons_zero, List.set_cons_succ]
          refine takeH (d := some 102) (v := ?_) 21 rfl rfl (by kernel_rfl) (by kernel_rfl) (by kernel_rfl) (fun _ _ _ h => h) (by rfl) ?_ hHeld ?_
          rotate_left
          · intro w hSw
            try dsimp only at hSw
            go_simp <;> with_reducible rfl
          try simp only [Act.put, List.setIfInBounds_toArray, List.set_cons_zero, List.set_cons_succ]
          refine wpAnyH_done (by kernel_rfl) ?_ _
          replace KK := Aside0.mk (blk_below KK.out H5.out)
          replace KX := Aside0.mk (blk_below KX.out H5.out)
          replace TA := Aside0.mk (IsT.below TA.out H5.out)
          replace TX := Aside0.mk (IsT.below TX.out H5.out)
          replace BR := Aside0.mk (below_then BR.out BR.out.size H5.out)
          clear OK HBW P1 P2 P3 P4 H1 H2 H3 H4 H5
          have e0 := (blk_cell KK.out 0).trans rfl
          have e1 := (blk_cell KK.out 1).trans rfl
          simp at e0 e1
          go_wp2_with fail
          refine (Known_calls TA.out).mono ?_
          rintro e wk ⟨rfl, hB⟩
          replace KX := Aside0.mk (blk_below KX.out hB)
          replace TX := Aside0.mk (TX.out.below hB)
          replace BR := Aside0.mk (below_then BR.out BR.out.size hB)
          clear hB e0 e1 KK
          cases hka : knownB a with
          | false =>
            clear hka
            go_wp2_with fail
            go_roundw
            case rel => exact ⟨k + 1, by go_num, by omega, BR.out⟩
            case measure => simp [intOf]; omega
          | true =>
            have HX := Aside0.mk (HKN.out hka)
            clear hka
            have e2 := (blk_cell KX.out 0).trans rfl
            have e3 := (blk_cell KX.out 1).trans rfl
            simp at e2 e3
            go_wp2_with fail
            refine (Known_calls TX.out).mono ?_
            rw [HX.out]
            rintro e wk2 ⟨rfl, hB⟩
            replace BR := Aside0.mk (below_then BR.out BR.out.size hB)
            clear hB e2 e3
            go_wp2_with fail
            go_roundw
            case rel => exact ⟨k + 1, by go_num, by omega, BR.out⟩
            case measure => simp [intOf]; omega
        · have P1 := Aside0.mk (pt_len hp1)
          have P2 : True := trivial
          have P3 := Aside0.mk (pt_dlen hp3)
          have P4 : True := trivial
          clear hp1 hp3
          refine wp_region_held_drew (S := (fun w' => ((w'.cell? ⟨w.heap.size, 0, none⟩ = some (.int .i8 a.f0) ∧ w'.cell? ⟨w.heap.size, 1, none⟩ = some (.slice (some ad) a.f1.length ca)) ∧ (w'.cell? ⟨n11, 0, none⟩ = some (.int .i8 x.f0) ∧ w'.cell? ⟨n11, 1, none⟩ = some (.slice A1 x.f1.length c1))))) (by kernel_rfl) (OK.out _ HBW.out.drew) (fun hHeld => ?_)
          refine takeH (d := some 81) (v := ?_) 0 rfl rfl (by kernel_rfl) (by kernel_rfl) (by kernel_rfl) (fun _ _ _ h => h) (by rfl) ?_ hHeld ?_
          rotate_left
          · intro w hSw
            try dsimp only at hSw
            go_simp <;> with_reducible rfl
          try simp only [Act.put, List.setIfInBounds_toArray, List.set_cons_zero, List.set_cons_succ]
          refine takeH (d := some 83) (v := ?_) 2 rfl rfl (by kernel_rfl) (by kernel_rfl) (by kernel_rfl) (fun _ _ _ h => h) (by rfl) ?_ hHeld ?_
          rotate_left
          · intro w hSw
            try dsimp only at hSw
            go_simp <;> with_reducible rfl
          try simp only [Act.put, List.setIfInBounds_toArray, List.set_cons_zero, List.set_cons_succ]
          refine callH (d := some 82) 1 rfl rfl (by kernel_rfl) (by rfl) (by kernel_rfl) (NodesI_calls ((TA).out.below HBW.out.drew)) ?_
          rintro e u1 ⟨rfl, hB⟩
          have H1 := Aside0.mk (below_then HBW.out.drew (HBW.out.drew).size hB)
          clear hB
          refine ⟨_, rfl, OK.out _ H1.out, fun hHeld => ?_⟩
          try simp only [Act.put, List.setIfInBounds_toArray, List.set_cons_zero, List.set_cons_succ]
          refine callH (d := some 84) 3 rfl rfl (by kernel_rfl) (by rfl) (by kernel_rfl) (NodesI_calls ((TX).out.below H1.out)) ?_
          rintro e u2 ⟨rfl, hB⟩
          have H2 := Aside0.mk (below_then H1.out (H1.out).size hB)
          clear hB
          refine ⟨_, rfl, OK.out _ H2.out, fun hHeld => ?_⟩
          try simp only [Act.put, List.setIfInBounds_toArray, List.set_cons_zero, List.set_cons_succ]
          refine takeH (d := some 85) (v := .bool false) 4 rfl rfl (by kernel_rfl) (by kernel_rfl) (by kernel_rfl) (fun _ _ _ h => h) (by rfl) (fun w hSw => Eq.trans (b := Result.ok (Next.value (.bool (decide (nI a ≤ nI x)))) w) (by kernel_rfl) (by rw [P1.out])) hHeld ?_
          try simp only [Act.put, List.setIfInBounds_toArray, List.set_cons_zero, List.set_cons_succ]
          refine takeH (d := some 86) (v := ?_) 5 rfl rfl (by kernel_rfl) (by kernel_rfl) (by kernel_rfl) (fun _ _ _ h => h) (by rfl) ?_ hHeld ?_
          rotate_left
          · intro w hSw
            try dsimp only at hSw
            go_simp <;> with_reducible rfl
          try simp only [Act.put, List.setIfInBounds_toArray, List.set_cons_zero, List.set_cons_succ]
          refine passH (d := some 87) 6 rfl rfl (by kernel_rfl) (by kernel_rfl) (by kernel_rfl) (fun _ _ _ h => h) (by rfl) hHeld ?_
          try simp only [Act.put, List.setIfInBounds_toArray, List.set_cons_zero, List.set_cons_succ]
          refine passH (d := some 88) 7 rfl rfl (by kernel_rfl) (by kernel_rfl) (by kernel_rfl) (fun _ _ _ h => h) (by rfl) hHeld ?_
          try simp only [Act.put, List.setIfInBounds_toArray, List.set_cons_zero, List.set_cons_succ]
          refine passH (d := some 89) 8 rfl rfl (by kernel_rfl) (by kernel_rfl) (by kernel_rfl) (fun _ _ _ h => h) (by rfl) hHeld ?_
          try simp only [Act.put, List.setIfInBounds_toArray, List.set_cons_zero, List.set_cons_succ]
          refine takeH (d := some 90) (v := ?_) 9 rfl rfl (by kernel_rfl) (by kernel_rfl) (by kernel_rfl) (fun _ _ _ h => h) (by rfl) ?_ hHeld ?_
          rotate_left
          · intro w hSw
            try dsimp only at hSw
            go_simp <;> with_reducible rfl
          try simp only [Act.put, List.setIfInBounds_toArray, List.set_cons_zero, List.set_cons_succ]
          refine takeH (d := some 91) (v := ?_) 10 rfl rfl (by kernel_rfl) (by kernel_rfl) (by kernel_rfl) (fun _ _ _ h => h) (by rfl) ?_ hHeld ?_
          rotate_left
          · intro w hSw
            try dsimp only at hSw
            go_simp <;> with_reducible rfl
          try simp only [Act.put, List.setIfInBounds_toArray, List.set_cons_zero, List.set_cons_succ]
          refine takeH (d := some 92) (v := ?_) 11 rfl rfl (by kernel_rfl) (by kernel_rfl) (by kernel_rfl) (fun _ _ _ h => h) (by rfl) ?_ hHeld ?_
          rotate_left
          · intro w hSw
            try dsimp only at hSw
            go_simp <;> with_reducible rfl
          try simp only [Act.put, List.setIfInBounds_toArray, List.set_cons_zero, List.set_cons_succ]
          refine takeH (d := some 94) (v := ?_) 13 rfl rfl (by kernel_rfl) (by kernel_rfl) (by kernel_rfl) (fun _ _ _ h => h) (by rfl) ?_ hHeld ?_
          rotate_left
          · intro w hSw
            try dsimp only at hSw
            go_simp <;> with_reducible rfl
          try simp only [Act.put, List.setIfInBounds_toArray, List.set_cons_zero, List.set_cons_succ]
          refine callH (d := some 93) 12 rfl rfl (by kernel_rfl) (by rfl) (by kernel_rfl) (Depth_calls ((TA).out.below H2.out)) ?_
          rintro e u3 ⟨rfl, hB⟩
          have H3 := Aside0.mk (below_then H2.out (H2.out).size hB)
          clear hB
          refine ⟨_, rfl, OK.out _ H3.out, fun hHeld => ?_⟩
          try simp only [Act.put, List.setIfInBounds_toArray, List.set_cons_zero, List.set_cons_succ]
          refine callH (d := some 95) 14 rfl rfl (by kernel_rfl) (by rfl) (by kernel_rfl) (Depth_calls ((TX).out.below H3.out)) ?_
          rintro e u4 ⟨rfl, hB⟩
          have H4 := Aside0.mk (below_then H3.out (H3.out).size hB)
          clear hB
          refine ⟨_, rfl, OK.out _ H4.out, fun hHeld => ?_⟩
          try simp only [Act.put, List.setIfInBounds_toArray, List.set_cons_zero, List.set_cons_succ]
          refine takeH (d := some 96) (v := .bool false) 15 rfl rfl (by kernel_rfl) (by kernel_rfl) (by kernel_rfl) (fun _ _ _ h => h) (by rfl) (fun w hSw => Eq.trans (b := Result.ok (Next.value (.bool (decide (depthI a ≤ depthI x)))) w) (by kernel_rfl) (by rw [P3.out])) hHeld ?_
          try simp only [Act.put, List.setIfInBounds_toArray, List.set_cons_zero, List.set_cons_succ]
          refine takeH (d := some 97) (v := ?_) 16 rfl rfl (by kernel_rfl) (by kernel_rfl) (by kernel_rfl) (fun _ _ _ h => h) (by rfl) ?_ hHeld ?_
          rotate_left
          · intro w hSw
            try dsimp only at hSw
            go_simp <;> with_reducible rfl
          try simp only [Act.put, List.setIfInBounds_toArray, List.set_cons_zero, List.set_cons_succ]
          refine passH (d := some 98) 17 rfl rfl (by kernel_rfl) (by kernel_rfl) (by kernel_rfl) (fun _ _ _ h => h) (by rfl) hHeld ?_
          try simp only [Act.put, List.setIfInBounds_toArray, List.set_cons_zero, List.set_cons_succ]
          refine passH (d := some 99) 18 rfl rfl (by kernel_rfl) (by kernel_rfl) (by kernel_rfl) (fun _ _ _ h => h) (by rfl) hHeld ?_
          try simp only [Act.put, List.setIfInBounds_toArray, List.set_cons_zero, List.set_cons_succ]
          refine passH (d := some 100) 19 rfl rfl (by kernel_rfl) (by kernel_rfl) (by kernel_rfl) (fun _ _ _ h => h) (by rfl) hHeld ?_
          try simp only [Act.put, List.setIfInBounds_toArray, List.set_cons_zero, List.set_cons_succ]
          refine takeH (d := some 101) (v := ?_) 20 rfl rfl (by kernel_rfl) (by kernel_rfl) (by kernel_rfl) (fun _ _ _ h => h) (by rfl) ?_ hHeld ?_
          rotate_left
          · intro w hSw
            try dsimp only at hSw
            go_simp <;> with_reducible rfl
          try simp only [Act.put, List.setIfInBounds_toArray, List.set_cons_zero, List.set_cons_succ]
          refine takeH (d := some 102) (v := ?_) 21 rfl rfl (by kernel_rfl) (by kernel_rfl) (by kernel_rfl) (fun _ _ _ h => h) (by rfl) ?_ hHeld ?_
          rotate_left
          · intro w hSw
            try dsimp only at hSw
            go_simp <;> with_reducible rfl
          try simp only [Act.put, List.setIfInBounds_toArray, List.set_cons_zero, List.set_cons_succ]
          refine wpAnyH_done (by kernel_rfl) ?_ _
          replace KK := Aside0.mk (blk_below KK.out H4.out)
          replace KX := Aside0.mk (blk_below KX.out H4.out)
          replace TA := Aside0.mk (IsT.below TA.out H4.out)
          replace TX := Aside0.mk (IsT.below TX.out H4.out)
          replace BR := Aside0.mk (below_then BR.out BR.out.size H4.out)
          clear OK HBW P1 P2 P3 P4 H1 H2 H3 H4
          have e0 := (blk_cell KK.out 0).trans rfl
          have e1 := (blk_cell KK.out 1).trans rfl
          simp at e0 e1
          go_wp2_with fail
          refine (Known_calls TA.out).mono ?_
          rintro e wk ⟨rfl, hB⟩
          replace KX := Aside0.mk (blk_below KX.out hB)
          replace TX := Aside0.mk (TX.out.below hB)
          replace BR := Aside0.mk (below_then BR.out BR.out.size hB)
          clear hB e0 e1 KK
          cases hka : knownB a with
          | false =>
            clear hka
            go_wp2_with fail
            go_roundw
            case rel => exact ⟨k + 1, by go_num, by omega, BR.out⟩
            case measure => simp [intOf]; omega
          | true =>
            have HX := Aside0.mk (HKN.out hka)
            clear hka
            have e2 := (blk_cell KX.out 0).trans rfl
            have e3 := (blk_cell KX.out 1).trans rfl
            simp at e2 e3
            go_wp2_with fail
            refine (Known_calls TX.out).mono ?_
            rw [HX.out]
            rintro e wk2 ⟨rfl, hB⟩
            replace BR := Aside0.mk (below_then BR.out BR.out.size hB)
            clear hB e2 e3
            go_wp2_with fail
            go_roundw
            case rel => exact ⟨k + 1, by go_num, by omega, BR.out⟩
            case measure => simp [intOf]; omega
    · have h9 : k = a.f1.length ∨ 5 ≤ k := by omega
      clear hk2
      by_cases h5 : k < 5
      · obtain rfl : k = a.f1.length := by omega
        go_wp2_with fail
        refine (wakes2_calls _).mono ?_
        rintro e we ⟨rfl, hB⟩
        replace BR := Aside0.mk (below_then BR.out BR.out.size hB)
        clear hB
        go_wp2_with fail
        go_ret
        exact ⟨rfl, below_then HB.out HB.out.size BR.out⟩
      · by_cases hlt : k < a.f1.length
        · go_wp2_with fail
          refine (wakes2_calls _).mono ?_
          rintro e we ⟨rfl, hB⟩
          replace BR := Aside0.mk (below_then BR.out BR.out.size hB)
          clear hB
          go_wp2_with fail
          go_ret
          exact ⟨rfl, below_then HB.out HB.out.size BR.out⟩
        · go_wp2_with fail
          refine (wakes2_calls _).mono ?_
          rintro e we ⟨rfl, hB⟩
          replace BR := Aside0.mk (below_then BR.out BR.out.size hB)
          clear hB
          go_wp2_with fail
          go_ret
          exact ⟨rfl, below_then HB.out HB.out.size BR.out⟩
end Go.Proofs.Ytamhdpllmhafhaa.X
/- The walk of the law TypesParts: a type and its parts. -/
namespace Go.Proofs.Ytamhdpllmhafhaa.X
open Go.RowKit Go.Proofs.YtamhdpllmhafhaaW.PrintWords Go.Proofs.YtamhdpllmhafhaaW.PrintLast Go.Proofs.YtamhdpllmhafhaaW.PrintMore
set_option linter.unusedVariables false
set_option linter.unusedSimpArgs false

set_option maxRecDepth 100000 in
set_option maxHeartbeats 3200000 in
theorem parts_2 (a b : S26) (w : World) (A : Option Addr) (ca : Nat) (B : Option Addr) (cb : Nat) (T0 : Aside0 (IsT w (.agg #[.int .i8 a.f0, .slice A a.f1.length ca]) a)) (T1 : Aside0 (IsT w (.agg #[.int .i8 b.f0, .slice B b.f1.length cb]) b)) (KN : Aside0 (∀ i : Nat, i < a.f1.length → knownB a = true → knownB (rd_T26 a.f1 i) = true)) (DN : Aside0 (∀ i : Nat, i < a.f1.length → depth (rd_T26 a.f1 i) < depth a)) (NN : Aside0 (∀ i : Nat, i < a.f1.length → nodes (rd_T26 a.f1 i) < nodes a)) (RF : Aside0 (sameB a a = false)) (SY : Aside0 (sameB b a = sameB a b)) (GA : Aside0 (groundT a = (z26, false))) (GG : Aside0 (groundT z26 = (z26, false))) (CK : Aside0 ((checkI a == 0) = false)) :
    Calls Try.prog 13 #[.agg #[.int .i8 a.f0, .slice A a.f1.length ca], .agg #[.int .i8 b.f0, .slice B b.f1.length cb]] w fun e w' => e = .returned (.bool true) ∧ Below w.heap.size w w' := by
  go_enter Try.func13, Try.ntmps13
  go_wp2_with fail
  refine (Check_calls (T0.out.below (below2 ..))).mono ?_
  rintro e w1 ⟨rfl, hB⟩
  obtain ⟨b1, b2, hB1⟩ := two_blocks hB
  have HB := Aside0.mk hB1
  have K1 := Aside0.mk b1
  have K2 := Aside0.mk b2
  replace T0 := Aside0.mk (IsT.below T0.out hB1)
  replace T1 := Aside0.mk (IsT.below T1.out hB1)
  clear hB hB1 b1 b2
  have ck := CK.out
  go_wp2_with fail
  clear ck
  have OK := Aside0.mk (fun w' (h : Below w1.heap.size w1 w') => (⟨c26_of K1.out h, c26_of K2.out h⟩ : ((w'.cell? ⟨w.heap.size, 0, none⟩ = some (.int .i8 a.f0) ∧ w'.cell? ⟨w.heap.size, 1, none⟩ = some (.slice A a.f1.length ca)) ∧ (w'.cell? ⟨(w.heap.size + 1), 0, none⟩ = some (.int .i8 b.f0) ∧ w'.cell? ⟨(w.heap.size + 1), 1, none⟩ = some (.slice B b.f1.length cb)))))
  have HBW := Aside0.mk (Below.refl w1.heap.size w1)
  refine wp_region_held_drew (S := (fun w' => ((w'.cell? ⟨w.heap.size, 0, none⟩ = some (.int .i8 a.f0) ∧ w'.cell? ⟨w.heap.size, 1, none⟩ = some (.slice A a.f1.length ca)) ∧ (w'.cell? ⟨(w.heap.size + 1), 0, none⟩ = some (.int .i8 b.f0) ∧ w'.cell? ⟨(w.heap.size + 1), 1, none⟩ = some (.slice B b.f1.length cb))))) (by kernel_rfl) (OK.out _ HBW.out.drew) (fun hHeld => ?_)
  refine takeH (d := some 15) (v := ?_) 0 rfl rfl (by kernel_rfl) (by kernel_rfl) (by kernel_rfl) (fun _ _ _ h => h) (by rfl) ?_ hHeld ?_
  rotate_left
  · intro w hSw
    try dsimp only at hSw
    go_simp <;> with_reducible rfl
  try simp only [Act.put, List.setIfInBounds_toArray, List.set_cons_zero, List.set_cons_succ]
  refine takeH (d := some 16) (v := ?_) 1 rfl rfl (by kernel_rfl) (by kernel_rfl) (by kernel_rfl) (fun _ _ _ h => h) (by rfl) ?_ hHeld ?_
  rotate_left
  · intro w hSw
    try dsimp only at hSw
    go_simp <;> with_reducible rfl
  try simp only [Act.put, List.setIfInBounds_toArray, List.set_cons_zero, List.set_cons_succ]
  refine takeH (d := some 18) (v := ?_) 3 rfl rfl (by kernel_rfl) (by kernel_rfl) (by kernel_rfl) (fun _ _ _ h => h) (by rfl) ?_ hHeld ?_
  rotate_left
  · intro w hSw
    try dsimp only at hSw
    go_simp <;> with_reducible rfl
  try simp only [Act.put, List.setIfInBounds_toArray, List.set_cons_zero, List.set_cons_succ]
  refine callH (d := some 17) 2 rfl rfl (by kernel_rfl) (by rfl) (by kernel_rfl) (Same_calls ((T0).out.below HBW.out.drew) ((T0).out.below HBW.out.drew)) ?_
  rw [(RF).out]
  rintro e v1 ⟨rfl, hB⟩
  have H1 := Aside0.mk (below_then HBW.out.drew (HBW.out.drew).size hB)
  clear hB
  refine ⟨_, rfl, OK.out _ H1.out, fun hHeld => ?_⟩
  try simp only [Act.put, List.setIfInBounds_toArray, List.set_cons_zero, List.set_cons_succ]
  refine takeH (d := some 19) (v := ?_) 4 rfl rfl (by kernel_rfl) (by kernel_rfl) (by kernel_rfl) (fun _ _ _ h => h) (by rfl) ?_ hHeld ?_
  rotate_left
  · intro w hSw
    try dsimp only at hSw
    go_simp <;> with_reducible rfl
  try simp only [Act.put, List.setIfInBounds_toArray, List.set_cons_zero, List.set_cons_succ]
  refine takeH (d := some 20) (v := ?_) 5 rfl rfl (by kernel_rfl) (by kernel_rfl) (by kernel_rfl) (fun _ _ _ h => h) (by rfl) ?_ hHeld ?_
  rotate_left
  · intro w hSw
    try dsimp only at hSw
    go_simp <;> with_reducible rfl
  try simp only [Act.put, List.setIfInBounds_toArray, List.set_cons_zero, List.set_cons_succ]
  refine takeH (d := some 21) (v := ?_) 6 rfl rfl (by kernel_rfl) (by kernel_rfl) (by kernel_rfl) (fun _ _ _ h => h) (by rfl) ?_ hHeld ?_
  rotate_left
  · intro w hSw
    try dsimp only at hSw
    go_simp <;> with_reducible rfl
  try simp only [Act.put, List.setIfInBounds_toArray, List.set_cons_zero, List.set_cons_succ]
  refine takeH (d := some 22) (v := ?_) 7 rfl rfl (by kernel_rfl) (by kernel_rfl) (by kernel_rfl) (fun _ _ _ h => h) (by rfl) ?_ hHeld ?_
  rotate_left
  · intro w hSw
    try dsimp only at hSw
    go_simp <;> with_reducible rfl
  try simp only [Act.put, List.setIfInBounds_toArray, List.set_cons_zero, List.set_cons_succ]
  refine takeH (d := some 24) (v := ?_) 9 rfl rfl (by kernel_rfl) (by kernel_rfl) (by kernel_rfl) (fun _ _ _ h => h) (by rfl) ?_ hHeld ?_
  rotate_left
  · intro w hSw
    try dsimp only at hSw
    go_simp <;> with_reducible rfl
  try simp only [Act.put, List.setIfInBounds_toArray, List.set_cons_zero, List.set_cons_succ]
  refine takeH (d := some 25) (v := ?_) 10 rfl rfl (by kernel_rfl) (by kernel_rfl) (by kernel_rfl) (fun _ _ _ h => h) (by rfl) ?_ hHeld ?_
  rotate_left
  · intro w hSw
    try dsimp only at hSw
    go_simp <;> with_reducible rfl
  try simp only [Act.put, List.setIfInBounds_toArray, List.set_cons_zero, List.set_cons_succ]
  refine callH (d := some 23) 8 rfl rfl (by kernel_rfl) (by rfl) (by kernel_rfl) (Same_calls ((T0).out.below H1.out) ((T1).out.below H1.out)) ?_
  rintro e v2 ⟨rfl, hB⟩
  have H2 := Aside0.mk (below_then H1.out (H1.out).size hB)
  clear hB
  refine ⟨_, rfl, OK.out _ H2.out, fun hHeld => ?_⟩
  try simp only [Act.put, List.setIfInBounds_toArray, List.set_cons_zero, List.set_cons_succ]
  refine callH (d := some 26) 11 rfl rfl (by kernel_rfl) (by rfl) (by kernel_rfl) (Same_calls ((T1).out.below H2.out) ((T0).out.below H2.out)) ?_
  rw [(SY).out]
  rintro e v3 ⟨rfl, hB⟩
  have H3 := Aside0.mk (below_then H2.out (H2.out).size hB)
  clear hB
  refine ⟨_, rfl, OK.out _ H3.out, fun hHeld => ?_⟩
  try simp only [Act.put, List.setIfInBounds_toArray, List.set_cons_zero, List.set_cons_succ]
  refine takeH (d := some 27) (v := ?_) 12 rfl rfl (by kernel_rfl) (by kernel_rfl) (by kernel_rfl) (fun _ _ _ h => h) (by rfl) ?_ hHeld ?_
  rotate_left
  · intro w hSw
    try dsimp only at hSw
    go_simp <;> with_reducible rfl
  try simp only [Act.put, List.setIfInBounds_toArray, List.set_cons_zero, List.set_cons_succ]
  refine takeH (d := some 28) (v := ?_) 13 rfl rfl (by kernel_rfl) (by kernel_rfl) (by kernel_rfl) (fun _ _ _ h => h) (by rfl) ?_ hHeld ?_
  rotate_left
  · intro w hSw
    try dsimp only at hSw
    go_simp <;> with_reducible rfl
  try simp only [Act.put, List.setIfInBounds_toArray, List.set_cons_zero, List.set_cons_succ]
  refine wpAnyH_done (by kernel_rfl) ?_ _
  replace K1 := Aside0.mk (blk_below K1.out H3.out)
  replace T0 := Aside0.mk (IsT.below T0.out H3.out)
  replace HB := Aside0.mk (below_then HB.out HB.out.size H3.out)
  clear OK HBW K2 T1 H1 H2 H3
  obtain ⟨e0, e1⟩ := c26_of K1.out (Below.refl _ _)
  have q1 := blk_lt K1.out
  go_wp2_with fail
  refine (Ground_calls T0.out).mono ?_
  rw [GA.out]
  rintro e w2 ⟨vv, rfl, ht, hB⟩
  obtain ⟨A6, c6, rfl, hl, hc⟩ := ht
  have TG := Aside0.mk (IsT.mk (k := (z26).f0) hl hc)
  rw [S26.eta] at TG
  replace K1 := Aside0.mk (blk_below K1.out hB)
  replace T0 := Aside0.mk (T0.out.below hB)
  replace HB := Aside0.mk (below_then HB.out HB.out.size hB)
  clear hB hl hc e0 e1 q1
  go_wp2_with fail
  have hB := below1 w2 #[.int .i8 (z26).f0, .slice A6 (z26).f1.length c6] 26
  have K6 := Aside0.mk (heap_alloc_new w2 (.cells #[.int .i8 (z26).f0, .slice A6 (z26).f1.length c6] 26))
  replace K1 := Aside0.mk (blk_below K1.out hB)
  replace T0 := Aside0.mk (T0.out.below hB)
  replace HB := Aside0.mk (below_then HB.out HB.out.size hB)
  replace TG := Aside0.mk (TG.out.below hB)
  clear hB
  refine (Ground_calls TG.out).mono ?_
  rw [GG.out]
  rintro e w3 ⟨vv, rfl, ht, hB⟩
  obtain ⟨A8, c8, rfl, hl, hc⟩ := ht
  have TH := Aside0.mk (IsT.mk (k := (z26).f0) hl hc)
  rw [S26.eta] at TH
  replace K1 := Aside0.mk (blk_below K1.out hB)
  replace T0 := Aside0.mk (T0.out.below hB)
  replace HB := Aside0.mk (below_then HB.out HB.out.size hB)
  replace TG := Aside0.mk (TG.out.below hB)
  replace K6 := Aside0.mk (blk_below K6.out hB)
  clear hB hl hc
  generalize w2.heap.size = n6 at *
  obtain ⟨e0, e1⟩ := c26_of K1.out (Below.refl _ _)
  have q1 := blk_lt K1.out
  have hB := below1 w3 #[.int .i8 (z26).f0, .slice A8 (z26).f1.length c8] 26
  replace K1 := Aside0.mk (blk_below K1.out hB)
  replace T0 := Aside0.mk (T0.out.below hB)
  replace HB := Aside0.mk (below_then HB.out HB.out.size hB)
  clear hB
  go_upto_region 9 with fail
  try clear d0
  generalize w3.alloc (.cells #[.int .i8 (z26).f0, .slice A8 (z26).f1.length c8] 26) = w5 at *
  clear e0 e1 q1
  have HR := Aside0.mk (T0.out.C)
  go_loopw [10] (fun i wr => ∃ k : Nat, i = .int .i64 k ∧ k ≤ a.f1.length ∧ Below w5.heap.size w5 wr) (fun i _ => a.f1.length - (intOf i).toNat)
  case atStart => exact ⟨0, rfl, Nat.zero_le _, Below.refl _ _⟩
  case round =>
    obtain ⟨k, rfl, hk, hB⟩ := hrel
    have BR := Aside0.mk hB
    clear hB
    have KK := Aside0.mk (blk_below K1.out BR.out)
    have e0 := (blk_cell KK.out 0).trans rfl
    have e1 := (blk_cell KK.out 1).trans rfl
    simp at e0 e1
    have hmax := HR.out.2.1
    by_cases hk2 : k < a.f1.length ∧ k < 5
    · obtain ⟨hlt, h5⟩ := hk2
      obtain ⟨ad, A1, c1, hA, hx0, hx1, hl1, hi1⟩ := at_T26 HR.out (k : Int) (by omega) (by omega)
      obtain rfl := hA
      have hd := DN.out k hlt
      have hn := NN.out k hlt
      have hkn := KN.out k hlt
      have hy0 := (BR.out.cell (World.block_lt_of_cell? _ _ hx0)).trans hx0
      have hy1 := (BR.out.cell (World.block_lt_of_cell? _ _ hx1)).trans hx1
      generalize hel : rd_T26 a.f1 (k : Int) = x at *
      have TX := Aside0.mk ((IsT.mk (k := x.f0) hl1 hi1).below BR.out)
      rw [S26.eta] at TX
      have HD := Aside0.mk hd
      have HN := Aside0.mk hn
      have HKN := Aside0.mk hkn
      simp only [Int.toNat_natCast] at hy0 hy1
      clear hx0 hx1 hl1 hi1 hel hd hn hkn
      go_wp2_with fail
      have hB := below1 wr #[.int .i8 x.f0, .slice A1 x.f1.length c1] 26
      have KX := Aside0.mk (heap_alloc_new wr (.cells #[.int .i8 x.f0, .slice A1 x.f1.length c1] 26))
      have TA := Aside0.mk ((T0.out.below BR.out).below hB)
      replace TX := Aside0.mk (TX.out.below hB)
      replace KK := Aside0.mk (blk_below KK.out hB)
      replace BR := Aside0.mk (below_then BR.out BR.out.size hB)
      clear hB hy0 hy1 e0 e1
      generalize wr.heap.size = n11 at *
      generalize wr.alloc (.cells #[.int .i8 x.f0, .slice A1 x.f1.length c1] 26) = W at *
      have OK := Aside0.mk (fun w' (h : Below W.heap.size W w') => (⟨c26_of KK.out h, c26_of KX.out h⟩ : ((w'.cell? ⟨w.heap.size, 0, none⟩ = some (.int .i8 a.f0) ∧ w'.cell? ⟨w.heap.size, 1, none⟩ = some (.slice (some ad) a.f1.length ca)) ∧ (w'.cell? ⟨n11, 0, none⟩ = some (.int .i8 x.f0) ∧ w'.cell? ⟨n11, 1, none⟩ = some (.slice A1 x.f1.length c1)))))
      have HBW := Aside0.mk (Below.refl W.heap.size W)
      by_cases hp1 : nI a ≤ nI x
      · by_cases hp3 : depthI a ≤ depthI x
        · have P1 := Aside0.mk (pt_le hp1)
          have P2 := Aside0.mk (pt_big HN.out hp1)
          have P3 := Aside0.mk (pt_dle hp3)
          have P4 := Aside0.mk (pt_dbig HN.out HD.out hp3)
          clear hp1 hp3
          refine wp_region_held_drew (S := (fun w' => ((w'.cell? ⟨w.heap.size, 0, none⟩ = some (.int .i8 a.f0) ∧ w'.cell? ⟨w.heap.size, 1, none⟩ = some (.slice (some ad) a.f1.length ca)) ∧ (w'.cell? ⟨n11, 0, none⟩ = some (.int .i8 x.f0) ∧ w'.cell? ⟨n11, 1, none⟩ = some (.slice A1 x.f1.length c1))))) (by kernel_rfl) (OK.out _ HBW.out.drew) (fun hHeld => ?_)
          refine takeH (d := some 81) (v := ?_) 0 rfl rfl (by kernel_rfl) (by kernel_rfl) (by kernel_rfl) (fun _ _ _ h => h) (by rfl) ?_ hHeld ?_
          rotate_left
          · intro w hSw
            try dsimp only at hSw
            go_simp <;> with_reducible rfl
          try simp only [Act.put, List.setIfInBounds_toArray, List.set_cons_zero, List.set_cons_succ]
          refine takeH (d := some 83) (v := ?_) 2 rfl rfl (by kernel_rfl) (by kernel_rfl) (by kernel_rfl) (fun _ _ _ h => h) (by rfl) ?_ hHeld ?_
          rotate_left
          · intro w hSw
            try dsimp only at hSw
            go_simp <;> with_reducible rfl
          try simp only [Act.put, List.setIfInBounds_toArray, List.set_cons_zero, List.set_cons_succ]
          refine callH (d := some 82) 1 rfl rfl (by kernel_rfl) (by rfl) (by kernel_rfl) (NodesI_calls ((TA).out.below HBW.out.drew)) ?_
          rintro e u1 ⟨rfl, hB⟩
          have H1 := Aside0.mk (below_then HBW.out.drew (HBW.out.drew).size hB)
          clear hB
          refine ⟨_, rfl, OK.out _ H1.out, fun hHeld => ?_⟩
          try simp only [Act.put, List.setIfInBounds_toArray, List.set_cons_zero, List.set_cons_succ]
          refine callH (d := some 84) 3 rfl rfl (by kernel_rfl) (by rfl) (by kernel_rfl) (NodesI_calls ((TX).out.below H1.out)) ?_
          rintro e u2 ⟨rfl, hB⟩
          have H2 := Aside0.mk (below_then H1.out (H1.out).size hB)
          clear hB
          refine ⟨_, rfl, OK.out _ H2.out, fun hHeld => ?_⟩
          try simp only [Act.put, List.setIfInBounds_toArray, List.set_cons_zero, List.set_cons_succ]
          refine takeH (d := some 85) (v := .bool true) 4 rfl rfl (by kernel_rfl) (by kernel_rfl) (by kernel_rfl) (fun _ _ _ h => h) (by rfl) (fun w hSw => Eq.trans (b := Result.ok (Next.value (.bool (decide (nI a ≤ nI x)))) w) (by kernel_rfl) (by rw [P1.out])) hHeld ?_
          try simp only [Act.put, List.setIfInBounds_toArray, List.set_cons_zero, List.set_cons_succ]
          refine takeH (d := some 86) (v := ?_) 5 rfl rfl (by kernel_rfl) (by kernel_rfl) (by kernel_rfl) (fun _ _ _ h => h) (by rfl) ?_ hHeld ?_
          rotate_left
          · intro w hSw
            try dsimp only at hSw
            go_simp <;> with_reducible rfl
          try simp only [Act.put, List.setIfInBounds_toArray, List.set_cons_zero, List.set_cons_succ]
          refine takeH (d := some 87) (v := ?_) 6 rfl rfl (by kernel_rfl) (by kernel_rfl) (by kernel_rfl) (fun _ _ _ h => h) (by rfl) ?_ hHeld ?_
          rotate_left
          · intro w hSw
            try dsimp only at hSw
            go_simp <;> with_reducible rfl
          try simp only [Act.put, List.setIfInBounds_toArray, List.set_cons_zero, List.set_cons_succ]
          refine callH (d := some 88) 7 rfl rfl (by kernel_rfl) (by rfl) (by kernel_rfl) (NodesI_calls ((TA).out.below H2.out)) ?_
          rintro e u3 ⟨rfl, hB⟩
          have H3 := Aside0.mk (below_then H2.out (H2.out).size hB)
          clear hB
          refine ⟨_, rfl, OK.out _ H3.out, fun hHeld => ?_⟩
          try simp only [Act.put, List.setIfInBounds_toArray, List.set_cons_zero, List.set_cons_succ]
          refine takeH (d := some 89) (v := .bool false) 8 rfl rfl (by kernel_rfl) (by kernel_rfl) (by kernel_rfl) (fun _ _ _ h => h) (by rfl) (fun w hSw => Eq.trans (b := Result.ok (Next.value (.bool (decide (nI a ≤ 8192)))) w) (by kernel_rfl) (by rw [P2.out])) hHeld ?_
          try simp only [Act.put, List.setIfInBounds_toArray, List.set_cons_zero, List.set_cons_succ]
          refine takeH (d := some 90) (v := ?_) 9 rfl rfl (by kernel_rfl) (by kernel_rfl) (by kernel_rfl) (fun _ _ _ h => h) (by rfl) ?_ hHeld ?_
          rotate_left
          · intro w hSw
            try dsimp only at hSw
            go_simp <;> with_reducible rfl
          try simp only [Act.put, List.setIfInBounds_toArray, List.set_cons_zero, List.set_cons_succ]
          refine takeH (d := some 91) (v := ?_) 10 rfl rfl (by kernel_rfl) (by kernel_rfl) (by kernel_rfl) (fun _ _ _ h => h) (by rfl) ?_ hHeld ?_
          rotate_left
          · intro w hSw
            try dsimp only at hSw
            go_simp <;> with_reducible rfl
          try simp only [Act.put, List.setIfInBounds_toArray, List.set_cons_zero, List.set_cons_succ]
          refine takeH (d := some 92) (v := ?_) 11 rfl rfl (by kernel_rfl) (by kernel_rfl) (by kernel_rfl) (fun _ _ _ h => h) (by rfl) ?_ hHeld ?_
          rotate_left
          · intro w hSw
            try dsimp only at hSw
            go_simp <;> with_reducible rfl
          try simp only [Act.put, List.setIfInBounds_toArray, List.set_cons_zero, List.set_cons_succ]
          refine takeH (d := some 94) (v := ?_) 13 rfl rfl (by kernel_rfl) (by kernel_rfl) (by kernel_rfl) (fun _ _ _ h => h) (by rfl) ?_ hHeld ?_
          rotate_left
          · intro w hSw
            try dsimp only at hSw
            go_simp <;> with_reducible rfl
          try simp only [Act.put, List.setIfInBounds_toArray, List.set_cons_zero, List.set_cons_succ]
          refine callH (d := some 93) 12 rfl rfl (by kernel_rfl) (by rfl) (by kernel_rfl) (Depth_calls ((TA).out.below H3.out)) ?_
          rintro e u4 ⟨rfl, hB⟩
          have H4 := Aside0.mk (below_then H3.out (H3.out).size hB)
          clear hB
          refine ⟨_, rfl, OK.out _ H4.out, fun hHeld => ?_⟩
          try simp only [Act.put, List.setIfInBounds_toArray, List.set_cons_zero, List.set_cons_succ]
          refine callH (d := some 95) 14 rfl rfl (by kernel_rfl) (by rfl) (by kernel_rfl) (Depth_calls ((TX).out.below H4.out)) ?_
          rintro e u5 ⟨rfl, hB⟩
          have H5 := Aside0.mk (below_then H4.out (H4.out).size hB)
          clear hB
          refine ⟨_, rfl, OK.out _ H5.out, fun hHeld => ?_⟩
          try simp only [Act.put, List.setIfInBounds_toArray, List.set_cons_zero, List.set_cons_succ]
          refine takeH (d := some 96) (v := .bool true) 15 rfl rfl (by kernel_rfl) (by kernel_rfl) (by kernel_rfl) (fun _ _ _ h => h) (by rfl) (fun w hSw => Eq.trans (b := Result.ok (Next.value (.bool (decide (depthI a ≤ depthI x)))) w) (by kernel_rfl) (by rw [P3.out])) hHeld ?_
          try simp only [Act.put, List.setIfInBounds_toArray, List.set_cons_zero, List.set_cons_succ]
          refine takeH (d := some 97) (v := ?_) 16 rfl rfl (by kernel_rfl) (by kernel_rfl) (by kernel_rfl) (fun _ _ _ h => h) (by rfl) ?_ hHeld ?_
          rotate_left
          · intro w hSw
            try dsimp only at hSw
            go_simp <;> with_reducible rfl
          try simp only [Act.put, List.setIfInBounds_toArray, List.set_cons_zero, List.set_cons_succ]
          refine takeH (d := some 98) (v := ?_) 17 rfl rfl (by kernel_rfl) (by kernel_rfl) (by kernel_rfl) (fun _ _ _ h => h) (by rfl) ?_ hHeld ?_
          rotate_left
          · intro w hSw
            try dsimp only at hSw
            go_simp <;> with_reducible rfl
          try simp only [Act.put, List.setIfInBounds_toArray, List.set_cons_zero, List.set_cons_succ]
          refine callH (d := some 99) 18 rfl rfl (by kernel_rfl) (by rfl) (by kernel_rfl) (Depth_calls ((TA).out.below H5.out)) ?_
          rintro e u6 ⟨rfl, hB⟩
          have H6 := Aside0.mk (below_then H5.out (H5.out).size hB)
          clear hB
          refine ⟨_, rfl, OK.out _ H6.out, fun hHeld => ?_⟩
          try simp only [Act.put, List.setIfInBounds_toArray, List.set_cons_zero, List.set_cons_succ]
          refine takeH (d := some 100) (v := .bool false) 19 rfl rfl (by kernel_rfl) (by kernel_rfl) (by kernel_rfl) (fun _ _ _ h => h) (by rfl) (fun w hSw => Eq.trans (b := Result.ok (Next.value (.bool (decide (depthI a ≤ 200)))) w) (by kernel_rfl) (by rw [P4.out])) hHeld ?_
          try simp only [Act.put, List.setIfInBounds_toArray, List.set_cons_zero, List.set_cons_succ]
          refine takeH (d := some 101) (v := ?_) 20 rfl rfl (by kernel_rfl) (by kernel_rfl) (by kernel_rfl) (fun _ _ _ h => h) (by rfl) ?_ hHeld ?_
          rotate_left
          · intro w hSw
            try dsimp only at hSw
            go_simp <;> with_reducible rfl
          try simp only [Act.put, List.setIfInBounds_toArray, List.set_cons_zero, List.set_cons_succ]
          refine takeH (d := some 102) (v := ?_) 21 rfl rfl (by kernel_rfl) (by kernel_rfl) (by kernel_rfl) (fun _ _ _ h => h) (by rfl) ?_ hHeld ?_
          rotate_left
          · intro w hSw
            try dsimp only at hSw
            go_simp <;> with_reducible rfl
          try simp only [Act.put, List.setIfInBounds_toArray, List.set_cons_zero, List.set_cons_succ]
          refine wpAnyH_done (by kernel_rfl) ?_ _
          replace KK := Aside0.mk (blk_below KK.out H6.out)
          replace KX := Aside0.mk (blk_below KX.out H6.out)
          replace TA := Aside0.mk (IsT.below TA.out H6.out)
          replace TX := Aside0.mk (IsT.below TX.out H6.out)
          replace BR := Aside0.mk (below_then BR.out BR.out.size H6.out)
          clear OK HBW P1 P2 P3 P4 H1 H2 H3 H4 H5 H6
          have e0 := (blk_cell KK.out 0).trans rfl
          have e1 := (blk_cell KK.out 1).trans rfl
          simp at e0 e1
          go_wp2_with fail
          refine (Known_calls TA.out).mono ?_
          rintro e wk ⟨rfl, hB⟩
          replace KX := Aside0.mk (blk_below KX.out hB)
          replace TX := Aside0.mk (TX.out.below hB)
          replace BR := Aside0.mk (below_then BR.out BR.out.size hB)
          clear hB e0 e1 KK
          cases hka : knownB a with
          | false =>
            clear hka
            go_wp2_with fail
            go_roundw
            case rel => exact ⟨k + 1, by go_num, by omega, BR.out⟩
            case measure => simp [intOf]; omega
          | true =>
            have HX := Aside0.mk (HKN.out hka)
            clear hka
            have e2 := (blk_cell KX.out 0).trans rfl
            have e3 := (blk_cell KX.out 1).trans rfl
            simp at e2 e3
            go_wp2_with fail
            refine (Known_calls TX.out).mono ?_
            rw [HX.out]
            rintro e wk2 ⟨rfl, hB⟩
            replace BR := Aside0.mk (below_then BR.out BR.out.size hB)
            clear hB e2 e3
            go_wp2_with fail
            go_roundw
            case rel => exact ⟨k + 1, by go_num, by omega, BR.out⟩
            case measure => simp [intOf]; omega
        · have P1 := Aside0.mk (pt_le hp1)
          have P2 := Aside0.mk (pt_big HN.out hp1)
          have P3 := Aside0.mk (pt_dlen hp3)
          have P4 : True := trivial
          clear hp1 hp3
          refine wp_region_held_drew (S := (fun w' => ((w'.cell? ⟨w.heap.size, 0, none⟩ = some (.int .i8 a.f0) ∧ w'.cell? ⟨w.heap.size, 1, none⟩ = some (.slice (some ad) a.f1.length ca)) ∧ (w'.cell? ⟨n11, 0, none⟩ = some (.int .i8 x.f0) ∧ w'.cell? ⟨n11, 1, none⟩ = some (.slice A1 x.f1.length c1))))) (by kernel_rfl) (OK.out _ HBW.out.drew) (fun hHeld => ?_)
          refine takeH (d := some 81) (v := ?_) 0 rfl rfl (by kernel_rfl) (by kernel_rfl) (by kernel_rfl) (fun _ _ _ h => h) (by rfl) ?_ hHeld ?_
          rotate_left
          · intro w hSw
            try dsimp only at hSw
            go_simp <;> with_reducible rfl
          try simp only [Act.put, List.setIfInBounds_toArray, List.set_cons_zero, List.set_cons_succ]
          refine takeH (d := some 83) (v := ?_) 2 rfl rfl (by kernel_rfl) (by kernel_rfl) (by kernel_rfl) (fun _ _ _ h => h) (by rfl) ?_ hHeld ?_
          rotate_left
          · intro w hSw
            try dsimp only at hSw
            go_simp <;> with_reducible rfl
          try simp only [Act.put, List.setIfInBounds_toArray, List.set_cons_zero, List.set_cons_succ]
          refine callH (d := some 82) 1 rfl rfl (by kernel_rfl) (by rfl) (by kernel_rfl) (NodesI_calls ((TA).out.below HBW.out.drew)) ?_
          rintro e u1 ⟨rfl, hB⟩
          have H1 := Aside0.mk (below_then HBW.out.drew (HBW.out.drew).size hB)
          clear hB
          refine ⟨_, rfl, OK.out _ H1.out, fun hHeld => ?_⟩
          try simp only [Act.put, List.setIfInBounds_toArray, List.set_cons_zero, List.set_cons_succ]
          refine callH (d := some 84) 3 rfl rfl (by kernel_rfl) (by rfl) (by kernel_rfl) (NodesI_calls ((TX).out.below H1.out)) ?_
          rintro e u2 ⟨rfl, hB⟩
          have H2 := Aside0.mk (below_then H1.out (H1.out).size hB)
          clear hB
          refine ⟨_, rfl, OK.out _ H2.out, fun hHeld => ?_⟩
          try simp only [Act.put, List.setIfInBounds_toArray, List.set_cons_zero, List.set_cons_succ]
          refine takeH (d := some 85) (v := .bool true) 4 rfl rfl (by kernel_rfl) (by kernel_rfl) (by kernel_rfl) (fun _ _ _ h => h) (by rfl) (fun w hSw => Eq.trans (b := Result.ok (Next.value (.bool (decide (nI a ≤ nI x)))) w) (by kernel_rfl) (by rw [P1.out])) hHeld ?_
          try simp only [Act.put, List.setIfInBounds_toArray, List.set_cons_zero, List.set_cons_succ]
          refine takeH (d := some 86) (v := ?_) 5 rfl rfl (by kernel_rfl) (by kernel_rfl) (by kernel_rfl) (fun _ _ _ h => h) (by rfl) ?_ hHeld ?_
          rotate_left
          · intro w hSw
            try dsimp only at hSw
            go_simp <;> with_reducible rfl
          try simp only [Act.put, List.setIfInBounds_toArray, List.set_cons_zero, List.set_cons_succ]
          refine takeH (d := some 87) (v := ?_) 6 rfl rfl (by kernel_rfl) (by kernel_rfl) (by kernel_rfl) (fun _ _ _ h => h) (by rfl) ?_ hHeld ?_
          rotate_left
          · intro w hSw
            try dsimp only at hSw
            go_simp <;> with_reducible rfl
          try simp only [Act.put, List.setIfInBounds_toArray, List.set_cons_zero, List.set_cons_succ]
          refine callH (d := some 88) 7 rfl rfl (by kernel_rfl) (by rfl) (by kernel_rfl) (NodesI_calls ((TA).out.below H2.out)) ?_
          rintro e u3 ⟨rfl, hB⟩
          have H3 := Aside0.mk (below_then H2.out (H2.out).size hB)
          clear hB
          refine ⟨_, rfl, OK.out _ H3.out, fun hHeld => ?_⟩
          try simp only [Act.put, List.setIfInBounds_toArray, List.set_cons_zero, List.set_cons_succ]
          refine takeH (d := some 89) (v := .bool false) 8 rfl rfl (by kernel_rfl) (by kernel_rfl) (by kernel_rfl) (fun _ _ _ h => h) (by rfl) (fun w hSw => Eq.trans (b := Result.ok (Next.value (.bool (decide (nI a ≤ 8192)))) w) (by kernel_rfl) (by rw [P2.out])) hHeld ?_
          try simp only [Act.put, List.setIfInBounds_toArray, List.set_cons_zero, List.set_cons_succ]
          refine takeH (d := some 90) (v := ?_) 9 rfl rfl (by kernel_rfl) (by kernel_rfl) (by kernel_rfl) (fun _ _ _ h => h) (by rfl) ?_ hHeld ?_
          rotate_left
          · intro w hSw
            try dsimp only at hSw
            go_simp <;> with_reducible rfl
          try simp only [Act.put, List.setIfInBounds_toArray, List.set_cons_zero, List.set_cons_succ]
          refine takeH (d := some 91) (v := ?_) 10 rfl rfl (by kernel_rfl) (by kernel_rfl) (by kernel_rfl) (fun _ _ _ h => h) (by rfl) ?_ hHeld ?_
          rotate_left
          · intro w hSw
            try dsimp only at hSw
            go_simp <;> with_reducible rfl
          try simp only [Act.put, List.setIfInBounds_toArray, List.set_cons_zero, List.set_cons_succ]
          refine takeH (d := some 92) (v := ?_) 11 rfl rfl (by kernel_rfl) (by kernel_rfl) (by kernel_rfl) (fun _ _ _ h => h) (by rfl) ?_ hHeld ?_
          rotate_left
          · intro w hSw
            try dsimp only at hSw
            go_simp <;> with_reducible rfl
          try simp only [Act.put, List.setIfInBounds_toArray, List.set_cons_zero, List.set_cons_succ]
          refine takeH (d := some 94) (v := ?_) 13 rfl rfl (by kernel_rfl) (by kernel_rfl) (by kernel_rfl) (fun _ _ _ h => h) (by rfl) ?_ hHeld ?_
          rotate_left
          · intro w hSw
            try dsimp only at hSw
            go_simp <;> with_reducible rfl
          try simp only [Act.put, List.setIfInBounds_toArray, List.set_cons_zero, List.set_cons_succ]
          refine callH (d := some 93) 12 rfl rfl (by kernel_rfl) (by rfl) (by kernel_rfl) (Depth_calls ((TA).out.below H3.out)) ?_
          rintro e u4 ⟨rfl, hB⟩
          have H4 := Aside0.mk (below_then H3.out (H3.out).size hB)
          clear hB
          refine ⟨_, rfl, OK.out _ H4.out, fun hHeld => ?_⟩
          try simp only [Act.put, List.setIfInBounds_toArray, List.set_cons_zero, List.set_cons_succ]
          refine callH (d := some 95) 14 rfl rfl (by kernel_rfl) (by rfl) (by kernel_rfl) (Depth_calls ((TX).out.below H4.out)) ?_
          rintro e u5 ⟨rfl, hB⟩
          have H5 := Aside0.mk (below_then H4.out (H4.out).size hB)
          clear hB
          refine ⟨_, rfl, OK.out _ H5.out, fun hHeld => ?_⟩
          try simp only [Act.put, List.setIfInBounds_toArray, List.set_cons_zero, List.set_cons_succ]
          refine takeH (d := some 96) (v := .bool false) 15 rfl rfl (by kernel_rfl) (by kernel_rfl) (by kernel_rfl) (fun _ _ _ h => h) (by rfl) (fun w hSw => Eq.trans (b := Result.ok (Next.value (.bool (decide (depthI a ≤ depthI x)))) w) (by kernel_rfl) (by rw [P3.out])) hHeld ?_
          try simp only [Act.put, List.setIfInBounds_toArray, List.set_cons_zero, List.set_cons_succ]
          refine takeH (d := some 97) (v := ?_) 16 rfl rfl (by kernel_rfl) (by kernel_rfl) (by kernel_rfl) (fun _ _ _ h => h) (by rfl) ?_ hHeld ?_
          rotate_left
          · intro w hSw
            try dsimp only at hSw
            go_simp <;> with_reducible rfl
          try simp only [Act.put, List.setIfInBounds_toArray, List.set_cons_zero, List.set_cons_succ]
          refine passH (d := some 98) 17 rfl rfl (by kernel_rfl) (by kernel_rfl) (by kernel_rfl) (fun _ _ _ h => h) (by rfl) hHeld ?_
          try simp only [Act.put, List.setIfInBounds_toArray, List.set_cons_zero, List.set_cons_succ]
          refine passH (d := some 99) 18 rfl rfl (by kernel_rfl) (by kernel_rfl) (by kernel_rfl) (fun _ _ _ h => h) (by rfl) hHeld ?_
          try simp only [Act.put, List.setIfInBounds_toArray, List.set_cons_zero, List.set_cons_succ]
          refine passH (d := some 100) 19 rfl rfl (by kernel_rfl) (by kernel_rfl) (by kernel_rfl) (fun _ _ _ h => h) (by rfl) hHeld ?_
          try simp only [Act.put, List.setIfInBounds_toArray, List.set_cons_zero, List.set_cons_succ]
          refine takeH (d := some 101) (v := ?_) 20 rfl rfl (by kernel_rfl) (by kernel_rfl) (by kernel_rfl) (fun _ _ _ h => h) (by rfl) ?_ hHeld ?_
          rotate_left
          · intro w hSw
            try dsimp only at hSw
            go_simp <;> with_reducible rfl
          try simp only [Act.put, List.setIfInBounds_toArray, List.set_cons_zero, List.set_cons_succ]
          refine takeH (d := some 102) (v := ?_) 21 rfl rfl (by kernel_rfl) (by kernel_rfl) (by kernel_rfl) (fun _ _ _ h => h) (by rfl) ?_ hHeld ?_
          rotate_left
          · intro w hSw
            try dsimp only at hSw
            go_simp <;> with_reducible rfl
          try simp only [Act.put, List.setIfInBounds_toArray, List.set_cons_zero, List.set_cons_succ]
          refine wpAnyH_done (by kernel_rfl) ?_ _
          replace KK := Aside0.mk (blk_below KK.out H5.out)
          replace KX := Aside0.mk (blk_below KX.out H5.out)
          replace TA := Aside0.mk (IsT.below TA.out H5.out)
          replace TX := Aside0.mk (IsT.below TX.out H5.out)
          replace BR := Aside0.mk (below_then BR.out BR.out.size H5.out)
          clear OK HBW P1 P2 P3 P4 H1 H2 H3 H4 H5
          have e0 := (blk_cell KK.out 0).trans rfl
          have e1 := (blk_cell KK.out 1).trans rfl
          simp at e0 e1
          go_wp2_with fail
          refine (Known_calls TA.out).mono ?_
          rintro e wk ⟨rfl, hB⟩
          replace KX := Aside0.mk (blk_below KX.out hB)
          replace TX := Aside0.mk (TX.out.below hB)
          replace BR := Aside0.mk (below_then BR.out BR.out.size hB)
          clear hB e0 e1 KK
          cases hka : knownB a with
          | false =>
            clear hka
            go_wp2_with fail
            go_roundw
            case rel => exact ⟨k + 1, by go_num, by omega, BR.out⟩
            case measure => simp [intOf]; omega
          | true =>
            have HX := Aside0.mk (HKN.out hka)
            clear hka
            have e2 := (blk_cell KX.out 0).trans rfl
            have e3 := (blk_cell KX.out 1).trans rfl
            simp at e2 e3
            go_wp2_with fail
            refine (Known_calls TX.out).mono ?_
            rw [HX.out]
            rintro e wk2 ⟨rfl, hB⟩
            replace BR := Aside0.mk (below_then BR.out BR.out.size hB)
            clear hB e2 e3
            go_wp2_with fail
            go_roundw
            case rel => exact ⟨k + 1, by go_num, by omega, BR.out⟩
            case measure => simp [intOf]; omega
      · by_cases hp3 : depthI a ≤ depthI x
        · have P1 := Aside0.mk (pt_len hp1)
          have P2 : True := trivial
          have P3 := Aside0.mk (pt_dle hp3)
          have P4 := Aside0.mk (pt_dbig HN.out HD.out hp3)
          clear hp1 hp3
          refine wp_region_held_drew (S := (fun w' => ((w'.cell? ⟨w.heap.size, 0, none⟩ = some (.int .i8 a.f0) ∧ w'.cell? ⟨w.heap.size, 1, none⟩ = some (.slice (some ad) a.f1.length ca)) ∧ (w'.cell? ⟨n11, 0, none⟩ = some (.int .i8 x.f0) ∧ w'.cell? ⟨n11, 1, none⟩ = some (.slice A1 x.f1.length c1))))) (by kernel_rfl) (OK.out _ HBW.out.drew) (fun hHeld => ?_)
          refine takeH (d := some 81) (v := ?_) 0 rfl rfl (by kernel_rfl) (by kernel_rfl) (by kernel_rfl) (fun _ _ _ h => h) (by rfl) ?_ hHeld ?_
          rotate_left
          · intro w hSw
            try dsimp only at hSw
            go_simp <;> with_reducible rfl
          try simp only [Act.put, List.setIfInBounds_toArray, List.set_cons_zero, List.set_cons_succ]
          refine takeH (d := some 83) (v := ?_) 2 rfl rfl (by kernel_rfl) (by kernel_rfl) (by kernel_rfl) (fun _ _ _ h => h) (by rfl) ?_ hHeld ?_
          rotate_left
          · intro w hSw
            try dsimp only at hSw
            go_simp <;> with_reducible rfl
          try simp only [Act.put, List.setIfInBounds_toArray, List.set_cons_zero, List.set_cons_succ]
          refine callH (d := some 82) 1 rfl rfl (by kernel_rfl) (by rfl) (by kernel_rfl) (NodesI_calls ((TA).out.below HBW.out.drew)) ?_
          rintro e u1 ⟨rfl, hB⟩
          have H1 := Aside0.mk (below_then HBW.out.drew (HBW.out.drew).size hB)
          clear hB
          refine ⟨_, rfl, OK.out _ H1.out, fun hHeld => ?_⟩
          try simp only [Act.put, List.setIfInBounds_toArray, List.set_cons_zero, List.set_cons_succ]
          refine callH (d := some 84) 3 rfl rfl (by kernel_rfl) (by rfl) (by kernel_rfl) (NodesI_calls ((TX).out.below H1.out)) ?_
          rintro e u2 ⟨rfl, hB⟩
          have H2 := Aside0.mk (below_then H1.out (H1.out).size hB)
          clear hB
          refine ⟨_, rfl, OK.out _ H2.out, fun hHeld => ?_⟩
          try simp only [Act.put, List.setIfInBounds_toArray, List.set_cons_zero, List.set_cons_succ]
          refine takeH (d := some 85) (v := .bool false) 4 rfl rfl (by kernel_rfl) (by kernel_rfl) (by kernel_rfl) (fun _ _ _ h => h) (by rfl) (fun w hSw => Eq.trans (b := Result.ok (Next.value (.bool (decide (nI a ≤ nI x)))) w) (by kernel_rfl) (by rw [P1.out])) hHeld ?_
          try simp only [Act.put, List.setIfInBounds_toArray, List.set_cons_zero, List.set_cons_succ]
          refine takeH (d := some 86) (v := ?_) 5 rfl rfl (by kernel_rfl) (by kernel_rfl) (by kernel_rfl) (fun _ _ _ h => h) (by rfl) ?_ hHeld ?_
          rotate_left
          · intro w hSw
            try dsimp only at hSw
            go_simp <;> with_reducible rfl
          try simp only [Act.put, List.setIfInBounds_toArray, List.set_cons_zero, List.set_cons_succ]
          refine passH (d := some 87) 6 rfl rfl (by kernel_rfl) (by kernel_rfl) (by kernel_rfl) (fun _ _ _ h => h) (by rfl) hHeld ?_
          try simp only [Act.put, List.setIfInBounds_toArray, List.set_cons_zero, List.set_cons_succ]
          refine passH (d := some 88) 7 rfl rfl (by kernel_rfl) (by kernel_rfl) (by kernel_rfl) (fun _ _ _ h => h) (by rfl) hHeld ?_
          try simp only [Act.put, List.setIfInBounds_toArray, List.set_cons_zero, List.set_cons_succ]
          refine passH (d := some 89) 8 rfl rfl (by kernel_rfl) (by kernel_rfl) (by kernel_rfl) (fun _ _ _ h => h) (by rfl) hHeld ?_
          try simp only [Act.put, List.setIfInBounds_toArray, List.set_cons_zero, List.set_cons_succ]
          refine takeH (d := some 90) (v := ?_) 9 rfl rfl (by kernel_rfl) (by kernel_rfl) (by kernel_rfl) (fun _ _ _ h => h) (by rfl) ?_ hHeld ?_
          rotate_left
          · intro w hSw
            try dsimp only at hSw
            go_simp <;> with_reducible rfl
          try simp only [Act.put, List.setIfInBounds_toArray, List.set_cons_zero, List.set_cons_succ]
          refine takeH (d := some 91) (v := ?_) 10 rfl rfl (by kernel_rfl) (by kernel_rfl) (by kernel_rfl) (fun _ _ _ h => h) (by rfl) ?_ hHeld ?_
          rotate_left
          · intro w hSw
            try dsimp only at hSw
            go_simp <;> with_reducible rfl
          try simp only [Act.put, List.setIfInBounds_toArray, List.set_cons_zero, List.set_cons_succ]
          refine takeH (d := some 92) (v := ?_) 11 rfl rfl (by kernel_rfl) (by kernel_rfl) (by kernel_rfl) (fun _ _ _ h => h) (by rfl) ?_ hHeld ?_
          rotate_left
          · intro w hSw
            try dsimp only at hSw
            go_simp <;> with_reducible rfl
          try simp only [Act.put, List.setIfInBounds_toArray, List.set_cons_zero, List.set_cons_succ]
          refine takeH (d := some 94) (v := ?_) 13 rfl rfl (by kernel_rfl) (by kernel_rfl) (by kernel_rfl) (fun _ _ _ h => h) (by rfl) ?_ hHeld ?_
          rotate_left
          · intro w hSw
            try dsimp only at hSw
            go_simp <;> with_reducible rfl
          try simp only [Act.put, List.setIfInBounds_toArray, List.set_cons_zero, List.set_cons_succ]
          refine callH (d := some 93) 12 rfl rfl (by kernel_rfl) (by rfl) (by kernel_rfl) (Depth_calls ((TA).out.below H2.out)) ?_
          rintro e u3 ⟨rfl, hB⟩
          have H3 := Aside0.mk (below_then H2.out (H2.out).size hB)
          clear hB
          refine ⟨_, rfl, OK.out _ H3.out, fun hHeld => ?_⟩
          try simp only [Act.put, List.setIfInBounds_toArray, List.set_cons_zero, List.set_cons_succ]
          refine callH (d := some 95) 14 rfl rfl (by kernel_rfl) (by rfl) (by kernel_rfl) (Depth_calls ((TX).out.below H3.out)) ?_
          rintro e u4 ⟨rfl, hB⟩
          have H4 := Aside0.mk (below_then H3.out (H3.out).size hB)
          clear hB
          refine ⟨_, rfl, OK.out _ H4.out, fun hHeld => ?_⟩
          try simp only [Act.put, List.setIfInBounds_toArray, List.set_cons_zero, List.set_cons_succ]
          refine takeH (d := some 96) (v := .bool true) 15 rfl rfl (by kernel_rfl) (by kernel_rfl) (by kernel_rfl) (fun _ _ _ h => h) (by rfl) (fun w hSw => Eq.trans (b := Result.ok (Next.value (.bool (decide (depthI a ≤ depthI x)))) w) (by kernel_rfl) (by rw [P3.out])) hHeld ?_
          try simp only [Act.put, List.setIfInBounds_toArray, List.set_cons_zero, List.set_cons_succ]
          refine takeH (d := some 97) (v := ?_) 16 rfl rfl (by kernel_rfl) (by kernel_rfl) (by kernel_rfl) (fun _ _ _ h => h) (by rfl) ?_ hHeld ?_
          rotate_left
          · intro w hSw
            try dsimp only at hSw
            go_simp <;> with_reducible rfl
          try simp only [Act.put, List.setIfInBounds_toArray, List.set_cons_zero, List.set_cons_succ]
          refine takeH (d := some 98) (v := ?_) 17 rfl rfl (by kernel_rfl) (by kernel_rfl) (by kernel_rfl) (fun _ _ _ h => h) (by rfl) ?_ hHeld ?_
          rotate_left
          · intro w hSw
            try dsimp only at hSw
            go_simp <;> with_reducible rfl
          try simp only [Act.put, List.setIfInBounds_toArray, List.set_cons_zero, List.set_cons_succ]
          refine callH (d := some 99) 18 rfl rfl (by kernel_rfl) (by rfl) (by kernel_rfl) (Depth_calls ((TA).out.below H4.out)) ?_
          rintro e u5 ⟨rfl, hB⟩
          have H5 := Aside0.mk (below_then H4.out (H4.out).size hB)
          clear hB
          refine ⟨_, rfl, OK.out _ H5.out, fun hHeld => ?_⟩
          try simp only [Act.put, List.setIfInBounds_toArray, List.set_cons_zero, List.set_cons_succ]
          refine takeH (d := some 100) (v := .bool false) 19 rfl rfl (by kernel_rfl) (by kernel_rfl) (by kernel_rfl) (fun _ _ _ h => h) (by rfl) (fun w hSw => Eq.trans (b := Result.ok (Next.value (.bool (decide (depthI a ≤ 200)))) w) (by kernel_rfl) (by rw [P4.out])) hHeld ?_
          try simp only [Act.put, List.setIfInBounds_toArray, List.set_cons_zero, List.set_cons_succ]
          refine takeH (d := some 101) (v := ?_) 20 rfl rfl (by kernel_rfl) (by kernel_rfl) (by kernel_rfl) (fun _ _ _ h => h) (by rfl) ?_ hHeld ?_
          rotate_left
          · intro w hSw
            try dsimp only at hSw
            go_simp <;> with_reducible rfl
          try simp only [Act.put, List.setIfInBounds_toArray, List.set_cons_zero, List.set_cons_succ]
          refine takeH (d := some 102) (v := ?_) 21 rfl rfl (by kernel_rfl) (by kernel_rfl) (by kernel_rfl) (fun _ _ _ h => h) (by rfl) ?_ hHeld ?_
          rotate_left
          · intro w hSw
            try dsimp only at hSw
            go_simp <;> with_reducible rfl
          try simp only [Act.put, List.setIfInBounds_toArray, List.set_cons_zero, List.set_cons_succ]
          refine wpAnyH_done (by kernel_rfl) ?_ _
          replace KK := Aside0.mk (blk_below KK.out H5.out)
          replace KX := Aside0.mk (blk_below KX.out H5.out)
          replace TA := Aside0.mk (IsT.below TA.out H5.out)
          replace TX := Aside0.mk (IsT.below TX.out H5.out)
          replace BR := Aside0.mk (below_then BR.out BR.out.size H5.out)
          clear OK HBW P1 P2 P3 P4 H1 H2 H3 H4 H5
          have e0 := (blk_cell KK.out 0).trans rfl
          have e1 := (blk_cell KK.out 1).trans rfl
          simp at e0 e1
          go_wp2_with fail
          refine (Known_calls TA.out).mono ?_
          rintro e wk ⟨rfl, hB⟩
          replace KX := Aside0.mk (blk_below KX.out hB)
          replace TX := Aside0.mk (TX.out.below hB)
          replace BR := Aside0.mk (below_then BR.out BR.out.size hB)
          clear hB e0 e1 KK
          cases hka : knownB a with
          | false =>
            clear hka
            go_wp2_with fail
            go_roundw
            case rel => exact ⟨k + 1, by go_num, by omega, BR.out⟩
            case measure => simp [intOf]; omega
          | true =>
            have HX := Aside0.mk (HKN.out hka)
            clear hka
            have e2 := (blk_cell KX.out 0).trans rfl
            have e3 := (blk_cell KX.out 1).trans rfl
            simp at e2 e3
            go_wp2_with fail
            refine (Known_calls TX.out).mono ?_
            rw [HX.out]
            rintro e wk2 ⟨rfl, hB⟩
            replace BR := Aside0.mk (below_then BR.out BR.out.size hB)
            clear hB e2 e3
            go_wp2_with fail
            go_roundw
            case rel => exact ⟨k + 1, by go_num, by omega, BR.out⟩
            case measure => simp [intOf]; omega
        · have P1 := Aside0.mk (pt_len hp1)
          have P2 : True := trivial
          have P3 := Aside0.mk (pt_dlen hp3)
          have P4 : True := trivial
          clear hp1 hp3
          refine wp_region_held_drew (S := (fun w' => ((w'.cell? ⟨w.heap.size, 0, none⟩ = some (.int .i8 a.f0) ∧ w'.cell? ⟨w.heap.size, 1, none⟩ = some (.slice (some ad) a.f1.length ca)) ∧ (w'.cell? ⟨n11, 0, none⟩ = some (.int .i8 x.f0) ∧ w'.cell? ⟨n11, 1, none⟩ = some (.slice A1 x.f1.length c1))))) (by kernel_rfl) (OK.out _ HBW.out.drew) (fun hHeld => ?_)
          refine takeH (d := some 81) (v := ?_) 0 rfl rfl (by kernel_rfl) (by kernel_rfl) (by kernel_rfl) (fun _ _ _ h => h) (by rfl) ?_ hHeld ?_
          rotate_left
          · intro w hSw
            try dsimp only at hSw
            go_simp <;> with_reducible rfl
          try simp only [Act.put, List.setIfInBounds_toArray, List.set_cons_zero, List.set_cons_succ]
          refine takeH (d := some 83) (v := ?_) 2 rfl rfl (by kernel_rfl) (by kernel_rfl) (by kernel_rfl) (fun _ _ _ h => h) (by rfl) ?_ hHeld ?_
          rotate_left
          · intro w hSw
            try dsimp only at hSw
            go_simp <;> with_reducible rfl
          try simp only [Act.put, List.setIfInBounds_toArray, List.set_cons_zero, List.set_cons_succ]
          refine callH (d := some 82) 1 rfl rfl (by kernel_rfl) (by rfl) (by kernel_rfl) (NodesI_calls ((TA).out.below HBW.out.drew)) ?_
          rintro e u1 ⟨rfl, hB⟩
          have H1 := Aside0.mk (below_then HBW.out.drew (HBW.out.drew).size hB)
          clear hB
          refine ⟨_, rfl, OK.out _ H1.out, fun hHeld => ?_⟩
          try simp only [Act.put, List.setIfInBounds_toArray, List.set_cons_zero, List.set_cons_succ]
          refine callH (d := some 84) 3 rfl rfl (by kernel_rfl) (by rfl) (by kernel_rfl) (NodesI_calls ((TX).out.below H1.out)) ?_
          rintro e u2 ⟨rfl, hB⟩
          have H2 := Aside0.mk (below_then H1.out (H1.out).size hB)
          clear hB
          refine ⟨_, rfl, OK.out _ H2.out, fun hHeld => ?_⟩
          try simp only [Act.put, List.setIfInBounds_toArray, List.set_cons_zero, List.set_cons_succ]
          refine takeH (d := some 85) (v := .bool false) 4 rfl rfl (by kernel_rfl) (by kernel_rfl) (by kernel_rfl) (fun _ _ _ h => h) (by rfl) (fun w hSw => Eq.trans (b := Result.ok (Next.value (.bool (decide (nI a ≤ nI x)))) w) (by kernel_rfl) (by rw [P1.out])) hHeld ?_
          try simp only [Act.put, List.setIfInBounds_toArray, List.set_cons_zero, List.set_cons_succ]
          refine takeH (d := some 86) (v := ?_) 5 rfl rfl (by kernel_rfl) (by kernel_rfl) (by kernel_rfl) (fun _ _ _ h => h) (by rfl) ?_ hHeld ?_
          rotate_left
          · intro w hSw
            try dsimp only at hSw
            go_simp <;> with_reducible rfl
          try simp only [Act.put, List.setIfInBounds_toArray, List.set_cons_zero, List.set_cons_succ]
          refine passH (d := some 87) 6 rfl rfl (by kernel_rfl) (by kernel_rfl) (by kernel_rfl) (fun _ _ _ h => h) (by rfl) hHeld ?_
          try simp only [Act.put, List.setIfInBounds_toArray, List.set_cons_zero, List.set_cons_succ]
          refine passH (d := some 88) 7 rfl rfl (by kernel_rfl) (by kernel_rfl) (by kernel_rfl) (fun _ _ _ h => h) (by rfl) hHeld ?_
          try simp only [Act.put, List.setIfInBounds_toArray, List.set_cons_zero, List.set_cons_succ]
          refine passH (d := some 89) 8 rfl rfl (by kernel_rfl) (by kernel_rfl) (by kernel_rfl) (fun _ _ _ h => h) (by rfl) hHeld ?_
          try simp only [Act.put, List.setIfInBounds_toArray, List.set_cons_zero, List.set_cons_succ]
          refine takeH (d := some 90) (v := ?_) 9 rfl rfl (by kernel_rfl) (by kernel_rfl) (by kernel_rfl) (fun _ _ _ h => h) (by rfl) ?_ hHeld ?_
          rotate_left
          · intro w hSw
            try dsimp only at hSw
            go_simp <;> with_reducible rfl
          try simp only [Act.put, List.setIfInBounds_toArray, List.set_cons_zero, List.set_cons_succ]
          refine takeH (d := some 91) (v := ?_) 10 rfl rfl (by kernel_rfl) (by kernel_rfl) (by kernel_rfl) (fun _ _ _ h => h) (by rfl) ?_ hHeld ?_
          rotate_left
          · intro w hSw
            try dsimp only at hSw
            go_simp <;> with_reducible rfl
          try simp only [Act.put, List.setIfInBounds_toArray, List.set_cons_zero, List.set_cons_succ]
          refine takeH (d := some 92) (v := ?_) 11 rfl rfl (by kernel_rfl) (by kernel_rfl) (by kernel_rfl) (fun _ _ _ h => h) (by rfl) ?_ hHeld ?_
          rotate_left
          · intro w hSw
            try dsimp only at hSw
            go_simp <;> with_reducible rfl
          try simp only [Act.put, List.setIfInBounds_toArray, List.set_cons_zero, List.set_cons_succ]
          refine takeH (d := some 94) (v := ?_) 13 rfl rfl (by kernel_rfl) (by kernel_rfl) (by kernel_rfl) (fun _ _ _ h => h) (by rfl) ?_ hHeld ?_
          rotate_left
          · intro w hSw
            try dsimp only at hSw
            go_simp <;> with_reducible rfl
          try simp only [Act.put, List.setIfInBounds_toArray, List.set_cons_zero, List.set_cons_succ]
          refine callH (d := some 93) 12 rfl rfl (by kernel_rfl) (by rfl) (by kernel_rfl) (Depth_calls ((TA).out.below H2.out)) ?_
          rintro e u3 ⟨rfl, hB⟩
          have H3 := Aside0.mk (below_then H2.out (H2.out).size hB)
          clear hB
          refine ⟨_, rfl, OK.out _ H3.out, fun hHeld => ?_⟩
          try simp only [Act.put, List.setIfInBounds_toArray, List.set_cons_zero, List.set_cons_succ]
          refine callH (d := some 95) 14 rfl rfl (by kernel_rfl) (by rfl) (by kernel_rfl) (Depth_calls ((TX).out.below H3.out)) ?_
          rintro e u4 ⟨rfl, hB⟩
          have H4 := Aside0.mk (below_then H3.out (H3.out).size hB)
          clear hB
          refine ⟨_, rfl, OK.out _ H4.out, fun hHeld => ?_⟩
          try simp only [Act.put, List.setIfInBounds_toArray, List.set_cons_zero, List.set_cons_succ]
          refine takeH (d := some 96) (v := .bool false) 15 rfl rfl (by kernel_rfl) (by kernel_rfl) (by kernel_rfl) (fun _ _ _ h => h) (by rfl) (fun w hSw => Eq.trans (b := Result.ok (Next.value (.bool (decide (depthI a ≤ depthI x)))) w) (by kernel_rfl) (by rw [P3.out])) hHeld ?_
          try simp only [Act.put, List.setIfInBounds_toArray, List.set_cons_zero, List.set_cons_succ]
          refine takeH (d := some 97) (v := ?_) 16 rfl rfl (by kernel_rfl) (by kernel_rfl) (by kernel_rfl) (fun _ _ _ h => h) (by rfl) ?_ hHeld ?_
          rotate_left
          · intro w hSw
            try dsimp only at hSw
            go_simp <;> with_reducible rfl
          try simp only [Act.put, List.setIfInBounds_toArray, List.set_cons_zero, List.set_cons_succ]
          refine passH (d := some 98) 17 rfl rfl (by kernel_rfl) (by kernel_rfl) (by kernel_rfl) (fun _ _ _ h => h) (by rfl) hHeld ?_
          try simp only [Act.put, List.setIfInBounds_toArray, List.set_cons_zero, List.set_cons_succ]
          refine passH (d := some 99) 18 rfl rfl (by kernel_rfl) (by kernel_rfl) (by kernel_rfl) (fun _ _ _ h => h) (by rfl) hHeld ?_
          try simp only [Act.put, List.setIfInBounds_toArray, List.set_cons_zero, List.set_cons_succ]
          refine passH (d := some 100) 19 rfl rfl (by kernel_rfl) (by kernel_rfl) (by kernel_rfl) (fun _ _ _ h => h) (by rfl) hHeld ?_
          try simp only [Act.put, List.setIfInBounds_toArray, List.set_cons_zero, List.set_cons_succ]
          refine takeH (d := some 101) (v := ?_) 20 rfl rfl (by kernel_rfl) (by kernel_rfl) (by kernel_rfl) (fun _ _ _ h => h) (by rfl) ?_ hHeld ?_
          rotate_left
          · intro w hSw
            try dsimp only at hSw
            go_simp <;> with_reducible rfl
          try simp only [Act.put, List.setIfInBounds_toArray, List.set_cons_zero, List.set_cons_succ]
          refine takeH (d := some 102) (v := ?_) 21 rfl rfl (by kernel_rfl) (by kernel_rfl) (by kernel_rfl) (fun _ _ _ h => h) (by rfl) ?_ hHeld ?_
          rotate_left
          · intro w hSw
            try dsimp only at hSw
            go_simp <;> with_reducible rfl
          try simp only [Act.put, List.setIfInBounds_toArray, List.set_cons_zero, List.set_cons_succ]
          refine wpAnyH_done (by kernel_rfl) ?_ _
          replace KK := Aside0.mk (blk_below KK.out H4.out)
          replace KX := Aside0.mk (blk_below KX.out H4.out)
          replace TA := Aside0.mk (IsT.below TA.out H4.out)
          replace TX := Aside0.mk (IsT.below TX.out H4.out)
          replace BR := Aside0.mk (below_then BR.out BR.out.size H4.out)
          clear OK HBW P1 P2 P3 P4 H1 H2 H3 H4
          have e0 := (blk_cell KK.out 0).trans rfl
          have e1 := (blk_cell KK.out 1).trans rfl
          simp at e0 e1
          go_wp2_with fail
          refine (Known_calls TA.out).mono ?_
          rintro e wk ⟨rfl, hB⟩
          replace KX := Aside0.mk (blk_below KX.out hB)
          replace TX := Aside0.mk (TX.out.below hB)
          replace BR := Aside0.mk (below_then BR.out BR.out.size hB)
          clear hB e0 e1 KK
          cases hka : knownB a with
          | false =>
            clear hka
            go_wp2_with fail
            go_roundw
            case rel => exact ⟨k + 1, by go_num, by omega, BR.out⟩
            case measure => simp [intOf]; omega
          | true =>
            have HX := Aside0.mk (HKN.out hka)
            clear hka
            have e2 := (blk_cell KX.out 0).trans rfl
            have e3 := (blk_cell KX.out 1).trans rfl
            simp at e2 e3
            go_wp2_with fail
            refine (Known_calls TX.out).mono ?_
            rw [HX.out]
            rintro e wk2 ⟨rfl, hB⟩
            replace BR := Aside0.mk (below_then BR.out BR.out.size hB)
            clear hB e2 e3
            go_wp2_with fail
            go_roundw
            case rel => exact ⟨k + 1, by go_num, by omega, BR.out⟩
            case measure => simp [intOf]; omega
    · have h9 : k = a.f1.length ∨ 5 ≤ k := by omega
      clear hk2
      by_cases h5 : k < 5
      · obtain rfl : k = a.f1.length := by omega
        go_wp2_with fail
        refine (wakes2_calls _).mono ?_
        rintro e we ⟨rfl, hB⟩
        replace BR := Aside0.mk (below_then BR.out BR.out.size hB)
        clear hB
        go_wp2_with fail
        go_ret
        exact ⟨rfl, below_then HB.out HB.out.size BR.out⟩
      · by_cases hlt : k < a.f1.length
        · go_wp2_with fail
          refine (wakes2_calls _).mono ?_
          rintro e we ⟨rfl, hB⟩
          replace BR := Aside0.mk (below_then BR.out BR.out.size hB)
          clear hB
          go_wp2_with fail
          go_ret
          exact ⟨rfl, below_then HB.out HB.out.size BR.out⟩
        · go_wp2_with fail
          refine (wakes2_calls _).mono ?_
          rintro e we ⟨rfl, hB⟩
          replace BR := Aside0.mk (below_then BR.out BR.out.size hB)
          clear hB
          go_wp2_with fail
          go_ret
          exact ⟨rfl, below_then HB.out HB.out.size BR.out⟩
end Go.Proofs.Ytamhdpllmhafhaa.X
/- The walk of the law TypesParts: a type and its parts: the same as itself, both ways; grounds of grounds; more nodes, deeper. -/
namespace Go.Proofs.Ytamhdpllmhafhaa.X
open Go.RowKit Go.Proofs.YtamhdpllmhafhaaW.PrintWords Go.Proofs.YtamhdpllmhafhaaW.PrintLast Go.Proofs.YtamhdpllmhafhaaW.PrintMore
set_option linter.unusedVariables false
set_option linter.unusedSimpArgs false

theorem typesParts_walk (u0 : Value) (a : S26) (u1 : Value) (b : S26) (w : World) (h0 : IsT w u0 a) (h1 : IsT w u1 b) :
    Calls Try.prog 13 #[u0, u1] w fun e w' => e = .returned (.bool true) ∧ Below w.heap.size w w' := by
  have T0 := Aside0.mk h0
  have T1 := Aside0.mk h1
  obtain ⟨A, ca, rfl, _, _⟩ := h0
  obtain ⟨B, cb, rfl, _, _⟩ := h1
  have KN : Aside0 (∀ i : Nat, i < a.f1.length → knownB a = true → knownB (rd_T26 a.f1 i) = true) := .mk fun i h => kid_known h
  have DN : Aside0 (∀ i : Nat, i < a.f1.length → depth (rd_T26 a.f1 i) < depth a) := .mk fun i h => by
    rw [depth_eq a]
    have := depthL_le a.f1 i h
    omega
  have NN : Aside0 (∀ i : Nat, i < a.f1.length → nodes (rd_T26 a.f1 i) < nodes a) := .mk fun i h => by
    rw [nodes_eq a]
    have := kid_nodes h
    omega
  have own := same_own a
  by_cases hc : checkI a = 0
  · rw [hc] at own
    by_cases h0 : a.f0 = 0
    · exact parts_1 a b w A ca B cb T0 T1 KN DN NN (.mk own) (.mk (same_symm a b)) (.mk (ground_no (by simp [h0]))) (.mk groundZ) (.mk hc) (.mk (by simp [h0]))
    · obtain ⟨g, g1, g2, g3, g4⟩ := ground_own hc h0
      exact parts_0 a b g w A ca B cb T0 T1 KN DN NN (.mk own) (.mk (same_symm a b)) (.mk g1) (.mk g2) (.mk hc) (.mk (by simp [h0])) (.mk g3) (of_decide_eq_true g4)
  · have e : (checkI a == 0) = false := by simp [hc]
    rw [e] at own
    exact parts_2 a b w A ca B cb T0 T1 KN DN NN (.mk own) (.mk (same_symm a b)) (.mk (ground_no (by simp [hc]))) (.mk groundZ) (.mk e)
end Go.Proofs.Ytamhdpllmhafhaa.X
