/- Texts of this claim, joined: HNodes2, HSpecR, HRread, HErr. -/
import Derived.Test.YtjmpejbciniceaaDoorProg
import Derived.WalkKit
import Derived.LaidEql
import Derived.Stop.Asserts
import Derived.RowKitTokens
import Derived.KernelRfl
import Derived.Test.YtjmpejbciniceaaDoorKTypesReads2
import Derived.Test.YtjmpejbciniceaaDoorKTypesReads3
import Derived.Test.YtjmpejbciniceaaDoorKTypesReads4
import Derived.Test.YtjmpejbciniceaaDoorKTypesReads5
import Derived.Test.YtjmpejbciniceaaDoorKTypesReads7
import Derived.Test.YtjmpejbciniceaaDoorKTypesReads9
import Derived.Test.YtjmpejbciniceaaDoorKTypesReads10
namespace Go.Proofs.YtjmpejbciniceaaDoor.X
open Go.RowKit Go.Proofs.YtjmpejbciniceaaDoorW.PrintWords Go.Proofs.YtjmpejbciniceaaDoorW.PrintLast Go.Proofs.YtjmpejbciniceaaDoorW.PrintMore
set_option linter.unusedVariables false
set_option linter.unusedSimpArgs false
theorem Nodes_calls {t : S43} {v : Value} {w : World} (h : IsT w v t) : Calls Tryd.prog 35 #[v] w fun e w' => e = .returned (.int .i64 ((min (nodes t) 8193 : Nat) : Int)) ∧ Below w.heap.size w w' := by
  obtain ⟨A, c, rfl, h1, h2⟩ := h
  exact types_Nodes.calls t.f0 A c t.f1 _ w h2 h1 (by rw [types_Nodes.f, nodes_eq])
theorem Depth_ev (k : Int) (l : List S43) : Ev (fun f => types_Depth.f f k l) (if 8192 < nodes ⟨k, l⟩ then 201 else min (depth ⟨k, l⟩ : Int) 201) := by
  unfold types_Depth.f types_Nodes.f
  rw [nodes, depth]
  by_cases h8 : 8192 < 1 + nodesL l
  · rw [if_pos h8]
    have : ((min (1 + nodesL l) 8193 : Nat) : Int) > 8192 := by omega
    simpa [this] using Ev.now _
  · rw [if_neg h8]
    have h9 : ¬ ((min (1 + nodesL l) 8193 : Nat) : Int) > 8192 := by omega
    simp only [Option.bind_some, h9, if_false]
    exact Ev.bind (deep_ev (nodesL l + 1) k l 201 (by omega) (by omega) (by omega) (by omega)) (Ev.now _)
def depthI (t : S43) : Int := if 8192 < nodes t then 201 else min (depth t : Int) 201
theorem Depth_calls {t : S43} {v : Value} {w : World} (h : IsT w v t) : Calls Tryd.prog 36 #[v] w fun e w' => e = .returned (.int .i64 (depthI t)) ∧ Below w.heap.size w w' := by
  obtain ⟨A, c, rfl, h1, h2⟩ := h
  obtain ⟨k, hk⟩ := ((Ev_eq (Depth_ev t.f0 t.f1) (by rw [S43.eta]; rfl) : Ev (fun f => types_Depth.f f t.f0 t.f1) (depthI t))).rounds
  exact types_Depth.calls k t.f0 A c t.f1 _ w h2 h1 hk
end Go.Proofs.YtjmpejbciniceaaDoor.X
namespace Go.Proofs.YtjmpejbciniceaaDoor.X
open Go.RowKit Go.Proofs.YtjmpejbciniceaaDoorW.PrintWords Go.Proofs.YtjmpejbciniceaaDoorW.PrintLast Go.Proofs.YtjmpejbciniceaaDoorW.PrintMore
set_option linter.unusedVariables false
set_option linter.unusedSimpArgs false
theorem refcount_ev (n : Nat) : ∀ (k : Int) (l : List S43) (c : Int), nodesL l < n → 0 ≤ c → c ≤ 8192 → Ev (fun f => lychgateref02_count.f f k l c) (min (c + 1 + (nodesL l : Int)) 8193) := by
  induction n with
  | zero => intro k l c h; omega
  | succ n ih =>
  intro k l c hn h0 h8
  have loop : ∀ (d i : Nat) (c : Int), i ≤ l.length → l.length - i = d → (i : Int) ≤ c → 0 ≤ c → c ≤ 8193 → Ev (fun f => lychgateref02_count.l0 f c (i : Int) k l) (min (c + (nodesL (l.drop i) : Int)) 8193) := by
    intro d
    induction d with
    | zero =>
      intro i c hi hd hic h0 h8
      refine Ev.step (f := fun _ => some c) (fun f => by simp only [lychgateref02_count.l0]; rw [if_neg (by omega)]) (Ev_eq (Ev.now _) ?_)
      rw [List.drop_eq_nil_of_le (by omega), nodesL]
      omega
    | succ d ihd =>
      intro i c hi hd hic h0 h8
      have hlt : i < l.length := by omega
      by_cases hc : c ≤ 8192
      · have hr := nodesL_rd l i hlt
        have e1 := ih (rd_T43 l i).f0 (rd_T43 l i).f1 c (by omega) (by omega) (by omega)
        have hd2 := nodesL_drop l i hlt
        rw [nodes_eq] at hd2
        have e2 := ihd (i + 1) (min (c + 1 + (nodesL (rd_T43 l i).f1 : Int)) 8193) (by omega) (by omega) (by omega) (by omega) (by omega)
        refine Ev.step (f := fun f => (lychgateref02_count.f f (rd_T43 l i).f0 (rd_T43 l i).f1 c).bind fun t => lychgateref02_count.l0 f t ((i + 1 : Nat) : Int) k l) (fun f => ?_) (Ev.bind e1 (Ev_eq e2 ?_))
        · simp only [lychgateref02_count.l0]
          rw [if_pos (by omega), if_pos hc, if_pos (by omega), w64 ((i : Int) + 1) (by omega) (by omega)]
          rfl
        · omega
      · refine Ev.step (f := fun _ => some c) (fun f => by simp only [lychgateref02_count.l0]; rw [if_pos (by omega), if_neg hc]) (Ev_eq (Ev.now _) ?_)
        omega
  refine Ev.step (f := fun f => lychgateref02_count.l0 f (c + 1) 0 k l) (fun f => by simp only [lychgateref02_count.f]; rw [w64 (c + 1) (by omega) (by omega)]) (Ev_eq (loop l.length 0 (c + 1) (by omega) rfl (by omega) (by omega) (by omega)) ?_)
  rw [List.drop_zero]
theorem refNodes_ev (k : Int) (l : List S43) : Ev (fun f => lychgateref02_Nodes.f f k l) ((min (nodes ⟨k, l⟩) 8193 : Nat) : Int) := by
  unfold lychgateref02_Nodes.f
  refine Ev.bind (refcount_ev (nodesL l + 1) k l 0 (by omega) (by omega) (by omega)) (Ev_eq (Ev.now _) ?_)
  rw [nodes]
  unfold mn
  split <;> omega
theorem refdeep_ev (n : Nat) : ∀ (k : Int) (l : List S43) (left : Int), nodesL l < n → nodesL l ≤ 8192 → 1 ≤ left → left ≤ 201 →
    Ev (fun f => lychgateref02_deep.f f k l left) (min ((1 + depthL l : Nat) : Int) left) := by
  induction n with
  | zero => intro k l left h; omega
  | succ n ih =>
  intro k l left hn h8 h1 h2
  have hlen := length_le_nodesL l
  by_cases hl : left ≤ 1
  · refine Ev.step (f := fun _ => some left) (fun f => by simp only [lychgateref02_deep.f]; rw [if_pos hl]) (Ev_eq (Ev.now _) ?_)
    omega
  · have loop : ∀ (d i : Nat) (acc : Int), i ≤ l.length → l.length - i = d → 0 ≤ acc → acc ≤ 200 →
        Ev (fun f => lychgateref02_deep.l0 f left acc (i : Int) k l) (min (max acc (min ((depthL (l.drop i) : Nat) : Int) (left - 1)) + 1) left) := by
      intro d
      induction d with
      | zero =>
        intro i acc hi hd h0 h200
        refine Ev.step (f := fun _ => some (mn (1 + acc) left)) (fun f => by simp only [lychgateref02_deep.l0]; rw [if_neg (by omega), w64 _ (by omega) (by omega)]) (Ev_eq (Ev.now _) ?_)
        rw [List.drop_eq_nil_of_le (by omega), depthL]
        unfold mn
        simp
        split <;> omega
      | succ d ihd =>
        intro i acc hi hd h0 h200
        have hlt : i < l.length := by omega
        have hr := nodesL_rd l i hlt
        have hdr := depthL_drop l i hlt
        have e1 := ih (rd_T43 l i).f0 (rd_T43 l i).f1 (left - 1) (by omega) (by omega) (by omega) (by omega)
        rw [← depth_eq] at e1
        have e2 := ihd (i + 1) (mx acc (min ((depth (rd_T43 l i) : Nat) : Int) (left - 1))) (by omega) (by omega) (by unfold mx; split <;> omega) (by unfold mx; split <;> omega)
        refine Ev.step (f := fun f => (lychgateref02_deep.f f (rd_T43 l i).f0 (rd_T43 l i).f1 (left - 1)).bind fun t => lychgateref02_deep.l0 f left (mx acc t) ((i + 1 : Nat) : Int) k l) (fun f => ?_) (Ev.bind e1 (Ev_eq e2 ?_))
        · simp only [lychgateref02_deep.l0]
          rw [if_pos (by omega), if_pos (by omega), w64 (left - 1) (by omega) (by omega), w64 ((i : Int) + 1) (by omega) (by omega)]
          rfl
        · rw [hdr]
          unfold mx
          split <;> omega
    refine Ev.step (f := fun f => lychgateref02_deep.l0 f left 0 0 k l) (fun f => by simp only [lychgateref02_deep.f]; rw [if_neg hl]) (Ev_eq (loop l.length 0 0 (by omega) rfl (by omega) (by omega)) ?_)
    rw [List.drop_zero]
    omega
theorem refDepth_ev (k : Int) (l : List S43) : Ev (fun f => lychgateref02_Depth.f f k l) (if 8192 < nodes ⟨k, l⟩ then 201 else min (depth ⟨k, l⟩ : Int) 201) := by
  unfold lychgateref02_Depth.f
  refine Ev.bind (refNodes_ev k l) ?_
  rw [nodes, depth]
  by_cases h8 : 8192 < 1 + nodesL l
  · rw [if_pos h8]
    have h9 : ((min (1 + nodesL l) 8193 : Nat) : Int) > 8192 := by omega
    simp only [h9, if_true]
    exact Ev.now _
  · rw [if_neg h8]
    have h9 : ¬ ((min (1 + nodesL l) 8193 : Nat) : Int) > 8192 := by omega
    simp only [h9, if_false]
    exact Ev.bind (refdeep_ev (nodesL l + 1) k l 201 (by omega) (by omega) (by omega) (by omega)) (Ev.now _)
theorem Kids_ev (k : Int) : Ev (fun f => lychgateref02_Kids.f f k) (partsI k) := Ev.step (f := fun _ => some (partsI k)) (fun f => parts_is f k) (Ev.now _)
theorem refright_ev (n : Nat) : ∀ (k : Int) (l : List S43), nodesL l < n → nodesL l ≤ 8192 → Ev (fun f => lychgateref02_right.f f k l) (rightB ⟨k, l⟩) := by
  induction n with
  | zero => intro k l h; omega
  | succ n ih =>
  intro k l hn h8
  have hlen := length_le_nodesL l
  have loop : ∀ (d i : Nat), i ≤ l.length → l.length - i = d → Ev (fun f => lychgateref02_right.l0 f (i : Int) k l) (rightL (l.drop i)) := by
    intro d
    induction d with
    | zero =>
      intro i hi hd
      refine Ev.step (f := fun _ => some true) (fun f => by simp only [lychgateref02_right.l0]; rw [if_neg (by omega)]) (Ev_eq (Ev.now _) ?_)
      rw [List.drop_eq_nil_of_le (by omega), rightL]
    | succ d ihd =>
      intro i hi hd
      have hlt : i < l.length := by omega
      have hr := nodesL_rd l i hlt
      have e1 := ih (rd_T43 l i).f0 (rd_T43 l i).f1 (by omega) (by omega)
      rw [S43.eta] at e1
      refine Ev.step (f := fun f => (lychgateref02_right.f f (rd_T43 l i).f0 (rd_T43 l i).f1).bind fun t => if t = true then lychgateref02_right.l0 f ((i + 1 : Nat) : Int) k l else some false) (fun f => ?_) (Ev.bind e1 ?_)
      · simp only [lychgateref02_right.l0]
        rw [if_pos (by omega), if_pos (by omega), w64 ((i : Int) + 1) (by omega) (by omega)]
        rfl
      · rw [rightL_drop l i hlt]
        cases rightB (rd_T43 l i) with
        | true => simpa using ihd (i + 1) (by omega) (by omega)
        | false => simpa using Ev.now _
  refine Ev.step (f := fun f => (lychgateref02_Kids.f f k).bind fun t => if t = (l.length : Int) then lychgateref02_right.l0 f 0 k l else some false) (fun f => by simp only [lychgateref02_right.f]) (Ev.bind (Kids_ev k) ?_)
  rw [rightB]
  by_cases hp : partsI k = (l.length : Int)
  · simp only [hp, if_true, decide_true, Bool.true_and]
    exact Ev_eq (loop l.length 0 (by omega) rfl) (by rw [List.drop_zero])
  · simpa [hp] using Ev.now _
theorem refCheck_ev (k : Int) (l : List S43) : Ev (fun f => lychgateref02_Check.f f k l) (checkI ⟨k, l⟩) := by
  unfold checkI lychgateref02_Check.f
  refine Ev.bind (refNodes_ev k l) ?_
  by_cases h8 : 8192 < nodes ⟨k, l⟩
  · rw [if_pos h8]
    have h9 : ((min (nodes ⟨k, l⟩) 8193 : Nat) : Int) > 8192 := by omega
    simp only [h9, if_true]
    exact Ev.now _
  · rw [if_neg h8]
    have h9 : ¬ ((min (nodes ⟨k, l⟩) 8193 : Nat) : Int) > 8192 := by omega
    simp only [h9, if_false]
    refine Ev.bind (refDepth_ev k l) ?_
    rw [if_neg h8]
    by_cases h2 : 200 < depth ⟨k, l⟩
    · rw [if_pos h2]
      have h3 : (min (depth ⟨k, l⟩ : Int) 201) > 200 := by omega
      simp only [h3, if_true]
      exact Ev.now _
    · rw [if_neg h2]
      have h3 : ¬ (min (depth ⟨k, l⟩ : Int) 201) > 200 := by omega
      simp only [h3, if_false]
      rw [nodes] at h8
      refine Ev.bind (refright_ev (nodesL l + 1) k l (by omega) (by omega)) ?_
      cases rightB ⟨k, l⟩ <;> simpa using Ev.now _
end Go.Proofs.YtjmpejbciniceaaDoor.X
namespace Go.Proofs.YtjmpejbciniceaaDoor.X
open Go.RowKit Go.Proofs.YtjmpejbciniceaaDoorW.PrintWords Go.Proofs.YtjmpejbciniceaaDoorW.PrintLast Go.Proofs.YtjmpejbciniceaaDoorW.PrintMore
set_option linter.unusedVariables false
set_option linter.unusedSimpArgs false
set_option maxRecDepth 100000 in
set_option maxHeartbeats 3200000 in
theorem newReader_calls {A : Option Addr} {c : Nat} {xs : List S37} {w0 w : World} (hw : Kd.C k37 w0 A xs.length xs) (hb : Below w0.heap.size w0 w) {a m : Int} {i : Nat} (hmn : (if (xs.length : Int) < a then (xs.length : Int) else a) = m) (hmx : (if 0 < m then m else 0) = (i : Int)) :
    Calls Tryd.prog 40 #[.slice A xs.length c, .int .i64 a] w fun e w' => e = .returned (.pointer (some ⟨w.heap.size, 0, none⟩)) ∧ RR w0 w.heap.size A c xs i 0 0 ⟨#[]⟩ w' ∧ Below w.heap.size w w' := by
  have h9 : RR w0 w.heap.size A c xs i 0 0 ⟨#[]⟩ (w.alloc (.cells #[.slice A xs.length c, .int .i64 (i : Int), .int .i64 0, .int .i64 0, .string ⟨#[]⟩] 85)) := ⟨heap_alloc_new _ _, hw, hb.size, hb.alloc hb.size _⟩
  have hB := (Below.refl w.heap.size w).alloc (Nat.le_refl _) (.cells #[.slice A xs.length c, .int .i64 (i : Int), .int .i64 0, .int .i64 0, .string ⟨#[]⟩] 85)
  have H9 := Aside0.mk h9
  have HB := Aside0.mk hB
  clear h9 hB hw hb
  go_enter Tryd.func40, Tryd.ntmps40
  go_wp2_with fail
  go_ret
  exact ⟨rfl, H9.out, HB.out⟩
theorem rcheck_calls {t : S43} {v : Value} {w : World} (h : IsT w v t) : Calls Tryd.prog 42 #[v] w fun e w' => e = .returned (.int .i64 (checkI t)) ∧ Below w.heap.size w w' := by
  obtain ⟨A, c, rfl, h1, h2⟩ := h
  obtain ⟨k, hk⟩ := (refCheck_ev t.f0 t.f1).rounds
  rw [S43.eta] at hk
  exact lychgateref02_Check.calls k t.f0 A c t.f1 _ w h2 h1 hk
def RRPost (xs : List S37) (i : Nat) (w : World) (r : Except (List Tk) (S43 × List Tk)) (en : Ending) (w' : World) : Prop :=
  Below w.heap.size w w' ∧ match r with
  | .ok x => (checkI x.1 = 0 ∧ ∃ v j, en = .returned (.tuple #[.agg #[.int .i8 x.1.f0, v], .int .i64 ((j : Nat) : Int), .agg #[.int .i64 0, .int .i64 0, .string ⟨#[]⟩]]) ∧ k43.R 43 w' w.heap.size (fun _ => True) v x.1.f1 ∧ j ≤ xs.length ∧ x.2 = toks xs j)
      ∨ (checkI x.1 ≠ 0 ∧ en = .returned (.tuple #[.agg #[.int .i8 0, .slice none 0 0], .int .i64 0, .agg #[.int .i64 (checkI x.1), .int .i64 ((xs[i]?).getD z37).f3, .string ⟨#[]⟩]]))
  | .error u => ∃ j, u = toks xs j ∧ j ≤ xs.length ∧ en = .returned (.tuple #[.agg #[.int .i8 0, .slice none 0 0], .int .i64 0, .agg #[.int .i64 40, .int .i64 (wrAt xs j), .string (wrWd xs j)]])
set_option maxRecDepth 100000 in
set_option maxHeartbeats 6400000 in
theorem rread_calls {A : Option Addr} {c : Nat} {xs : List S37} {w : World} (hw : Kd.C k37 w A xs.length xs) (hn : xs.length ≤ 200000) {a m : Int} {i : Nat} (hi : i ≤ xs.length) (hmn : (if (xs.length : Int) < a then (xs.length : Int) else a) = m) (hmx : (if 0 < m then m else 0) = (i : Int)) (f : Nat) (hf : 6 * xs.length + 5 ≤ f) (r : Except (List Tk) (S43 × List Tk)) (HE : Aside0 (parE f 0 (toks xs i) = r)) :
    Calls Tryd.prog 13 #[.slice A xs.length c, .int .i64 a] w (RRPost xs i w r) := by
  obtain ⟨k0, k1, hB⟩ := two_ w (.cells #[.int .i8 0, .slice none 0 0] 43) (.cells #[.int .i64 0, .int .i64 0, .string ⟨#[]⟩] 29)
  have hsz : ((w.alloc (.cells #[.int .i8 0, .slice none 0 0] 43)).alloc (.cells #[.int .i64 0, .int .i64 0, .string ⟨#[]⟩] 29)).heap.size = w.heap.size + 1 + 1 := by simp
  have K0 := Aside0.mk k0
  have K1 := Aside0.mk k1
  have HB := Aside0.mk hB
  have HW := Aside0.mk hw
  clear k0 k1 hB hw
  go_enter Tryd.func13, Tryd.ntmps13
  go_wp2_with fail
  generalize ((w.alloc (.cells #[.int .i8 0, .slice none 0 0] 43)).alloc (.cells #[.int .i64 0, .int .i64 0, .string ⟨#[]⟩] 29)) = wa at *
  refine (newReader_calls HW.out HB.out hmn hmx).mono ?_
  rintro e w1 ⟨rfl, hR, hB⟩
  replace K0 := Aside0.mk (blk_below K0.out hB)
  replace K1 := Aside0.mk (blk_below K1.out hB)
  clear hB
  rw [hsz] at hR ⊢
  have HR := Aside0.mk hR
  clear hR hsz HB hmn hmx
  have c1 := (blk_cell HR.out.blk 1).trans rfl
  simp at c1
  go_wp2_with fail
  clear c1
  have hgl := blk_lt HR.out.blk
  refine (r0_all w _ A c xs hn f i _ hi HR.out (by omega)).mono ?_
  rw [show parE f 0 (toks xs i) = r from HE.out]
  rintro e w5 ⟨hK, b, v, rfl, hm, hp⟩
  obtain ⟨Aa, ca, rfl⟩ := Kd.R_slice hm
  have HM : Aside0 (k43.R 43 w5 w.heap.size (fun k => w.heap.size + 1 + 1 < k) (.slice Aa b.f1.length ca) b.f1) := .mk (Kd.R_lower (Kd.R_mono (Kd.R_bound hm) fun k hk => by omega) (by omega))
  replace K0 := Aside0.mk (hK.blk K0.out (by omega) (by simp))
  replace K1 := Aside0.mk (hK.blk K1.out (by omega) (by simp))
  have hws := hK.1
  have HP := Aside0.mk hp
  clear hK hm hp HR
  have hB := below1 w5 #[.int .i8 b.f0, .slice Aa b.f1.length ca] 43
  have K3 := Aside0.mk (heap_alloc_new w5 (.cells #[.int .i8 b.f0, .slice Aa b.f1.length ca] 43))
  replace K0 := Aside0.mk (blk_below K0.out hB)
  replace K1 := Aside0.mk (blk_below K1.out hB)
  replace HM := Aside0.mk (Kd.R_below HM.out hB)
  have HA := Aside0.mk (fun (i : Nat) (e p : Int) (s : ByteArray) (h : RR w (w.heap.size + 1 + 1) A c xs i e p s w5) => h.after hB)
  have hpb : w.heap.size + 1 + 1 < w5.heap.size := by omega
  cases r with
  | error u =>
    obtain ⟨i', j, hu, hj, hi', hR⟩ := HP.out
    have HR := Aside0.mk (HA.out _ _ _ _ hR)
    clear hR HP HA HM HE hB K3
    obtain ⟨P, hP⟩ : ∃ P, P = wrAt xs j := ⟨_, rfl⟩
    obtain ⟨T, hT⟩ : ∃ T, T = wrWd xs j := ⟨_, rfl⟩
    rw [← hP, ← hT] at HR
    have HPT := Aside0.mk (And.intro hP hT)
    clear hP hT
    have c2 := (blk_cell HR.out.blk 2).trans rfl
    simp at c2
    go_wp2_with fail
    clear c2
    generalize w5.alloc (.cells #[.int .i8 b.f0, .slice Aa b.f1.length ca] 43) = wb at *
    have d0 := (blk_cell HR.out.blk 2).trans rfl
    have d1 := (blk_cell HR.out.blk 3).trans rfl
    have d2 := (blk_cell HR.out.blk 4).trans rfl
    simp at d0 d1 d2
    have hFar : ∀ (W : World) (p : Addr) (u : Value), w.heap.size ≤ p.block → p.block < w.heap.size + 1 + 1 → (W.cell? ⟨w.heap.size + 1 + 1, 2, none⟩ = some (.int .i64 40) ∧ W.cell? ⟨w.heap.size + 1 + 1, 3, none⟩ = some (.int .i64 P) ∧ W.cell? ⟨w.heap.size + 1 + 1, 4, none⟩ = some (.string T)) → ((W.setCell p u).cell? ⟨w.heap.size + 1 + 1, 2, none⟩ = some (.int .i64 40) ∧ (W.setCell p u).cell? ⟨w.heap.size + 1 + 1, 3, none⟩ = some (.int .i64 P) ∧ (W.setCell p u).cell? ⟨w.heap.size + 1 + 1, 4, none⟩ = some (.string T)) := by
      rintro W p u h1 h2 ⟨x0, x1, x2⟩
      rw [World.cell?_setCell_far _ _ _ _ (by show p.block ≠ w.heap.size + 1 + 1; omega), World.cell?_setCell_far _ _ _ _ (by show p.block ≠ w.heap.size + 1 + 1; omega), World.cell?_setCell_far _ _ _ _ (by show p.block ≠ w.heap.size + 1 + 1; omega)]
      exact ⟨x0, x1, x2⟩
    refine wp_region_held_drew (S := fun w' => w'.cell? ⟨w.heap.size + 1 + 1, 2, none⟩ = some (.int .i64 40) ∧ w'.cell? ⟨w.heap.size + 1 + 1, 3, none⟩ = some (.int .i64 P) ∧ w'.cell? ⟨w.heap.size + 1 + 1, 4, none⟩ = some (.string T)) (by kernel_rfl) ⟨d0, d1, d2⟩ (fun hHeld => ?_)
    have hD := (Below.refl wb.heap.size wb).drew
    replace HR := Aside0.mk (HR.out.after hD)
    replace K0 := Aside0.mk (blk_below K0.out hD)
    replace K1 := Aside0.mk (blk_below K1.out hD)
    clear hD
    try clear d0
    try clear d1
    try clear d2
    generalize wb.drew = wy at *
    refine tK 26 0 hHeld ?_
    refine tK 27 1 hHeld ?_
    refine tK 28 2 hHeld ?_
    refine tK 29 3 hHeld ?_
    refine tK 30 4 hHeld ?_
    refine wpAnyH_ready (rs := [5]) (by kernel_rfl) (by simp) ?_
    refine AllReadyH.cons rfl (fun K hK => ?_) AllReadyH.nil
    have c0 := (blk_cell K0.out 0).trans rfl
    have z0 := blk_frozen K0.out 0
    have c1 := (blk_cell K0.out 1).trans rfl
    have z1 := blk_frozen K0.out 1
    simp at c0 c1
    go_simp
    clear c0 z0 c1 z1
    replace HR := Aside0.mk (HR.out.far ⟨w.heap.size, 0, none⟩ (.int .i8 0) (by show _ ≠ w.heap.size; omega) (by show _ ≤ w.heap.size; omega))
    replace K1 := Aside0.mk (blk_put_far (p := ⟨w.heap.size, 0, none⟩) (u := .int .i8 0) K1.out (by show _ ≠ w.heap.size; omega))
    replace hHeld := hFar _ ⟨w.heap.size, 0, none⟩ (.int .i8 0) (by show _ ≤ w.heap.size; omega) (by show w.heap.size < _; omega) hHeld
    replace K0 := Aside0.mk (blk_put (cs := #[.int .i8 0, .slice none 0 0]) K0.out 0 (.int .i8 0) rfl)
    replace HR := Aside0.mk (HR.out.far ⟨w.heap.size, 1, none⟩ (.slice none 0 0) (by show _ ≠ w.heap.size; omega) (by show _ ≤ w.heap.size; omega))
    replace K1 := Aside0.mk (blk_put_far (p := ⟨w.heap.size, 1, none⟩) (u := .slice none 0 0) K1.out (by show _ ≠ w.heap.size; omega))
    replace hHeld := hFar _ ⟨w.heap.size, 1, none⟩ (.slice none 0 0) (by show _ ≤ w.heap.size; omega) (by show w.heap.size < _; omega) hHeld
    replace K0 := Aside0.mk (blk_put (cs := #[.int .i8 0, .slice none 0 0]) K0.out 1 (.slice none 0 0) rfl)
    replace K0 := Aside0.mk (K0.out : _ = some (Obj.cells #[.int .i8 0, .slice none 0 0] 43 (0, 0)))
    refine hK.out _ _ hHeld (fun hHeld => nA ?_)
    clear hK K
    generalize ((wy.setCell ⟨w.heap.size, 0, none⟩ (.int .i8 0)).setCell ⟨w.heap.size, 1, none⟩ (.slice none 0 0)) = wy at *
    refine tK 5 6 hHeld ?_
    refine wpAnyH_ready (rs := [7]) (by kernel_rfl) (by simp) ?_
    refine AllReadyH.cons rfl (fun K hK => ?_) AllReadyH.nil
    have c0 := (blk_cell K1.out 0).trans rfl
    have z0 := blk_frozen K1.out 0
    have c1 := (blk_cell K1.out 1).trans rfl
    have z1 := blk_frozen K1.out 1
    have c2 := (blk_cell K1.out 2).trans rfl
    have z2 := blk_frozen K1.out 2
    simp at c0 c1 c2
    go_simp
    clear c0 z0 c1 z1 c2 z2
    replace HR := Aside0.mk (HR.out.far ⟨(w.heap.size + 1), 0, none⟩ (.int .i64 40) (by show _ ≠ (w.heap.size + 1); omega) (by show _ ≤ (w.heap.size + 1); omega))
    replace K0 := Aside0.mk (blk_put_far (p := ⟨(w.heap.size + 1), 0, none⟩) (u := .int .i64 40) K0.out (by show _ ≠ (w.heap.size + 1); omega))
    replace hHeld := hFar _ ⟨(w.heap.size + 1), 0, none⟩ (.int .i64 40) (by show _ ≤ (w.heap.size + 1); omega) (by show (w.heap.size + 1) < _; omega) hHeld
    replace K1 := Aside0.mk (blk_put (cs := #[.int .i64 0, .int .i64 0, .string ⟨#[]⟩]) K1.out 0 (.int .i64 40) rfl)
    replace HR := Aside0.mk (HR.out.far ⟨(w.heap.size + 1), 1, none⟩ (.int .i64 P) (by show _ ≠ (w.heap.size + 1); omega) (by show _ ≤ (w.heap.size + 1); omega))
    replace K0 := Aside0.mk (blk_put_far (p := ⟨(w.heap.size + 1), 1, none⟩) (u := .int .i64 P) K0.out (by show _ ≠ (w.heap.size + 1); omega))
    replace hHeld := hFar _ ⟨(w.heap.size + 1), 1, none⟩ (.int .i64 P) (by show _ ≤ (w.heap.size + 1); omega) (by show (w.heap.size + 1) < _; omega) hHeld
    replace K1 := Aside0.mk (blk_put (cs := #[.int .i64 40, .int .i64 0, .string ⟨#[]⟩]) K1.out 1 (.int .i64 P) rfl)
    replace HR := Aside0.mk (HR.out.far ⟨(w.heap.size + 1), 2, none⟩ (.string T) (by show _ ≠ (w.heap.size + 1); omega) (by show _ ≤ (w.heap.size + 1); omega))
    replace K0 := Aside0.mk (blk_put_far (p := ⟨(w.heap.size + 1), 2, none⟩) (u := .string T) K0.out (by show _ ≠ (w.heap.size + 1); omega))
    replace hHeld := hFar _ ⟨(w.heap.size + 1), 2, none⟩ (.string T) (by show _ ≤ (w.heap.size + 1); omega) (by show (w.heap.size + 1) < _; omega) hHeld
    replace K1 := Aside0.mk (blk_put (cs := #[.int .i64 40, .int .i64 P, .string ⟨#[]⟩]) K1.out 2 (.string T) rfl)
    replace K1 := Aside0.mk (K1.out : _ = some (Obj.cells #[.int .i64 40, .int .i64 P, .string T] 29 (0, 0)))
    refine hK.out _ _ hHeld (fun hHeld => nA ?_)
    clear hK K
    generalize (((wy.setCell ⟨(w.heap.size + 1), 0, none⟩ (.int .i64 40)).setCell ⟨(w.heap.size + 1), 1, none⟩ (.int .i64 P)).setCell ⟨(w.heap.size + 1), 2, none⟩ (.string T)) = wy at *
    refine wpAnyH_done (by kernel_rfl) ?_ _
    go_wp2_with fail
    refine bodyPost_ret (results_list (rs := [.cell 4 43, .tmp 5, .cell 6 29]) rfl (by simp) (.cell w.heap.size 43 _ (0, 0) _ rfl K0.out Tryd.underlying43 rfl (by kernel_rfl) (.tmp (.cell (w.heap.size + 1) 29 _ (0, 0) _ rfl K1.out Tryd.underlying29 rfl (by kernel_rfl) .nil)))) rfl ?_
    have h1 := HPT.out.1
    have h2 := HPT.out.2
    subst h1 h2
    exact ⟨HR.out.below, j, hu, hj, rfl⟩
  | ok x =>
    obtain ⟨t, u⟩ := x
    obtain ⟨ht, j, hR, hij, hj, hu⟩ := HP.out
    replace ht : b = t := ht
    replace hu : u = toks xs j := hu
    subst ht
    have HR := Aside0.mk (HA.out _ _ _ _ hR)
    have hlt : i < xs.length := par_lt HE.out
    clear hR HP HA HE hB
    have c2 := (blk_cell HR.out.blk 2).trans rfl
    have e0 := (blk_cell K3.out 0).trans rfl
    have e1 := (blk_cell K3.out 1).trans rfl
    simp at c2 e0 e1
    go_wp2_with fail
    clear c2 e0 e1
    generalize w5.alloc (.cells #[.int .i8 b.f0, .slice Aa b.f1.length ca] 43) = wb at *
    generalize w5.heap.size = pb at *
    have hI : IsT wb (.agg #[.int .i8 b.f0, .slice Aa b.f1.length ca]) b := by
      obtain ⟨A', c', he, hl, hr⟩ := Kd.R_reads HM.out
      injection he with e1 e2 e3
      subst e1 e3
      exact ⟨_, _, rfl, hl, hr⟩
    refine (rcheck_calls hI).mono ?_
    clear hI
    rintro e w7 ⟨rfl, hB⟩
    replace HM := Aside0.mk (Kd.R_below HM.out hB)
    replace HR := Aside0.mk (HR.out.after hB)
    replace K0 := Aside0.mk (blk_below K0.out hB)
    replace K1 := Aside0.mk (blk_below K1.out hB)
    replace K3 := Aside0.mk (blk_below K3.out hB)
    clear hB
    obtain ⟨ck, hck⟩ : ∃ ck, ck = checkI b := ⟨_, rfl⟩
    rw [← hck]
    have HC := Aside0.mk hck
    clear hck
    by_cases hc : ck = 0
    · subst hc
      go_wp2_with fail
      have d0 := (blk_cell K3.out 0).trans rfl
      have d1 := (blk_cell K3.out 1).trans rfl
      have d2 := (blk_cell HR.out.blk 1).trans rfl
      simp at d0 d1 d2
      have hFar : ∀ (W : World) (p : Addr) (u : Value), w.heap.size ≤ p.block → p.block < w.heap.size + 1 + 1 → ((W.cell? ⟨pb, 0, none⟩ = some (.int .i8 b.f0) ∧ W.cell? ⟨pb, 1, none⟩ = some (.slice Aa b.f1.length ca)) ∧ W.cell? ⟨w.heap.size + 1 + 1, 1, none⟩ = some (.int .i64 (j : Int))) → (((W.setCell p u).cell? ⟨pb, 0, none⟩ = some (.int .i8 b.f0) ∧ (W.setCell p u).cell? ⟨pb, 1, none⟩ = some (.slice Aa b.f1.length ca)) ∧ (W.setCell p u).cell? ⟨w.heap.size + 1 + 1, 1, none⟩ = some (.int .i64 (j : Int))) := by
        rintro W p u h1 h2 ⟨⟨x0, x1⟩, x2⟩
        rw [World.cell?_setCell_far _ _ _ _ (by show p.block ≠ pb; omega), World.cell?_setCell_far _ _ _ _ (by show p.block ≠ pb; omega), World.cell?_setCell_far _ _ _ _ (by show p.block ≠ w.heap.size + 1 + 1; omega)]
        exact ⟨⟨x0, x1⟩, x2⟩
      refine wp_region_held_drew (S := fun w' => (w'.cell? ⟨pb, 0, none⟩ = some (.int .i8 b.f0) ∧ w'.cell? ⟨pb, 1, none⟩ = some (.slice Aa b.f1.length ca)) ∧ w'.cell? ⟨w.heap.size + 1 + 1, 1, none⟩ = some (.int .i64 (j : Int))) (by kernel_rfl) ⟨⟨d0, d1⟩, d2⟩ (fun hHeld => ?_)
      have hD := (Below.refl w7.heap.size w7).drew
      replace HR := Aside0.mk (HR.out.after hD)
      replace K0 := Aside0.mk (blk_below K0.out hD)
      replace K1 := Aside0.mk (blk_below K1.out hD)
      replace HM := Aside0.mk (Kd.R_below HM.out hD)
      clear hD
      try clear d0
      try clear d1
      try clear d2
      generalize w7.drew = wy at *
      refine tK 43 0 hHeld ?_
      refine tK 44 1 hHeld ?_
      refine tK 45 2 hHeld ?_
      refine tK 46 3 hHeld ?_
      refine tK 47 4 hHeld ?_
      refine tK 48 5 hHeld ?_
      refine wpAnyH_ready (rs := [6]) (by kernel_rfl) (by simp) ?_
      refine AllReadyH.cons rfl (fun K hK => ?_) AllReadyH.nil
      have c0 := (blk_cell K0.out 0).trans rfl
      have z0 := blk_frozen K0.out 0
      have c1 := (blk_cell K0.out 1).trans rfl
      have z1 := blk_frozen K0.out 1
      simp at c0 c1
      go_simp
      clear c0 z0 c1 z1
      replace HR := Aside0.mk (HR.out.far ⟨w.heap.size, 0, none⟩ (.int .i8 b.f0) (by show _ ≠ w.heap.size; omega) (by show _ ≤ w.heap.size; omega))
      replace K1 := Aside0.mk (blk_put_far (p := ⟨w.heap.size, 0, none⟩) (u := .int .i8 b.f0) K1.out (by show _ ≠ w.heap.size; omega))
      replace HM := Aside0.mk (Kd.R_far HM.out (p := ⟨w.heap.size, 0, none⟩) (fun k hk => by show k ≠ w.heap.size; omega) (.int .i8 b.f0))
      replace hHeld := hFar _ ⟨w.heap.size, 0, none⟩ (.int .i8 b.f0) (by show _ ≤ w.heap.size; omega) (by show w.heap.size < _; omega) hHeld
      replace K0 := Aside0.mk (blk_put (cs := #[.int .i8 0, .slice none 0 0]) K0.out 0 (.int .i8 b.f0) rfl)
      replace HR := Aside0.mk (HR.out.far ⟨w.heap.size, 1, none⟩ (.slice Aa b.f1.length ca) (by show _ ≠ w.heap.size; omega) (by show _ ≤ w.heap.size; omega))
      replace K1 := Aside0.mk (blk_put_far (p := ⟨w.heap.size, 1, none⟩) (u := .slice Aa b.f1.length ca) K1.out (by show _ ≠ w.heap.size; omega))
      replace HM := Aside0.mk (Kd.R_far HM.out (p := ⟨w.heap.size, 1, none⟩) (fun k hk => by show k ≠ w.heap.size; omega) (.slice Aa b.f1.length ca))
      replace hHeld := hFar _ ⟨w.heap.size, 1, none⟩ (.slice Aa b.f1.length ca) (by show _ ≤ w.heap.size; omega) (by show w.heap.size < _; omega) hHeld
      replace K0 := Aside0.mk (blk_put (cs := #[.int .i8 b.f0, .slice none 0 0]) K0.out 1 (.slice Aa b.f1.length ca) rfl)
      replace K0 := Aside0.mk (K0.out : _ = some (Obj.cells #[.int .i8 b.f0, .slice Aa b.f1.length ca] 43 (0, 0)))
      refine hK.out _ _ hHeld (fun hHeld => nA ?_)
      clear hK K
      generalize ((wy.setCell ⟨w.heap.size, 0, none⟩ (.int .i8 b.f0)).setCell ⟨w.heap.size, 1, none⟩ (.slice Aa b.f1.length ca)) = wy at *
      refine tK 5 7 hHeld ?_
      refine wpAnyH_ready (rs := [8]) (by kernel_rfl) (by simp) ?_
      refine AllReadyH.cons rfl (fun K hK => ?_) AllReadyH.nil
      have c0 := (blk_cell K1.out 0).trans rfl
      have z0 := blk_frozen K1.out 0
      have c1 := (blk_cell K1.out 1).trans rfl
      have z1 := blk_frozen K1.out 1
      have c2 := (blk_cell K1.out 2).trans rfl
      have z2 := blk_frozen K1.out 2
      simp at c0 c1 c2
      go_simp
      clear c0 z0 c1 z1 c2 z2
      replace HR := Aside0.mk (HR.out.far ⟨(w.heap.size + 1), 0, none⟩ (.int .i64 0) (by show _ ≠ (w.heap.size + 1); omega) (by show _ ≤ (w.heap.size + 1); omega))
      replace K0 := Aside0.mk (blk_put_far (p := ⟨(w.heap.size + 1), 0, none⟩) (u := .int .i64 0) K0.out (by show _ ≠ (w.heap.size + 1); omega))
      replace HM := Aside0.mk (Kd.R_far HM.out (p := ⟨(w.heap.size + 1), 0, none⟩) (fun k hk => by show k ≠ (w.heap.size + 1); omega) (.int .i64 0))
      replace hHeld := hFar _ ⟨(w.heap.size + 1), 0, none⟩ (.int .i64 0) (by show _ ≤ (w.heap.size + 1); omega) (by show (w.heap.size + 1) < _; omega) hHeld
      replace K1 := Aside0.mk (blk_put (cs := #[.int .i64 0, .int .i64 0, .string ⟨#[]⟩]) K1.out 0 (.int .i64 0) rfl)
      replace HR := Aside0.mk (HR.out.far ⟨(w.heap.size + 1), 1, none⟩ (.int .i64 0) (by show _ ≠ (w.heap.size + 1); omega) (by show _ ≤ (w.heap.size + 1); omega))
      replace K0 := Aside0.mk (blk_put_far (p := ⟨(w.heap.size + 1), 1, none⟩) (u := .int .i64 0) K0.out (by show _ ≠ (w.heap.size + 1); omega))
      replace HM := Aside0.mk (Kd.R_far HM.out (p := ⟨(w.heap.size + 1), 1, none⟩) (fun k hk => by show k ≠ (w.heap.size + 1); omega) (.int .i64 0))
      replace hHeld := hFar _ ⟨(w.heap.size + 1), 1, none⟩ (.int .i64 0) (by show _ ≤ (w.heap.size + 1); omega) (by show (w.heap.size + 1) < _; omega) hHeld
      replace K1 := Aside0.mk (blk_put (cs := #[.int .i64 0, .int .i64 0, .string ⟨#[]⟩]) K1.out 1 (.int .i64 0) rfl)
      replace HR := Aside0.mk (HR.out.far ⟨(w.heap.size + 1), 2, none⟩ (.string ⟨#[]⟩) (by show _ ≠ (w.heap.size + 1); omega) (by show _ ≤ (w.heap.size + 1); omega))
      replace K0 := Aside0.mk (blk_put_far (p := ⟨(w.heap.size + 1), 2, none⟩) (u := .string ⟨#[]⟩) K0.out (by show _ ≠ (w.heap.size + 1); omega))
      replace HM := Aside0.mk (Kd.R_far HM.out (p := ⟨(w.heap.size + 1), 2, none⟩) (fun k hk => by show k ≠ (w.heap.size + 1); omega) (.string ⟨#[]⟩))
      replace hHeld := hFar _ ⟨(w.heap.size + 1), 2, none⟩ (.string ⟨#[]⟩) (by show _ ≤ (w.heap.size + 1); omega) (by show (w.heap.size + 1) < _; omega) hHeld
      replace K1 := Aside0.mk (blk_put (cs := #[.int .i64 0, .int .i64 0, .string ⟨#[]⟩]) K1.out 2 (.string ⟨#[]⟩) rfl)
      replace K1 := Aside0.mk (K1.out : _ = some (Obj.cells #[.int .i64 0, .int .i64 0, .string ⟨#[]⟩] 29 (0, 0)))
      refine hK.out _ _ hHeld (fun hHeld => nA ?_)
      clear hK K
      generalize (((wy.setCell ⟨(w.heap.size + 1), 0, none⟩ (.int .i64 0)).setCell ⟨(w.heap.size + 1), 1, none⟩ (.int .i64 0)).setCell ⟨(w.heap.size + 1), 2, none⟩ (.string ⟨#[]⟩)) = wy at *
      refine wpAnyH_done (by kernel_rfl) ?_ _
      go_wp2_with fail
      refine bodyPost_ret (results_list (rs := [.cell 4 43, .tmp 5, .cell 6 29]) rfl (by simp) (.cell w.heap.size 43 _ (0, 0) _ rfl K0.out Tryd.underlying43 rfl (by kernel_rfl) (.tmp (.cell (w.heap.size + 1) 29 _ (0, 0) _ rfl K1.out Tryd.underlying29 rfl (by kernel_rfl) .nil)))) rfl ?_
      exact ⟨HR.out.below, .inl ⟨HC.out.symm, _, j, rfl, Kd.R_mono HM.out (fun _ _ => trivial), hj, hu⟩⟩
    · have hc2 : (ck != 0) = true := by rw [bne_iff_ne]; exact hc
      obtain ⟨ad, hA, _, _, _, x3⟩ := word_at (Kd.C_below HR.out.words HR.out.below) i hlt _ (List.getElem?_eq_getElem hlt)
      subst hA
      obtain ⟨_, h9, _, y1, _, _⟩ := word_at HR.out.words i hlt _ (List.getElem?_eq_getElem hlt)
      cases h9
      have hbl : (ad.add (i * 4)).block < w.heap.size := World.block_lt_of_cell? w ⟨(ad.add (i * 4)).block, (ad.add (i * 4)).off + 1, none⟩ y1
      clear y1
      have HX : Aside0 (((xs[i]?).getD z37).f3 = (xs[i]'hlt).f3) := .mk (by rw [List.getElem?_eq_getElem hlt]; rfl)
      generalize (xs[i]'hlt).f3 = P at *
      have hltI : (i : Int) < (xs.length : Int) := by omega
      clear HM K3
      go_wp2_with fail
      have hFar : ∀ (W : World) (p : Addr) (u : Value), w.heap.size ≤ p.block → p.block < w.heap.size + 1 + 1 → (W.cell? ⟨(ad.add (i * 4)).block, (ad.add (i * 4)).off + 3, none⟩ = some (.int .i64 P)) → ((W.setCell p u).cell? ⟨(ad.add (i * 4)).block, (ad.add (i * 4)).off + 3, none⟩ = some (.int .i64 P)) := by
        intro W p u h1 h2 x0
        rw [World.cell?_setCell_far _ _ _ _ (by show p.block ≠ (ad.add (i * 4)).block; omega)]
        exact x0
      refine wp_region_held_drew (S := fun w' => w'.cell? ⟨(ad.add (i * 4)).block, (ad.add (i * 4)).off + 3, none⟩ = some (.int .i64 P)) (by kernel_rfl) x3 (fun hHeld => ?_)
      have hD := (Below.refl w7.heap.size w7).drew
      replace HR := Aside0.mk (HR.out.after hD)
      replace K0 := Aside0.mk (blk_below K0.out hD)
      replace K1 := Aside0.mk (blk_below K1.out hD)
      clear hD
      try clear d0
      try clear d1
      try clear d2
      generalize w7.drew = wy at *
      refine tK 35 0 hHeld ?_
      refine tK 36 1 hHeld ?_
      refine tK 37 2 hHeld ?_
      refine tK 38 3 hHeld ?_
      refine takeH (d := some 39) (v := .pointer (some (ad.add (i * 4)))) 4 rfl rfl (by kernel_rfl) (by kernel_rfl) (by kernel_rfl) (fun _ _ _ h => h) (by rfl) (fun w hSw => by (try dsimp only at hSw); go_simp <;> first | done | (rw [if_pos (by omega)]) | (intro hcc; omega)) hHeld (nA ?_)
      refine tK 40 5 hHeld ?_
      refine tK 41 6 hHeld ?_
      refine tK 42 7 hHeld ?_
      refine wpAnyH_ready (rs := [8]) (by kernel_rfl) (by simp) ?_
      refine AllReadyH.cons rfl (fun K hK => ?_) AllReadyH.nil
      have c0 := (blk_cell K0.out 0).trans rfl
      have z0 := blk_frozen K0.out 0
      have c1 := (blk_cell K0.out 1).trans rfl
      have z1 := blk_frozen K0.out 1
      simp at c0 c1
      go_simp
      clear c0 z0 c1 z1
      replace HR := Aside0.mk (HR.out.far ⟨w.heap.size, 0, none⟩ (.int .i8 0) (by show _ ≠ w.heap.size; omega) (by show _ ≤ w.heap.size; omega))
      replace K1 := Aside0.mk (blk_put_far (p := ⟨w.heap.size, 0, none⟩) (u := .int .i8 0) K1.out (by show _ ≠ w.heap.size; omega))
      replace hHeld := hFar _ ⟨w.heap.size, 0, none⟩ (.int .i8 0) (by show _ ≤ w.heap.size; omega) (by show w.heap.size < _; omega) hHeld
      replace K0 := Aside0.mk (blk_put (cs := #[.int .i8 0, .slice none 0 0]) K0.out 0 (.int .i8 0) rfl)
      replace HR := Aside0.mk (HR.out.far ⟨w.heap.size, 1, none⟩ (.slice none 0 0) (by show _ ≠ w.heap.size; omega) (by show _ ≤ w.heap.size; omega))
      replace K1 := Aside0.mk (blk_put_far (p := ⟨w.heap.size, 1, none⟩) (u := .slice none 0 0) K1.out (by show _ ≠ w.heap.size; omega))
      replace hHeld := hFar _ ⟨w.heap.size, 1, none⟩ (.slice none 0 0) (by show _ ≤ w.heap.size; omega) (by show w.heap.size < _; omega) hHeld
      replace K0 := Aside0.mk (blk_put (cs := #[.int .i8 0, .slice none 0 0]) K0.out 1 (.slice none 0 0) rfl)
      replace K0 := Aside0.mk (K0.out : _ = some (Obj.cells #[.int .i8 0, .slice none 0 0] 43 (0, 0)))
      refine hK.out _ _ hHeld (fun hHeld => nA ?_)
      clear hK K
      generalize ((wy.setCell ⟨w.heap.size, 0, none⟩ (.int .i8 0)).setCell ⟨w.heap.size, 1, none⟩ (.slice none 0 0)) = wy at *
      refine tK 5 9 hHeld ?_
      refine wpAnyH_ready (rs := [10]) (by kernel_rfl) (by simp) ?_
      refine AllReadyH.cons rfl (fun K hK => ?_) AllReadyH.nil
      have c0 := (blk_cell K1.out 0).trans rfl
      have z0 := blk_frozen K1.out 0
      have c1 := (blk_cell K1.out 1).trans rfl
      have z1 := blk_frozen K1.out 1
      have c2 := (blk_cell K1.out 2).trans rfl
      have z2 := blk_frozen K1.out 2
      simp at c0 c1 c2
      go_simp
      clear c0 z0 c1 z1 c2 z2
      replace HR := Aside0.mk (HR.out.far ⟨(w.heap.size + 1), 0, none⟩ (.int .i64 ck) (by show _ ≠ (w.heap.size + 1); omega) (by show _ ≤ (w.heap.size + 1); omega))
      replace K0 := Aside0.mk (blk_put_far (p := ⟨(w.heap.size + 1), 0, none⟩) (u := .int .i64 ck) K0.out (by show _ ≠ (w.heap.size + 1); omega))
      replace hHeld := hFar _ ⟨(w.heap.size + 1), 0, none⟩ (.int .i64 ck) (by show _ ≤ (w.heap.size + 1); omega) (by show (w.heap.size + 1) < _; omega) hHeld
      replace K1 := Aside0.mk (blk_put (cs := #[.int .i64 0, .int .i64 0, .string ⟨#[]⟩]) K1.out 0 (.int .i64 ck) rfl)
      replace HR := Aside0.mk (HR.out.far ⟨(w.heap.size + 1), 1, none⟩ (.int .i64 P) (by show _ ≠ (w.heap.size + 1); omega) (by show _ ≤ (w.heap.size + 1); omega))
      replace K0 := Aside0.mk (blk_put_far (p := ⟨(w.heap.size + 1), 1, none⟩) (u := .int .i64 P) K0.out (by show _ ≠ (w.heap.size + 1); omega))
      replace hHeld := hFar _ ⟨(w.heap.size + 1), 1, none⟩ (.int .i64 P) (by show _ ≤ (w.heap.size + 1); omega) (by show (w.heap.size + 1) < _; omega) hHeld
      replace K1 := Aside0.mk (blk_put (cs := #[.int .i64 ck, .int .i64 0, .string ⟨#[]⟩]) K1.out 1 (.int .i64 P) rfl)
      replace HR := Aside0.mk (HR.out.far ⟨(w.heap.size + 1), 2, none⟩ (.string ⟨#[]⟩) (by show _ ≠ (w.heap.size + 1); omega) (by show _ ≤ (w.heap.size + 1); omega))
      replace K0 := Aside0.mk (blk_put_far (p := ⟨(w.heap.size + 1), 2, none⟩) (u := .string ⟨#[]⟩) K0.out (by show _ ≠ (w.heap.size + 1); omega))
      replace hHeld := hFar _ ⟨(w.heap.size + 1), 2, none⟩ (.string ⟨#[]⟩) (by show _ ≤ (w.heap.size + 1); omega) (by show (w.heap.size + 1) < _; omega) hHeld
      replace K1 := Aside0.mk (blk_put (cs := #[.int .i64 ck, .int .i64 P, .string ⟨#[]⟩]) K1.out 2 (.string ⟨#[]⟩) rfl)
      replace K1 := Aside0.mk (K1.out : _ = some (Obj.cells #[.int .i64 ck, .int .i64 P, .string ⟨#[]⟩] 29 (0, 0)))
      refine hK.out _ _ hHeld (fun hHeld => nA ?_)
      clear hK K
      generalize (((wy.setCell ⟨(w.heap.size + 1), 0, none⟩ (.int .i64 ck)).setCell ⟨(w.heap.size + 1), 1, none⟩ (.int .i64 P)).setCell ⟨(w.heap.size + 1), 2, none⟩ (.string ⟨#[]⟩)) = wy at *
      refine wpAnyH_done (by kernel_rfl) ?_ _
      go_wp2_with fail
      refine bodyPost_ret (results_list (rs := [.cell 4 43, .tmp 5, .cell 6 29]) rfl (by simp) (.cell w.heap.size 43 _ (0, 0) _ rfl K0.out Tryd.underlying43 rfl (by kernel_rfl) (.tmp (.cell (w.heap.size + 1) 29 _ (0, 0) _ rfl K1.out Tryd.underlying29 rfl (by kernel_rfl) .nil)))) rfl ?_
      exact ⟨HR.out.below, .inr ⟨by rw [← HC.out]; exact hc, by rw [HX.out, ← HC.out]; rfl⟩⟩
end Go.Proofs.YtjmpejbciniceaaDoor.X
namespace Go.Proofs.YtjmpejbciniceaaDoor.X
open Go.RowKit Go.Extern.Stop Go.Stop Go.Extern
set_option linter.unusedVariables false
theorem E0.valueOf27 (t : Addr) (w : World) : (ReflectliteValue.unpack (.iface 87 (.pointer (some t)))).run Tryd.prog w
    = .ok (.agg #[.pointer (some ⟨5, 87, none⟩), .pointer (some ⟨w.heap.size, 0, none⟩), .int .u64 150]) (w.alloc (.cells #[.pointer (some t)] 87)) := by kernel_rfl
theorem E0.type27 (a : Addr) (w : World) : (ReflectliteValue.methodAny (ReflectliteValue.valueError "reflectlite.Value.Type" 0) (fun t _ _ _ => ReflectliteType.toType t) #[.agg #[.pointer (some ⟨5, 87, none⟩), .pointer (some a), .int .u64 150]]).run Tryd.prog w
    = .ok (.iface 153 (.agg #[.pointer (some ⟨5, 87, none⟩)])) w := by kernel_rfl
theorem E0.methodKind (h : Value) (w : World) : (Go.method 320 153 (.agg #[h]) "Kind").run Tryd.prog w = .ok (170, h) w := by kernel_rfl
theorem E0.kind27 (w : World) : ((ReflectliteType.abiMethod fun t => (fun a : Nat => Value.int IntKind.u8 (a : Int)) <$> Rtype.kind t) #[.pointer (some ⟨5, 87, none⟩)]).run Tryd.prog w = .ok (.int .u8 22) w := by kernel_rfl
theorem E0.kind25 (w : World) : ((ReflectliteType.abiMethod fun t => (fun a : Nat => Value.int IntKind.u8 (a : Int)) <$> Rtype.kind t) #[.pointer (some ⟨5, 60, none⟩)]).run Tryd.prog w = .ok (.int .u8 22) w := by kernel_rfl
theorem rlm (z : Sem Value) (f : TypeId → Addr → Nat → Nat → Sem Value) (v : Value) :
    ReflectliteValue.method z f #[v] = (do match ← ReflectliteValue.parts v with | none => z | some (t, a, fl) => f t a fl (fl % 32)) := rfl
theorem E0.parts27 (a : Addr) (w : World) : (ReflectliteValue.parts (.agg #[.pointer (some ⟨5, 87, none⟩), .pointer (some a), .int .u64 150])).run Tryd.prog w = .ok (some (87, a, 150)) w := by kernel_rfl
theorem E0.isNil27 (a p : Addr) (W : World) (ha : W.cell? a = some (.pointer (some p))) :
    (ReflectliteValue.method (ReflectliteValue.valueError "reflectlite.Value.IsNil" 0) ReflectliteValue.isNil #[.agg #[.pointer (some ⟨5, 87, none⟩), .pointer (some a), .int .u64 150]]).run Tryd.prog W = .ok (.bool false) W := by
  rw [rlm]
  simp only [Sem.run_bind, E0.parts27, Result.andThen]
  simp [ReflectliteValue.isNil, loadVar, isAgg, underlying, Tryd.underlying87, ha, Result.andThen]
theorem E0.methodElem (h : Value) (w : World) : (Go.method 320 153 (.agg #[h]) "Elem").run Tryd.prog w = .ok (183, .agg #[h]) w := by kernel_rfl
theorem E0.methodImplements (h : Value) (w : World) : (Go.method 320 153 (.agg #[h]) "Implements").run Tryd.prog w = .ok (184, .agg #[h]) w := by kernel_rfl
theorem E0.methodAssignableTo (h : Value) (w : World) : (Go.method 320 153 (.agg #[h]) "AssignableTo").run Tryd.prog w = .ok (181, .agg #[h]) w := by kernel_rfl
theorem E0.elem27 (w : World) : (ReflectliteType.method ReflectliteType.elem #[.agg #[.pointer (some ⟨5, 87, none⟩)]]).run Tryd.prog w = .ok (.iface 153 (.agg #[.pointer (some ⟨5, 60, none⟩)])) w := by kernel_rfl
theorem E0.implements25 (w : World) : (ReflectliteType.relation "Implements" ReflectliteType.implements_ #[.agg #[.pointer (some ⟨5, 60, none⟩)], .iface 153 (.agg #[.pointer (some ⟨5, 24, none⟩)])]).run Tryd.prog w = .ok (.bool true) w := by kernel_rfl
theorem E0.typeOf25 (v : Value) (w : World) : (ReflectliteType.typeOf #[.iface 60 v]).run Tryd.prog w = .ok (.iface 153 (.agg #[.pointer (some ⟨5, 60, none⟩)])) w := by kernel_rfl
theorem E0.assignable25 (w : World) : (ReflectliteType.relation "AssignableTo" ReflectliteType.assignableTo #[.agg #[.pointer (some ⟨5, 60, none⟩)], .iface 153 (.agg #[.pointer (some ⟨5, 60, none⟩)])]).run Tryd.prog w = .ok (.bool true) w := by kernel_rfl
theorem E0.valueOf25 (e : Addr) (w : World) : (ReflectliteValue.unpack (.iface 60 (.pointer (some e)))).run Tryd.prog w
    = .ok (.agg #[.pointer (some ⟨5, 60, none⟩), .pointer (some ⟨w.heap.size, 0, none⟩), .int .u64 150]) (w.alloc (.cells #[.pointer (some e)] 60)) := by kernel_rfl
theorem E0.elemOf27 (w : World) : (Rtype.elem? 87).run Tryd.prog w = .ok (some 60) w := by kernel_rfl
theorem E0.mk25 (p : Addr) (w : World) : (ReflectliteValue.mk 60 p ReflectliteValue.flagAddr).run Tryd.prog w = .ok (.agg #[.pointer (some ⟨5, 60, none⟩), .pointer (some p), .int .u64 406]) w := by kernel_rfl
theorem E0.elemV27 (a p : Addr) (W : World) (ha : W.cell? a = some (.pointer (some p))) :
    (ReflectliteValue.method (ReflectliteValue.valueError "reflectlite.Value.Elem" 0) ReflectliteValue.elem #[.agg #[.pointer (some ⟨5, 87, none⟩), .pointer (some a), .int .u64 150]]).run Tryd.prog W
      = .ok (.agg #[.pointer (some ⟨5, 60, none⟩), .pointer (some p), .int .u64 406]) W := by
  rw [rlm]
  simp only [Sem.run_bind, E0.parts27, Result.andThen]
  simp [ReflectliteValue.elem, loadVar, isAgg, underlying, Tryd.underlying87, ha, Result.andThen, E0.elemOf27, E0.mk25]
theorem rls (v x : Value) : ReflectliteValue.set #[v, x] = (do
    let (some (dst, a, fl), some (src, b, _)) := (← ReflectliteValue.parts v, ← ReflectliteValue.parts x)
      | unsupported (.noEntry "extern/(internal/reflectlite.Value).Set.zeroValue")
    if fl / ReflectliteValue.flagAddr % 2 == 0 then unsupported (.noEntry "extern/(internal/reflectlite.Value).Set.unaddressable")
    let val ← loadVar src b
    if ← Rtype.directlyAssignable dst src then storeVar dst a val
    else if ← Rtype.implements dst src then
      if (← Rtype.kind src) == 20 then
        match val with
        | .nilIface => unsupported (.noEntry "extern/reflectlite: a nil value of one interface type handed on as a value of another")
        | _ => storeVar dst a val
      else storeVar dst a (.iface src val)
    else panicString ("reflectlite.Set: value of type " ++ (← Rtype.spelt src) ++ " is not assignable to type " ++ (← Rtype.spelt dst))
    pure (.tuple #[])) := rfl
theorem E0.parts25a (a : Addr) (w : World) : (ReflectliteValue.parts (.agg #[.pointer (some ⟨5, 60, none⟩), .pointer (some a), .int .u64 406])).run Tryd.prog w = .ok (some (60, a, 406)) w := by kernel_rfl
theorem E0.parts25 (a : Addr) (w : World) : (ReflectliteValue.parts (.agg #[.pointer (some ⟨5, 60, none⟩), .pointer (some a), .int .u64 150])).run Tryd.prog w = .ok (some (60, a, 150)) w := by kernel_rfl
theorem E0.direct25 (w : World) : (Rtype.directlyAssignable 60 60).run Tryd.prog w = .ok true w := by kernel_rfl
theorem E0.set25 (ta b e : Addr) (old : Value) (W : World) (hb : W.cell? b = some (.pointer (some e))) (ht : W.cell? ta = some old) (hf : W.frozen? ta = false) :
    (ReflectliteValue.set #[.agg #[.pointer (some ⟨5, 60, none⟩), .pointer (some ta), .int .u64 406], .agg #[.pointer (some ⟨5, 60, none⟩), .pointer (some b), .int .u64 150]]).run Tryd.prog W
      = .ok (.tuple #[]) (W.setCell ta (.pointer (some e))) := by
  rw [rls]
  simp only [Sem.run_bind, E0.parts25a, E0.parts25, Result.andThen]
  simp [ReflectliteValue.flagAddr, loadVar, isAgg, underlying, Tryd.underlying60, hb, Result.andThen, E0.direct25, storeVar, Value.cells, storeCells, Addr.add]
  rw [run_store Tryd.prog W ta _ _ (by rfl)]
  simp [ht, hf]
set_option maxHeartbeats 4000000 in
theorem err_as (e t : Addr) (old : Value) (w : World) (hg : w.cell? ⟨0, 0, none⟩ = some (.iface 153 (.agg #[.pointer (some ⟨5, 24, none⟩)]))) (ht0 : w.cell? t = some old) (hf0 : w.frozen? t = false) :
    Calls Tryd.prog 43 #[.iface 60 (.pointer (some e)), .iface 87 (.pointer (some t))] w fun ev w' => ev = .returned (.bool true) ∧ w' = ((((w.alloc (.cells #[.pointer (some t)] 87)).alloc (.cells #[.pointer (some ⟨5, 87, none⟩), .pointer (some ⟨w.heap.size, 0, none⟩), .int .u64 150] 126)).alloc (.cells #[.pointer (some ⟨5, 87, none⟩), .pointer (some ⟨w.heap.size, 0, none⟩), .int .u64 150] 126)).alloc (.cells #[.pointer (some e)] 60)).setCell t (.pointer (some e)) := by
  have h6 := @run_callFunc_extern Tryd.prog 89 _ (fun args => ReflectliteValue.unpack (args.getD 0 (.tuple #[]))) Tryd.func89 (by kernel_rfl) (by kernel_rfl) (by kernel_rfl) (by kernel_rfl)
  have h7 := @run_callFunc_extern Tryd.prog 90 _ (ReflectliteValue.methodAny (ReflectliteValue.valueError "reflectlite.Value.Type" 0) (fun t _ _ _ => ReflectliteType.toType t)) Tryd.func90 (by kernel_rfl) (by kernel_rfl) (by kernel_rfl) (by kernel_rfl)
  have h8 := @run_callFunc_extern Tryd.prog 91 _ (ReflectliteValue.method (ReflectliteValue.valueError "reflectlite.Value.IsNil" 0) ReflectliteValue.isNil) Tryd.func91 (by kernel_rfl) (by kernel_rfl) (by kernel_rfl) (by kernel_rfl)
  have h27 := @run_callFunc_extern Tryd.prog 170 _ (ReflectliteType.abiMethod fun t => do pure (.int .u8 (← Rtype.kind t))) Tryd.func170 (by kernel_rfl) (by kernel_rfl) (by kernel_rfl) (by kernel_rfl)
  have h37 := @run_callFunc_extern Tryd.prog 183 _ (ReflectliteType.method ReflectliteType.elem) Tryd.func183 (by kernel_rfl) (by kernel_rfl) (by kernel_rfl) (by kernel_rfl)
  have h38 := @run_callFunc_extern Tryd.prog 184 _ (ReflectliteType.relation "Implements" ReflectliteType.implements_) Tryd.func184 (by kernel_rfl) (by kernel_rfl) (by kernel_rfl) (by kernel_rfl)
  have h10 := @run_callFunc_extern Tryd.prog 111 _ ReflectliteType.typeOf Tryd.func111 (by kernel_rfl) (by kernel_rfl) (by kernel_rfl) (by kernel_rfl)
  have h35 := @run_callFunc_extern Tryd.prog 181 _ (ReflectliteType.relation "AssignableTo" ReflectliteType.assignableTo) Tryd.func181 (by kernel_rfl) (by kernel_rfl) (by kernel_rfl) (by kernel_rfl)
  have h11 := @run_callFunc_extern Tryd.prog 121 _ (ReflectliteValue.method (ReflectliteValue.valueError "reflectlite.Value.Elem" 0) ReflectliteValue.elem) Tryd.func121 (by kernel_rfl) (by kernel_rfl) (by kernel_rfl) (by kernel_rfl)
  have h12 := @run_callFunc_extern Tryd.prog 122 _ ReflectliteValue.set Tryd.func122 (by kernel_rfl) (by kernel_rfl) (by kernel_rfl) (by kernel_rfl)
  have tO := E0.typeOf25
  have mA := E0.methodAssignableTo
  have a25 := E0.assignable25
  have v25 := E0.valueOf25
  have f6 := E0.valueOf27
  have f7 := E0.type27
  have mK := E0.methodKind
  have mE := E0.methodElem
  have mI := E0.methodImplements
  have k27 := E0.kind27
  have k25 := E0.kind25
  have e27 := E0.elem27
  have i25 := E0.implements25
  have n8 := E0.isNil27 ⟨w.heap.size, 0, none⟩ t ((w.alloc (.cells #[.pointer (some t)] 87)).alloc (.cells #[.pointer (some ⟨5, 87, none⟩), .pointer (some ⟨w.heap.size, 0, none⟩), .int .u64 150] 126)) (by simp)
  have hlt : 0 < w.heap.size := by
    rcases Nat.eq_zero_or_pos w.heap.size with h0 | h
    · simp [World.cell?, h0] at hg
    · exact h
  have hg2 : ((w.alloc (.cells #[.pointer (some t)] 87)).alloc (.cells #[.pointer (some ⟨5, 87, none⟩), .pointer (some ⟨w.heap.size, 0, none⟩), .int .u64 150] 126)).cell? ⟨0, 0, none⟩ = some (.iface 153 (.agg #[.pointer (some ⟨5, 24, none⟩)])) := by
    rw [World.cell?_alloc_lt _ _ ⟨0, 0, none⟩ (by simp), World.cell?_alloc_lt _ _ ⟨0, 0, none⟩ hlt]; exact hg
  have htl : t.block < w.heap.size := by
    rcases Nat.lt_or_ge t.block w.heap.size with h | h
    · exact h
    · simp [World.cell?, Array.getElem?_eq_none h] at ht0
  have el := E0.elemV27 ⟨w.heap.size, 0, none⟩ t (((w.alloc (.cells #[.pointer (some t)] 87)).alloc (.cells #[.pointer (some ⟨5, 87, none⟩), .pointer (some ⟨w.heap.size, 0, none⟩), .int .u64 150] 126)).alloc (.cells #[.pointer (some ⟨5, 87, none⟩), .pointer (some ⟨w.heap.size, 0, none⟩), .int .u64 150] 126)) (by rw [World.cell?_alloc_lt _ _ ⟨w.heap.size, 0, none⟩ (by simp; omega)]; simp)
  have st := E0.set25 t ⟨w.heap.size + 1 + 1 + 1, 0, none⟩ e old ((((w.alloc (.cells #[.pointer (some t)] 87)).alloc (.cells #[.pointer (some ⟨5, 87, none⟩), .pointer (some ⟨w.heap.size, 0, none⟩), .int .u64 150] 126)).alloc (.cells #[.pointer (some ⟨5, 87, none⟩), .pointer (some ⟨w.heap.size, 0, none⟩), .int .u64 150] 126)).alloc (.cells #[.pointer (some e)] 60))
    (by rw [World.cell?_alloc_at _ _ _ _ (by simp)]; rfl)
    (by rw [World.cell?_alloc_lt _ _ t (by simp; omega), World.cell?_alloc_lt _ _ t (by simp; omega), World.cell?_alloc_lt _ _ t (by simp; omega), World.cell?_alloc_lt _ _ t htl]; exact ht0)
    (by rw [World.frozen?_alloc_old _ _ t (by simp; omega), World.frozen?_alloc_old _ _ t (by simp; omega), World.frozen?_alloc_old _ _ t (by simp; omega), World.frozen?_alloc_old _ _ t (Nat.ne_of_lt htl)]; exact hf0)
  go_enter Tryd.func43, Tryd.ntmps43
  go_wp2
  refine wp_loop_rounds 1 ?_
  rw [rounds_succ]
  go_wp2
  go_ret
  exact ⟨rfl, rfl⟩
end Go.Proofs.YtjmpejbciniceaaDoor.X
namespace Go.Proofs.YtjmpejbciniceaaDoor.X
open Go.RowKit Go.Extern.Stop Go.Stop Go.Extern
set_option linter.unusedVariables false
end Go.Proofs.YtjmpejbciniceaaDoor.X
