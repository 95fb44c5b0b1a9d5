/- Texts of this claim, joined: HSpec, HTy, HTight, HRow2, HIs, HRow, HKeep, HText, HText2. -/
import Derived.Maps.AppendAt
import Derived.Lib.AppendStr
import Derived.Laws.IdiomStrings
import Derived.ProofKit
import Derived.OpenShut
import Derived.ChangeOld
import Derived.SizedLaws
import Derived.ChangeArms
import Derived.RegionTactic
import Derived.ChangeAlike
import Derived.BigRegion
import Derived.Test.YtjmpejbciniceaaDoorKTypesReads2
import Derived.Test.YtjmpejbciniceaaDoorKTypesReads3
import Derived.Test.YtjmpejbciniceaaDoorKTypesReads4
namespace Go.Proofs.YtjmpejbciniceaaDoor.X
open Go.RowKit Go.Proofs.YtjmpejbciniceaaDoorW.PrintWords Go.Proofs.YtjmpejbciniceaaDoorW.PrintLast Go.Proofs.YtjmpejbciniceaaDoorW.PrintMore
set_option linter.unusedVariables false
set_option linter.unusedSimpArgs false
theorem drop_rd (l : List S43) (i : Nat) (h : i < l.length) : l.drop i = rd_T43 l i :: l.drop (i + 1) := by
  rw [List.drop_eq_getElem_cons h]
  congr 1
  simp [rd_T43, List.getD_eq_getElem?_getD, h]
theorem nodesL_rd (l : List S43) (i : Nat) (h : i < l.length) : nodesL (rd_T43 l i).f1 < nodesL l := by
  have := nodesL_take l i h
  rw [nodes_eq] at this
  have := nodesL_take_le l (i + 1)
  omega
theorem S43.eta (x : S43) : (⟨x.f0, x.f1⟩ : S43) = x := by cases x; rfl
theorem Ev_eq {α : Type} {g : Nat → Option α} {r r' : α} (h : Ev g r) (e : r = r') : Ev g r' := e ▸ h
theorem w64 (i : Int) (h0 : -9223372036854775808 ≤ i) (h1 : i ≤ 9223372036854775807) : wrap64 i = i := by unfold wrap64; omega
theorem length_le_nodesL (l : List S43) : l.length ≤ nodesL l := by
  induction l with
  | nil => simp
  | cons x l ih => simp only [List.length_cons, nodesL]; have := nodes_eq x; omega
theorem nodesL_drop (l : List S43) (i : Nat) (h : i < l.length) : nodesL (l.drop i) = nodes (rd_T43 l i) + nodesL (l.drop (i + 1)) := by
  rw [drop_rd l i h, nodesL]
mutual
def depth : S43 → Nat
  | ⟨_, l⟩ => 1 + depthL l
def depthL : List S43 → Nat
  | [] => 0
  | x :: l => max (depth x) (depthL l)
end
theorem depth_eq (x : S43) : depth x = 1 + depthL x.f1 := by cases x; rw [depth]
theorem depthL_drop (l : List S43) (i : Nat) (h : i < l.length) : depthL (l.drop i) = max (depth (rd_T43 l i)) (depthL (l.drop (i + 1))) := by
  rw [drop_rd l i h, depthL]
theorem deep_ev (n : Nat) : ∀ (k : Int) (l : List S43) (left : Int), nodesL l < n → nodesL l ≤ 8192 → 1 ≤ left → left ≤ 201 →
    Ev (fun f => types_deep.f f k l left) (min ((1 + depthL l : Nat) : Int) left) := by
  induction n with
  | zero => intro k l left h; omega
  | succ n ih =>
  intro k l left hn h8 h1 h2
  have hlen := length_le_nodesL l
  by_cases hl : left ≤ 1
  · refine Ev.step (f := fun _ => some left) (fun f => by simp only [types_deep.f]; rw [if_pos hl]) (Ev_eq (Ev.now _) ?_)
    omega
  · have loop : ∀ (d i : Nat) (acc : Int), i ≤ l.length → l.length - i = d → 0 ≤ acc → acc ≤ 200 →
        Ev (fun f => types_deep.l0 f left acc l (l.length : Int) (i : Int)) (max acc (min ((depthL (l.drop i) : Nat) : Int) (left - 1)) + 1) := by
      intro d
      induction d with
      | zero =>
        intro i acc hi hd h0 h200
        refine Ev.step (f := fun _ => some (acc + 1)) (fun f => by simp only [types_deep.l0]; rw [if_neg (by omega), w64 _ (by omega) (by omega)]) (Ev_eq (Ev.now _) ?_)
        rw [List.drop_eq_nil_of_le (by omega), depthL]
        simp
        omega
      | succ d ihd =>
        intro i acc hi hd h0 h200
        have hlt : i < l.length := by omega
        have hr := nodesL_rd l i hlt
        have hdr := depthL_drop l i hlt
        have e1 := ih (rd_T43 l i).f0 (rd_T43 l i).f1 (left - 1) (by omega) (by omega) (by omega) (by omega)
        rw [← depth_eq] at e1
        have e2 := ihd (i + 1) (mx acc (min ((depth (rd_T43 l i) : Nat) : Int) (left - 1))) (by omega) (by omega) (by unfold mx; split <;> omega) (by unfold mx; split <;> omega)
        refine Ev.step (f := fun f => (types_deep.f f (rd_T43 l i).f0 (rd_T43 l i).f1 (left - 1)).bind fun t => types_deep.l0 f left (mx acc t) l (l.length : Int) ((i + 1 : Nat) : Int)) (fun f => ?_) (Ev.bind e1 (Ev_eq e2 ?_))
        · simp only [types_deep.l0]
          rw [if_pos (by omega), if_pos (by omega), if_pos (by omega), w64 (left - 1) (by omega) (by omega), w64 ((i : Int) + 1) (by omega) (by omega)]
          rfl
        · rw [hdr]
          unfold mx
          split <;> omega
    refine Ev.step (f := fun f => types_deep.l0 f left 0 l (l.length : Int) 0) (fun f => by simp only [types_deep.f]; rw [if_neg hl]) (Ev_eq (loop l.length 0 0 (by omega) rfl (by omega) (by omega)) ?_)
    rw [List.drop_zero]
    omega
def partsI (k : Int) : Int := if k = 0 ∨ k = 1 ∨ k = 2 then 0 else if k = 3 ∨ k = 4 ∨ k = 5 then 2 else -1
theorem parts_is (f : Nat) (k : Int) : types_parts.f (f + 1) k = some (partsI k) := by
  unfold types_parts.f partsI
  simp only [types_parts.j0]
  by_cases h0 : k = 0
  · simp [h0]
  by_cases h1 : k = 1
  · simp [h1]
  by_cases h2 : k = 2
  · simp [h2]
  by_cases h3 : k = 3
  · simp [h3]
  by_cases h4 : k = 4
  · simp [h4]
  by_cases h5 : k = 5
  · simp [h5]
  simp [h0, h1, h2, h3, h4, h5]
theorem parts_ev (k : Int) : Ev (fun f => types_parts.f f k) (partsI k) := Ev.step (f := fun _ => some (partsI k)) (fun f => parts_is f k) (Ev.now _)
mutual
def rightB : S43 → Bool
  | ⟨k, l⟩ => decide (partsI k = (l.length : Int)) && rightL l
def rightL : List S43 → Bool
  | [] => true
  | x :: l => rightB x && rightL l
end
theorem rightL_drop (l : List S43) (i : Nat) (h : i < l.length) : rightL (l.drop i) = (rightB (rd_T43 l i) && rightL (l.drop (i + 1))) := by
  rw [drop_rd l i h, rightL]
theorem right_ev (n : Nat) : ∀ (k : Int) (l : List S43), nodesL l < n → nodesL l ≤ 8192 → Ev (fun f => types_right.f f k l) (rightB ⟨k, l⟩) := by
  induction n with
  | zero => intro k l h; omega
  | succ n ih =>
  intro k l hn h8
  have hlen := length_le_nodesL l
  have loop : ∀ (d i : Nat), i ≤ l.length → l.length - i = d → Ev (fun f => types_right.l0 f l (l.length : Int) (i : Int)) (rightL (l.drop i)) := by
    intro d
    induction d with
    | zero =>
      intro i hi hd
      refine Ev.step (f := fun _ => some true) (fun f => by simp only [types_right.l0]; rw [if_neg (by omega)]) (Ev_eq (Ev.now _) ?_)
      rw [List.drop_eq_nil_of_le (by omega), rightL]
    | succ d ihd =>
      intro i hi hd
      have hlt : i < l.length := by omega
      have hr := nodesL_rd l i hlt
      have e1 := ih (rd_T43 l i).f0 (rd_T43 l i).f1 (by omega) (by omega)
      rw [S43.eta] at e1
      refine Ev.step (f := fun f => (types_right.f f (rd_T43 l i).f0 (rd_T43 l i).f1).bind fun t => if t = true then types_right.l0 f l (l.length : Int) ((i + 1 : Nat) : Int) else some false) (fun f => ?_) (Ev.bind e1 ?_)
      · simp only [types_right.l0]
        rw [if_pos (by omega), if_pos (by omega), if_pos (by omega), w64 ((i : Int) + 1) (by omega) (by omega)]
        rfl
      · rw [rightL_drop l i hlt]
        cases rightB (rd_T43 l i) with
        | true => simpa using ihd (i + 1) (by omega) (by omega)
        | false => simpa using Ev.now _
  refine Ev.step (f := fun f => (types_parts.f f k).bind fun t => if t = (l.length : Int) then types_right.l0 f l (l.length : Int) 0 else some false) (fun f => by simp only [types_right.f]) (Ev.bind (parts_ev k) ?_)
  rw [rightB]
  by_cases hp : partsI k = (l.length : Int)
  · simp only [hp, if_true, decide_true, Bool.true_and]
    exact Ev_eq (loop l.length 0 (by omega) rfl) (by rw [List.drop_zero])
  · simpa [hp] using Ev.now _
def checkI (t : S43) : Int := if 8192 < nodes t then 32 else if 200 < depth t then 31 else if rightB t = true then 0 else 20
theorem Check_ev (k : Int) (l : List S43) : Ev (fun f => types_Check.f f k l) (checkI ⟨k, l⟩) := by
  unfold checkI types_Check.f types_Nodes.f types_Depth.f types_Nodes.f
  rw [nodes, depth]
  by_cases h8 : 8192 < 1 + nodesL l
  · rw [if_pos h8]
    have : ((min (1 + nodesL l) 8193 : Nat) : Int) > 8192 := by omega
    simpa [this] using Ev.now _
  · rw [if_neg h8]
    have h9 : ¬ ((min (1 + nodesL l) 8193 : Nat) : Int) > 8192 := by omega
    simp only [Option.bind_some, h9, if_false]
    have e1 := deep_ev (nodesL l + 1) k l 201 (by omega) (by omega) (by omega) (by omega)
    refine Ev.bind (a := (min ((1 + depthL l : Nat) : Int) 201)) (Ev_eq (Ev.bind e1 (Ev.now _)) rfl) ?_
    by_cases h2 : 200 < 1 + depthL l
    · rw [if_pos h2]
      have h3 : (min ((1 + depthL l : Nat) : Int) 201) > 200 := by omega
      simp only [h3, if_true]
      exact Ev.now _
    · rw [if_neg h2]
      have h3 : ¬ (min ((1 + depthL l : Nat) : Int) 201) > 200 := by omega
      simp only [h3, if_false]
      refine Ev.bind (right_ev (nodesL l + 1) k l (by omega) (by omega)) ?_
      cases rightB ⟨k, l⟩ <;> simpa using Ev.now _
theorem check_nodes {t : S43} (h : checkI t = 0) : nodes t ≤ 8192 ∧ depth t ≤ 200 ∧ rightB t = true := by
  unfold checkI at h
  split at h
  · omega
  split at h
  · omega
  split at h
  · exact ⟨by omega, by omega, by assumption⟩
  · omega
end Go.Proofs.YtjmpejbciniceaaDoor.X
namespace Go.Proofs.YtjmpejbciniceaaDoor.X
open Go.RowKit Go.Proofs.YtjmpejbciniceaaDoorW.PrintWords Go.Proofs.YtjmpejbciniceaaDoorW.PrintLast Go.Proofs.YtjmpejbciniceaaDoorW.PrintMore
set_option linter.unusedVariables false
set_option linter.unusedSimpArgs false
def leafK (k : Int) : Prop := k = 0 ∨ k = 1 ∨ k = 2
def nodeK (k : Int) : Prop := k = 3 ∨ k = 4 ∨ k = 5
theorem right_cases {t : S43} (h : rightB t = true) : (∃ k, leafK k ∧ t = ⟨k, []⟩) ∨ (∃ k a b, nodeK k ∧ rightB a = true ∧ rightB b = true ∧ t = ⟨k, [a, b]⟩) := by
  obtain ⟨k, l⟩ := t
  rw [rightB] at h
  simp only [Bool.and_eq_true, decide_eq_true_eq] at h
  obtain ⟨h1, h2⟩ := h
  by_cases hl : k = 0 ∨ k = 1 ∨ k = 2
  · have : partsI k = 0 := by unfold partsI; rw [if_pos hl]
    rw [this] at h1
    have : l = [] := List.eq_nil_of_length_eq_zero (by omega)
    exact .inl ⟨k, hl, by rw [this]⟩
  · by_cases hn : k = 3 ∨ k = 4 ∨ k = 5
    · have : partsI k = 2 := by unfold partsI; rw [if_neg hl, if_pos hn]
      rw [this] at h1
      match l, h1, h2 with
      | [a, b], _, h2 =>
        simp only [rightL, Bool.and_eq_true] at h2
        exact .inr ⟨k, a, b, hn, h2.1, h2.2.1, rfl⟩
    · have : partsI k = -1 := by unfold partsI; rw [if_neg hl, if_neg hn]
      omega
theorem nodes_two (k : Int) (a b : S43) : nodes ⟨k, [a, b]⟩ = 1 + nodes a + nodes b := by simp only [nodes, nodesL]; omega
theorem nodes_leaf (k : Int) : nodes ⟨k, []⟩ = 1 := by simp only [nodes, nodesL]
theorem nodes_pos (t : S43) : 0 < nodes t := by rw [nodes_eq]; omega
theorem right_ind {P : S43 → Prop} (leaf : ∀ k, leafK k → P ⟨k, []⟩) (node : ∀ k a b, nodeK k → rightB a = true → rightB b = true → P a → P b → P ⟨k, [a, b]⟩) : ∀ t, rightB t = true → P t := by
  suffices h : ∀ n t, nodes t < n → rightB t = true → P t from fun t ht => h (nodes t + 1) t (by omega) ht
  intro n
  induction n with
  | zero => intro t h; omega
  | succ n ih =>
    intro t hn ht
    rcases right_cases ht with ⟨k, hk, rfl⟩ | ⟨k, a, b, hk, ha, hb, rfl⟩
    · exact leaf k hk
    · rw [nodes_two] at hn
      have := nodes_pos a
      have := nodes_pos b
      exact node k a b hk ha hb (ih a (by omega) ha) (ih b (by omega) hb)
theorem leaf_ne_node {k : Int} (h : leafK k) : ¬ nodeK k := by rcases h with rfl | rfl | rfl <;> simp [nodeK]
mutual
def likeB : S43 → S43 → Bool
  | ⟨k, l⟩, b => decide (k = b.f0) && likeL l b.f1
def likeL : List S43 → List S43 → Bool
  | [], m => match m with
    | [] => true
    | _ :: _ => false
  | x :: l, m => match m with
    | [] => false
    | y :: m => likeB x y && likeL l m
end
theorem likeB_eq (a b : S43) : likeB a b = (decide (a.f0 = b.f0) && likeL a.f1 b.f1) := by cases a; rw [likeB]
theorem like_iff_aux (n : Nat) : (∀ a b : S43, nodes a < n → (likeB a b = true ↔ a = b)) ∧ (∀ l m : List S43, nodesL l < n → (likeL l m = true ↔ l = m)) := by
  induction n with
  | zero => exact ⟨fun _ _ h => by omega, fun _ _ h => by omega⟩
  | succ n ih =>
    have hL : ∀ l m : List S43, nodesL l < n + 1 → (likeL l m = true ↔ l = m) := by
      intro l
      induction l with
      | nil => intro m _; cases m <;> simp [likeL]
      | cons x l ihl =>
        intro m hn
        rw [nodesL] at hn
        have := nodes_pos x
        cases m with
        | nil => simp [likeL]
        | cons y m =>
          rw [likeL, Bool.and_eq_true, ihl m (by omega)]
          by_cases hx : nodes x < n
          · rw [(ih.1 x y hx)]; simp
          · have hl0 : nodesL l = 0 := by omega
            obtain ⟨k, lx⟩ := x
            rw [nodes] at hn hx
            have := (ih.2 lx y.f1 (by omega))
            rw [likeB, Bool.and_eq_true, this, decide_eq_true_eq]
            cases y
            simp
    refine ⟨fun a b hn => ?_, hL⟩
    obtain ⟨k, l⟩ := a
    rw [nodes] at hn
    rw [likeB, Bool.and_eq_true, hL l b.f1 (by omega), decide_eq_true_eq]
    cases b
    simp
theorem like_iff (a b : S43) : likeB a b = true ↔ a = b := (like_iff_aux (nodes a + 1)).1 a b (by omega)
theorem like_two {k k' : Int} {a b a' b' : S43} : likeB ⟨k, [a, b]⟩ ⟨k', [a', b']⟩ = (decide (k = k') && (likeB a a' && likeB b b')) := by
  simp [likeB, likeL]
end Go.Proofs.YtjmpejbciniceaaDoor.X
namespace Go.Proofs.YtjmpejbciniceaaDoor.X
open Go.RowKit Go.Proofs.YtjmpejbciniceaaDoorW.PrintWords Go.Proofs.YtjmpejbciniceaaDoorW.PrintLast Go.Proofs.YtjmpejbciniceaaDoorW.PrintMore
set_option linter.unusedVariables false
set_option linter.unusedSimpArgs false
def tightI (k : Int) : Int := if k = 3 then 1 else if k = 4 then 3 else if k = 5 then 2 else 4
def signL (k : Int) : List UInt8 := if k = 0 then [63] else if k = 1 then [105, 110, 116] else if k = 2 then [98, 111, 111, 108] else if k = 3 then [32, 45, 62, 32] else if k = 4 then [32, 42, 32] else [32, 43, 32]
def signS (k : Int) : ByteArray := ⟨(signL k).toArray⟩
theorem signS_list (k : Int) : (signS k).data.toList = signL k := rfl
theorem kind_cases {k : Int} (h : leafK k ∨ nodeK k) : k = 0 ∨ k = 1 ∨ k = 2 ∨ k = 3 ∨ k = 4 ∨ k = 5 := by
  rcases h with h | h <;> rcases h with rfl | rfl | rfl <;> simp
theorem tight_calls {k : Int} (h : leafK k ∨ nodeK k) (w : World) : Calls Tryd.prog 113 #[.int .i8 k] w fun e w' => e = .returned (.int .i64 (tightI k)) ∧ Below w.heap.size w w' := by
  rcases kind_cases h with rfl | rfl | rfl | rfl | rfl | rfl
  all_goals
    go_enter Tryd.func113, Tryd.ntmps113
    go_wp2_with fail
    go_ret
    exact ⟨rfl, (Below.refl _ _).alloc (Nat.le_refl _) _⟩
theorem sign_calls {k : Int} (h : leafK k ∨ nodeK k) (w : World) : Calls Tryd.prog 114 #[.int .i8 k] w fun e w' => e = .returned (.string (signS k)) ∧ Below w.heap.size w w' := by
  rcases kind_cases h with rfl | rfl | rfl | rfl | rfl | rfl
  all_goals
    go_enter Tryd.func114, Tryd.ntmps114
    go_wp2_with fail
    go_ret
    exact ⟨rfl, (Below.refl _ _).alloc (Nat.le_refl _) _⟩
end Go.Proofs.YtjmpejbciniceaaDoor.X
namespace Go.Proofs.YtjmpejbciniceaaDoor.X
open Go.RowKit Go.Proofs.YtjmpejbciniceaaDoorW.PrintWords Go.Proofs.YtjmpejbciniceaaDoorW.PrintLast Go.Proofs.YtjmpejbciniceaaDoorW.PrintMore
set_option linter.unusedVariables false
set_option linter.unusedSimpArgs false
theorem info5 : (Tryd.prog.info? 5).map (fun i => (i.zero, i.size, i.bytes)) = some (some (.int .u8 0), 1, 1) := by kernel_rfl
def cellsU (l : List UInt8) : List Value := l.map fun b => Value.int .u8 b.toNat
theorem cellsU_append (l m : List UInt8) : cellsU (l ++ m) = cellsU l ++ cellsU m := List.map_append
structure Grew (v : Value) (w : World) (v' : Value) (w' : World) : Prop where
  by_ : w.grownBy w' v.ownBlock
  at_ : v'.ownBlock = v.ownBlock ∨ ∃ g, v'.ownBlock = some g ∧ w.heap.size ≤ g
theorem Grew.refl (v : Value) (w : World) : Grew v w v w := ⟨⟨rfl, rfl, rfl, Nat.le_refl _, fun _ _ _ => rfl⟩, .inl rfl⟩
theorem Grew.trans {v w v1 w1 v2 w2} (h : Grew v w v1 w1) (k : Grew v1 w1 v2 w2) : Grew v w v2 w2 := by
  refine ⟨⟨k.by_.os.trans h.by_.os, k.by_.tape.trans h.by_.tape, k.by_.output.trans h.by_.output, Nat.le_trans h.by_.size k.by_.size, fun i hi hne => ?_⟩, ?_⟩
  · rw [k.by_.block i (Nat.lt_of_lt_of_le hi h.by_.size) ?_, h.by_.block i hi hne]
    rcases h.at_ with e | ⟨g, e, hg⟩
    · rw [e]; exact hne
    · rw [e]; intro he; injection he with he; omega
  · rcases k.at_ with e | ⟨g, e, hg⟩
    · rw [e]; exact h.at_
    · exact .inr ⟨g, e, Nat.le_trans h.by_.size hg⟩
theorem Grew.below {v : Value} {w w' : World} (h : Below w.heap.size w w') : Grew v w v w' :=
  ⟨⟨h.os, h.tape, h.output, h.size, fun i hi _ => h.block i hi⟩, .inl rfl⟩
theorem Grew.keep {v : Value} {w : World} {v' : Value} {w' : World} (h : Grew v w v' w') {g : Nat} {b : Obj} (hg : w.heap[g]? = some b) (hne : v.ownBlock ≠ some g) : w'.heap[g]? = some b ∧ v'.ownBlock ≠ some g := by
  have hlt : g < w.heap.size := (Array.getElem?_eq_some_iff.1 hg).1
  refine ⟨(h.by_.block g hlt (fun e => hne e.symm)).trans hg, ?_⟩
  rcases h.at_ with e | ⟨k, e, hk⟩
  · rw [e]; exact hne
  · rw [e]; intro he; injection he with he; omega
structure OwnB (W0 : World) (v : Value) (l : List UInt8) (w : World) : Prop where
  row : w.ownsRow W0.heap.size 5 1 v l.length (cellsU l)
  below : Below W0.heap.size W0 w
theorem OwnB.nil (w : World) : OwnB w (.slice none 0 0) [] w := ⟨World.ownsRow_nil _ _ _ _, Below.refl _ _⟩
theorem ownsRow_below {w w' : World} {base e size n : Nat} {v : Value} {xs : List Value} (h : w.ownsRow base e size v n xs) (hb : Below w.heap.size w w') : w'.ownsRow base e size v n xs :=
  ⟨h.1, h.2.imp id fun ⟨g, cap, cur, h1, h2, h3, h4⟩ => ⟨g, cap, cur, h1, h2, (hb.block g (Array.getElem?_eq_some_iff.1 h3).1).trans h3, h4⟩⟩
theorem OwnB.after {W0 : World} {v : Value} {l : List UInt8} {w w' : World} (h : OwnB W0 v l w) (hb : Below w.heap.size w w') : OwnB W0 v l w' :=
  ⟨ownsRow_below h.row hb, below_then h.below h.below.size hb⟩
theorem OwnB.grown {W0 : World} {v v' : Value} {l l' : List UInt8} {w w' : World} (h : OwnB W0 v l w) (ho : w'.ownsRow W0.heap.size 5 1 v' l'.length (cellsU l')) (hg : w.grownBy w' v.ownBlock) : OwnB W0 v' l' w' :=
  ⟨ho, h.below.grown hg h.below.size (fun k hk => (h.row.lt k hk).1)⟩
theorem text_at {w : World} {base : Nat} {v : Value} {n : Nat} {xs : List Value} {ty : TypeId} (hown : w.ownsRow base 5 1 v n xs) (s : ByteArray) (hlen : n + s.size ≤ 1000000000) {v' : Value} {w' : World}
    (hr : (Builtin.append_ #[111, 9] ty #[v, .string s]).run Tryd.prog w = .ok v' w') : v'.ownBlock = v.ownBlock ∨ v'.ownBlock = some w.heap.size := by
  obtain ⟨i0, hi, hz, hz1, hz2⟩ := info_parts info5
  have hxl : xs.length = n := by simpa using hown.1
  rcases hown.2 with ⟨rfl, rfl⟩ | ⟨g, cap, cur, rfl, hbg, hg, hnc, hcm, hcs, htake⟩
  · by_cases hm : s.size = 0
    · obtain ⟨v2, w2, h2, _, _, h4⟩ := Lib.run_append_own_string (P := Tryd.prog) w 0 111 9 ty 5 i0 Tryd.underlying111 Tryd.underlying9 hi hz hz1 hz2 _ 0 xs ⟨by simpa using hxl, .inl ⟨rfl, rfl⟩⟩ s (by unfold maxLen; omega) (by omega) (Nat.zero_le _)
      rw [hr] at h2
      injection h2 with h2 h3
      subst h2
      rw [h4.2 ⟨rfl, hm⟩]
      exact .inl rfl
    · have h2 := run_append_nil_string (P := Tryd.prog) w 111 9 ty 5 i0 (.int .u8 0) Tryd.underlying111 Tryd.underlying9 hi hz s (by omega) (by omega) (by rw [hz2]; omega)
      rw [hr] at h2
      injection h2 with h2 h3
      subst h2
      exact .inr rfl
  · by_cases hroom : n + s.size ≤ cap
    · have h2 := Lib.run_append_room_string (P := Tryd.prog) w 111 9 ty 5 i0 Tryd.underlying111 Tryd.underlying9 hi hz1 g n cap cur hg s hroom (by omega)
      rw [hr] at h2
      injection h2 with h2 h3
      subst h2
      exact .inl rfl
    · have h2 := Lib.run_append_grow_string (P := Tryd.prog) w 111 9 ty 5 i0 (.int .u8 0) Tryd.underlying111 Tryd.underlying9 hi hz ⟨g, 0, none⟩ n cap xs (by rw [hz1]; simpa using hxl) (hown.cells (g := g) rfl) s (by omega) (by omega) (by rw [hz2]; exact growslice_fits (by omega) (by omega))
      rw [hr] at h2
      injection h2 with h2 h3
      subst h2
      exact .inr rfl
theorem wpList_text {ops : Array Oper} {rest : List Oper} {o : Oper} {a : Act} {Q : Exit → Act → World → Prop} {w : World} (hgd : o.guard = none) (sl x : Operand)
    (ho : o.op = .call { callee := .builtin .append, args := #[sl, x], argTypes := #[111, 9] })
    {W0 : World} {v : Value} {l : List UInt8} (hs : a.eval sl = v) (hb : OwnB W0 v l w) (s : ByteArray) (hx : a.eval x = .string s) (hlen : l.length + s.size ≤ 1000000000)
    (h : ∀ v' w', OwnB W0 v' (l ++ s.data.toList) w' → Grew v w v' w' → wpList Tryd.prog ops Q rest (a.put o.dst v') w') : wpList Tryd.prog ops Q (o :: rest) a w := by
  obtain ⟨i0, hi, hz, hz1, hz2⟩ := info_parts info5
  refine wpList_plain hgd fun K hK => ?_
  obtain ⟨v', w', hr, h2, h3, h4⟩ := Lib.run_append_own_string (P := Tryd.prog) w W0.heap.size 111 9 o.type 5 i0 Tryd.underlying111 Tryd.underlying9 hi hz hz1 hz2 v l.length (cellsU l) hb.row s (by unfold maxLen; omega) (by omega) hb.below.size
  have hat := text_at hb.row s hlen hr
  unfold Oper.wp execOp
  simp only [ho, resolve, invoke, builtin, Sem.run_bind, Sem.run_pure, Result.andThen_ok, List.map_toArray, List.map_cons, List.map_nil, hs, hx, hr]
  refine hK _ _ (h v' w' (hb.grown ?_ h3) ⟨h3, hat.imp id fun e => ⟨_, e, Nat.le_refl _⟩⟩)
  have e1 : (l ++ s.data.toList).length = l.length + s.size := by simp
  rw [e1, cellsU_append]
  exact h2
theorem wp_byte {o : Oper} {a : Act} {K : Act → World → Prop} {Q : Exit → Act → World → Prop} {w : World} (sl x : Operand) {d : Option Tmp} (hd : o.dst = d)
    (ho : o.op = .call { callee := .builtin .append, args := #[sl, x], argTypes := #[111, 111] })
    {W0 : World} {v : Value} {l : List UInt8} (hs : a.eval sl = v) (hb : OwnB W0 v l w) (g : Nat) (c : UInt8) (hx : a.eval x = .slice (some ⟨g, 0, none⟩) 1 1) (hg : w.heap[g]? = some (.cells #[.int .u8 c.toNat] 5 (0, 0))) (hlen : l.length + 1 ≤ 1000000000)
    (h : ∀ v' w', OwnB W0 v' (l ++ [c]) w' → Grew v w v' w' → K (a.put d v') w') : o.wp Tryd.prog a w K Q := by
  subst hd
  obtain ⟨i0, hi, hz, hz1, hz2⟩ := info_parts info5
  obtain ⟨v', w', hr, h2, h3, h4, h5⟩ := run_append_own_at (P := Tryd.prog) w W0.heap.size 111 o.type 5 i0 (.int .u8 0) 1 1 Tryd.underlying111 hi hz hz1 hz2 rfl (by omega) v l.length (cellsU l) hb.row ⟨g, 0, none⟩ 1 1 [.int .u8 c.toNat] rfl
    (by intro j u hj; match j, hj with
        | 0, hj => simp at hj; subst hj; simpa [Addr.add] using (blk_cell hg 0)
        | (j + 1), hj => simp at hj)
    (by intro u hu; simp at hu; subst hu; rfl) (by unfold maxLen; omega) (by omega) hb.below.size
  unfold Oper.wp execOp
  simp only [ho, resolve, invoke, builtin, Sem.run_bind, Sem.run_pure, Result.andThen_ok, List.map_toArray, List.map_cons, List.map_nil, hs, hx, hr]
  refine h v' w' (hb.grown ?_ h3) ⟨h3, h5.imp id fun e => ⟨_, e, Nat.le_refl _⟩⟩
  have e1 : (l ++ [c]).length = l.length + 1 := by simp
  rw [e1, cellsU_append]
  exact h2
theorem bytes_back {W0 w : World} {v : Value} {l : List UInt8} (hb : OwnB W0 v l w) (hl : l ≠ []) : (convert 111 9 v).run Tryd.prog w = .ok (.string ⟨l.toArray⟩) w := by
  rcases hb.row.2 with ⟨rfl, h0⟩ | ⟨g, cap, cur, rfl, hbg, hg, hnc, hcm, hcs, htake⟩
  · exact absurd (List.eq_nil_of_length_eq_zero h0) hl
  · refine run_convert_bytes_back w 111 9 5 ⟨g, 0, none⟩ cap l Tryd.underlying111 Tryd.underlying5 Tryd.underlying9 (fun j hj => ?_)
    refine hb.row.cells (g := g) rfl j _ ?_
    simp [cellsU, List.getElem?_eq_getElem hj]
end Go.Proofs.YtjmpejbciniceaaDoor.X
namespace Go.Proofs.YtjmpejbciniceaaDoor.X
open Go.RowKit Go.Proofs.YtjmpejbciniceaaDoorW.PrintWords Go.Proofs.YtjmpejbciniceaaDoorW.PrintLast Go.Proofs.YtjmpejbciniceaaDoorW.PrintMore
set_option linter.unusedVariables false
set_option linter.unusedSimpArgs false
def IsT (w : World) (v : Value) (t : S43) : Prop := ∃ A c, v = .agg #[.int .i8 t.f0, .slice A t.f1.length c] ∧ t.f1.length ≤ c ∧ Kd.C k43 w A t.f1.length t.f1
theorem IsT.below {w w' : World} {v : Value} {t : S43} (h : IsT w v t) (hb : Below w.heap.size w w') : IsT w' v t := by
  obtain ⟨A, c, e, h1, h2⟩ := h
  exact ⟨A, c, e, h1, Kd.C_below h2 hb⟩
theorem IsT.zero (w : World) : IsT w (.agg #[.int .i8 0, .slice none 0 0]) z43 := ⟨none, 0, rfl, Nat.le_refl _, rfl, by simp [z43], fun h => absurd h (by simp [z43])⟩
theorem IsT.mk {w : World} {k : Int} {A : Option Addr} {l : List S43} {c : Nat} (h1 : l.length ≤ c) (h2 : Kd.C k43 w A l.length l) : IsT w (.agg #[.int .i8 k, .slice A l.length c]) ⟨k, l⟩ := ⟨A, c, rfl, h1, h2⟩
theorem Check_calls {t : S43} {v : Value} {w : World} (h : IsT w v t) : Calls Tryd.prog 34 #[v] w fun e w' => e = .returned (.int .i64 (checkI t)) ∧ Below w.heap.size w w' := by
  obtain ⟨A, c, rfl, h1, h2⟩ := h
  obtain ⟨k, hk⟩ := (Check_ev t.f0 t.f1).rounds
  rw [S43.eta] at hk
  exact types_Check.calls k t.f0 A c t.f1 _ w h2 h1 hk
end Go.Proofs.YtjmpejbciniceaaDoor.X
namespace Go.Proofs.YtjmpejbciniceaaDoor.X
open Go.ChangeShapes Go.WideShapes Go.ChangeAt Go.RowKit Go.Proofs.YtjmpejbciniceaaDoorW.PrintWords
set_option linter.unusedVariables false
theorem list_of_lt {α : Type} {n : Nat} {p : Nat → α → Prop} (h : ∀ i, i < n → ∃ x, p i x) : ∃ l : List α, l.length = n ∧ ∀ i x, l[i]? = some x → p i x := by
  induction n with
  | zero => exact ⟨[], rfl, fun i x h => by simp at h⟩
  | succ n ih =>
    obtain ⟨l, hl, hp⟩ := ih (fun i hi => h i (by omega))
    obtain ⟨x, hx⟩ := h n (by omega)
    refine ⟨l ++ [x], by simp [hl], fun i y hy => ?_⟩
    rcases Nat.lt_or_ge i n with hi | hi
    · rw [List.getElem?_append_left (by omega)] at hy
      exact hp i y hy
    · have hi2 : i = n := by
        have := (List.getElem?_eq_some_iff.1 hy).1
        simp at this
        omega
      subst hi2
      rw [List.getElem?_append_right (by omega)] at hy
      simp [hl] at hy
      subst hy
      exact hx
section
variable {H : Type} {enc : TypeId × Value → H} {P : Program} {w : World} {base : Nat} {spare : Nat → Bool} {held : Bool}
theorem row_of_trod {α : Type} (d : Kd α) {t e : TypeId} (ht : P.underlying t = some (.slice e)) (hc : P.cellsOf e = d.sz) {fuel : Nat} {cs : List Value} {x : DataW H × List MemPlace}
    (ih : ∀ n, n < fuel → ∀ cs x, DataW.trod enc P w base spare held n e cs = some x → ∃ v, d.K w v cs) (h : DataW.trod enc P w base spare held fuel t cs = some x) :
    ∃ A l c, cs = [.slice A l.length c] ∧ l.length ≤ c ∧ c ≤ maxLen ∧ Kd.C d w A l.length l := by
  rcases DataW.trod_slice ht h with ⟨rfl, _⟩ | ⟨a, len, cap, elems, rest, n, rfl, rfl, _, hb, hl, hm, hlen, hel, _, _⟩
  · exact ⟨none, [], 0, rfl, Nat.le_refl _, Nat.zero_le _, rfl, by simp, fun h => absurd h (by simp)⟩
  · have key : ∀ i, i < len → ∃ v cs', cs'.length = d.sz ∧ d.K w v cs' ∧ ∀ j u, cs'[j]? = some u → w.cell? (a.add (i * d.sz + j)) = some u := fun i hi => by
      have h1 := hel i hi
      rw [List.getElem?_eq_getElem (by omega)] at h1
      obtain ⟨cs', h2, h3⟩ := Option.bind_eq_some_iff.1 h1
      obtain ⟨v, hv⟩ := ih n (Nat.lt_succ_self n) _ _ h3
      rw [hc] at h2
      obtain ⟨_, h4, h5⟩ := World.cells?_some h2
      refine ⟨v, cs', h4, hv, fun j u hu => ?_⟩
      have hj : j < d.sz := by rw [← h4]; exact (List.getElem?_eq_some_iff.1 hu).1
      rw [← hu, ← h5 j hj]
      congr 1
      unfold Addr.add
      by_cases h6 : i * d.sz = 0 <;> by_cases h7 : j = 0 <;> simp [h6, h7, Nat.add_assoc] <;> omega
    obtain ⟨l, hll, hp⟩ := list_of_lt key
    subst hll
    exact ⟨some a, l, cap, rfl, hl, hm, rfl, by simp only [maxLen] at hm; omega, fun _ => ⟨a, rfl, fun j p hj => by
      obtain ⟨c, h1, h2, h3⟩ := hp j p hj
      exact ⟨c, h1, h2, h3⟩⟩⟩
end
section
variable {H : Type} {enc : TypeId × Value → H} {w : World} {base : Nat} {spare : Nat → Bool} {held : Bool}
end
end Go.Proofs.YtjmpejbciniceaaDoor.X
namespace Go.Proofs.YtjmpejbciniceaaDoor.X
open Go.ChangeShapes Go.WideShapes Go.ChangeAt Go.RowKit Go.Proofs.YtjmpejbciniceaaDoorW.PrintWords
set_option linter.unusedVariables false
theorem IsT.leaf (w : World) (k : Int) : IsT w (.agg #[.int .i8 k, .slice none 0 0]) ⟨k, []⟩ := ⟨none, 0, rfl, Nat.le_refl _, rfl, by simp, fun h => absurd h (by simp)⟩
theorem below1 (w : World) (a : Array Value) (ta : TypeId) : Below w.heap.size w (w.alloc (.cells a ta)) := (Below.refl _ _).alloc (Nat.le_refl _) _
theorem one_block {w : World} {a : Array Value} {ta : TypeId} {w1 : World} (hB : Below (w.alloc (.cells a ta)).heap.size (w.alloc (.cells a ta)) w1) :
    w1.heap[w.heap.size]? = some (.cells a ta (0, 0)) ∧ Below w.heap.size w w1 := by
  have h1 := heap_alloc_new w (.cells a ta)
  have hb : Below w.heap.size w (w.alloc (.cells a ta)) := (Below.refl _ _).alloc (Nat.le_refl _) _
  exact ⟨blk_below h1 hB, below_then hb hb.size hB⟩
theorem C_four {w : World} {ad : Addr} {a b : S43} {Aa Ab : Option Addr} {ca cb : Nat} (h0 : w.cell? (ad.add 0) = some (.int .i8 a.f0)) (h1 : w.cell? (ad.add 1) = some (.slice Aa a.f1.length ca)) (h2 : w.cell? (ad.add 2) = some (.int .i8 b.f0)) (h3 : w.cell? (ad.add 3) = some (.slice Ab b.f1.length cb))
    (ha1 : a.f1.length ≤ ca) (hb1 : b.f1.length ≤ cb) (hca : Kd.C k43 w Aa a.f1.length a.f1) (hcb : Kd.C k43 w Ab b.f1.length b.f1) : Kd.C k43 w (some ad) 2 [a, b] := by
  refine ⟨rfl, by simp, fun _ => ⟨_, rfl, fun j p hj => ?_⟩⟩
  match j, hj with
  | 0, hj =>
    obtain rfl : a = p := by simpa using hj
    refine ⟨_, rfl, k43_mk w a ha1 hca, fun i u hu => ?_⟩
    match i, hu with
    | 0, hu => exact h0.trans hu
    | 1, hu => exact h1.trans hu
  | 1, hj =>
    obtain rfl : b = p := by simpa using hj
    refine ⟨_, rfl, k43_mk w b hb1 hcb, fun i u hu => ?_⟩
    match i, hu with
    | 0, hu => exact h2.trans hu
    | 1, hu => exact h3.trans hu
theorem IsT.open2 {w : World} {v : Value} {k : Int} {x y : S43} (h : IsT w v ⟨k, [x, y]⟩) : ∃ (ad : Addr) (c : Nat) (Bx : Option Addr) (dx : Nat) (By : Option Addr) (dy : Nat), v = .agg #[.int .i8 k, .slice (some ad) 2 c] ∧
    (w.cell? ad = some (.int .i8 x.f0) ∧ w.cell? ⟨ad.block, ad.off + 1, none⟩ = some (.slice Bx x.f1.length dx) ∧ w.cell? ⟨ad.block, ad.off + 2, none⟩ = some (.int .i8 y.f0) ∧ w.cell? ⟨ad.block, ad.off + 2 + 1, none⟩ = some (.slice By y.f1.length dy)) ∧ IsT w (.agg #[.int .i8 x.f0, .slice Bx x.f1.length dx]) x ∧ IsT w (.agg #[.int .i8 y.f0, .slice By y.f1.length dy]) y ∧ ad.block < w.heap.size := by
  obtain ⟨A, c, rfl, h1, h2⟩ := h
  obtain ⟨ad, B1, d1, hA, hx0, hx1, hl1, hi1⟩ := at_T43 h2 0 (by simp) (by simp)
  obtain ⟨ad', B2, d2, hA', hy0, hy1, hl2, hi2⟩ := at_T43 h2 1 (by simp) (by simp)
  obtain rfl : some ad = A := hA.symm
  obtain rfl : ad = ad' := by simpa using hA'
  have ra : rd_T43 [x, y] 0 = x := rfl
  have rb : rd_T43 [x, y] 1 = y := rfl
  simp only [ra, rb] at hx0 hx1 hy0 hy1 hl1 hl2 hi1 hi2
  have hlt := World.block_lt_of_cell? w _ hx0
  simp [Addr.add] at hx0 hx1 hy0 hy1 hlt
  have TA := IsT.mk (k := x.f0) hl1 hi1
  have TB := IsT.mk (k := y.f0) hl2 hi2
  rw [S43.eta] at TA TB
  exact ⟨ad, c, B1, d1, B2, d2, rfl, ⟨hx0, hx1, hy0, hy1⟩, TA, TB, hlt⟩
theorem four_of {W w' : World} {ad : Addr} {x y : S43} {Bx By : Option Addr} {dx dy : Nat} (h : (W.cell? ad = some (.int .i8 x.f0) ∧ W.cell? ⟨ad.block, ad.off + 1, none⟩ = some (.slice Bx x.f1.length dx) ∧ W.cell? ⟨ad.block, ad.off + 2, none⟩ = some (.int .i8 y.f0) ∧ W.cell? ⟨ad.block, ad.off + 2 + 1, none⟩ = some (.slice By y.f1.length dy))) (hB : Below W.heap.size W w') : (w'.cell? ad = some (.int .i8 x.f0) ∧ w'.cell? ⟨ad.block, ad.off + 1, none⟩ = some (.slice Bx x.f1.length dx) ∧ w'.cell? ⟨ad.block, ad.off + 2, none⟩ = some (.int .i8 y.f0) ∧ w'.cell? ⟨ad.block, ad.off + 2 + 1, none⟩ = some (.slice By y.f1.length dy)) :=
  ⟨pw_cell_below hB h.1, pw_cell_below hB h.2.1, pw_cell_below hB h.2.2.1, pw_cell_below hB h.2.2.2⟩
end Go.Proofs.YtjmpejbciniceaaDoor.X
namespace Go.Proofs.YtjmpejbciniceaaDoor.X
open Go.RowKit Go.Proofs.YtjmpejbciniceaaDoorW.PrintWords Go.Proofs.YtjmpejbciniceaaDoorW.PrintLast Go.Proofs.YtjmpejbciniceaaDoorW.PrintMore
set_option linter.unusedVariables false
set_option linter.unusedSimpArgs false
def brk (b : Bool) (t : List UInt8) : List UInt8 := if b then 40 :: (t ++ [41]) else t
def parC (p : Int × List UInt8) (least : Int) : List UInt8 := brk (decide (tightI p.1 < least)) p.2
def leftI (k : Int) : Int := if k = 3 then tightI k + 1 else tightI k
def rightI (k : Int) : Int := if k = 3 then tightI k else tightI k + 1
def joinC (k : Int) : List (Int × List UInt8) → List UInt8
  | [p, q] => parC p (leftI k) ++ signL k ++ parC q (rightI k)
  | _ => signL k
mutual
def core : S43 → List UInt8
  | ⟨k, l⟩ => joinC k (coreL l)
def coreL : List S43 → List (Int × List UInt8)
  | [] => []
  | x :: l => (x.f0, core x) :: coreL l
end
def parT (t : S43) (least : Int) : List UInt8 := brk (decide (tightI t.f0 < least)) (core t)
theorem core_leaf (k : Int) : core ⟨k, []⟩ = signL k := by simp [core, coreL, joinC]
theorem core_two (k : Int) (x y : S43) : core ⟨k, [x, y]⟩ = parT x (leftI k) ++ signL k ++ parT y (rightI k) := by simp [core, coreL, joinC, parC, parT]
theorem brk_len (b : Bool) (t : List UInt8) : (brk b t).length ≤ t.length + 2 := by unfold brk; split <;> simp
theorem signL_len (k : Int) : (signL k).length ≤ 4 ∧ 1 ≤ (signL k).length := by
  unfold signL
  by_cases h0 : k = 0
  · simp [h0]
  by_cases h1 : k = 1
  · simp [h1]
  by_cases h2 : k = 2
  · simp [h2]
  by_cases h3 : k = 3
  · simp [h3]
  by_cases h4 : k = 4 <;> simp [h0, h1, h2, h3, h4]
theorem signS_len {l : List UInt8} (h : l.length ≤ 200000000) (k : Int) : l.length + (signS k).size ≤ 1000000000 := by
  have : (signS k).size = (signL k).length := by simp [signS, ByteArray.size]
  have := (signL_len k).1
  omega
theorem core_len (t : S43) (h : rightB t = true) : (core t).length + 2 ≤ 6 * nodes t := by
  refine right_ind (P := fun t => (core t).length + 2 ≤ 6 * nodes t) (fun k hk => ?_) (fun k a b hk ha hb h1 h2 => ?_) t h
  · rw [core_leaf, nodes_leaf]; have := (signL_len k).1; omega
  · rw [core_two, nodes_two]
    have := (signL_len k).1
    have h3 := brk_len (decide (tightI a.f0 < leftI k)) (core a)
    have h4 := brk_len (decide (tightI b.f0 < rightI k)) (core b)
    simp only [parT, List.length_append]
    omega
theorem parT_len (t : S43) (l : Int) (h : rightB t = true) : (parT t l).length ≤ 6 * nodes t := by
  have h1 := core_len t h
  have h2 := brk_len (decide (tightI t.f0 < l)) (core t)
  unfold parT
  omega
theorem core_ne (t : S43) (h : rightB t = true) : core t ≠ [] := by
  intro e
  rcases right_cases h with ⟨k, hk, rfl⟩ | ⟨k, a, b, hk, ha, hb, rfl⟩
  · rw [core_leaf] at e; have := (signL_len k).2; rw [e] at this; simp at this
  · rw [core_two] at e; have := (signL_len k).2; have h2 := congrArg List.length e; simp only [List.length_append, List.length_nil] at h2; omega
theorem parT_own {t : S43} {l : Int} (h : l ≤ tightI t.f0) : parT t l = core t := by
  unfold parT brk; rw [if_neg]; simp; omega
theorem parT_brk {t : S43} {l : Int} (h : tightI t.f0 < l) : parT t l = 40 :: (core t ++ [41]) := by
  unfold parT brk; rw [if_pos]; simp; omega
def WPost (W0 : World) (v : Value) (w : World) (l : List UInt8) (e : Ending) (w' : World) : Prop := ∃ v', e = .returned v' ∧ OwnB W0 v' l w' ∧ Grew v w v' w'
theorem OwnB.ne {W0 : World} {v : Value} {l : List UInt8} {w : World} (h : OwnB W0 v l w) : v.ownBlock ≠ some w.heap.size := by
  intro e
  have := (h.row.lt _ e).2
  omega
set_option maxRecDepth 100000 in
set_option maxHeartbeats 1600000 in
theorem write_leaf (k : Int) (hk : leafK k) (least : Int) (h4 : least ≤ 4) (h0 : 0 ≤ least) (v : Value) (l : List UInt8) (W0 w : World) (A : Option Addr) (c : Nat) (HO : Aside0 (OwnB W0 v l w)) (HLEN : Aside0 (l.length ≤ 100000000)) :
    Calls Tryd.prog 73 #[v, .agg #[.int .i8 k, .slice A 0 c], .int .i64 least] w (WPost W0 v w (l ++ signL k)) := by
  rcases hk with rfl | rfl | rfl
  · go_enter Tryd.func73, Tryd.ntmps73
    go_wp2_with fail
    refine (tight_calls (k := 0) (by simp [leafK]) _).mono ?_
    rintro e w1 ⟨rfl, hB⟩
    rw [show tightI 0 = 4 from rfl]
    obtain ⟨k1, hB1⟩ := one_block hB
    have K1 := Aside0.mk k1
    have G1 := Aside0.mk (Grew.below (v := v) hB1)
    replace HO := Aside0.mk (HO.out.after hB1)
    clear hB hB1 k1
    have e10 := (blk_cell K1.out 0).trans rfl
    have e11 := (blk_cell K1.out 1).trans rfl
    simp at e10 e11
    go_wp2_with fail
    refine (sign_calls (k := 0) (by simp [leafK]) _).mono ?_
    rintro e w2 ⟨rfl, hB⟩
    replace G1 := Aside0.mk (G1.out.trans (Grew.below hB))
    replace HO := Aside0.mk (HO.out.after hB)
    clear hB e10 e11
    go_wp2_with (at_builtin; refine wpList_text rfl _ _ rfl rfl HO.out _ rfl (signS_len (by have := HLEN.out; omega) _) ?_; intro v' w3 hO3 hG3; replace HO := Aside0.mk hO3; replace G1 := Aside0.mk (G1.out.trans hG3); clear hO3 hG3)
    go_ret
    exact ⟨v', rfl, HO.out, G1.out⟩
  · go_enter Tryd.func73, Tryd.ntmps73
    go_wp2_with fail
    refine (tight_calls (k := 1) (by simp [leafK]) _).mono ?_
    rintro e w1 ⟨rfl, hB⟩
    rw [show tightI 1 = 4 from rfl]
    obtain ⟨k1, hB1⟩ := one_block hB
    have K1 := Aside0.mk k1
    have G1 := Aside0.mk (Grew.below (v := v) hB1)
    replace HO := Aside0.mk (HO.out.after hB1)
    clear hB hB1 k1
    have e10 := (blk_cell K1.out 0).trans rfl
    have e11 := (blk_cell K1.out 1).trans rfl
    simp at e10 e11
    go_wp2_with fail
    refine (sign_calls (k := 1) (by simp [leafK]) _).mono ?_
    rintro e w2 ⟨rfl, hB⟩
    replace G1 := Aside0.mk (G1.out.trans (Grew.below hB))
    replace HO := Aside0.mk (HO.out.after hB)
    clear hB e10 e11
    go_wp2_with (at_builtin; refine wpList_text rfl _ _ rfl rfl HO.out _ rfl (signS_len (by have := HLEN.out; omega) _) ?_; intro v' w3 hO3 hG3; replace HO := Aside0.mk hO3; replace G1 := Aside0.mk (G1.out.trans hG3); clear hO3 hG3)
    go_ret
    exact ⟨v', rfl, HO.out, G1.out⟩
  · go_enter Tryd.func73, Tryd.ntmps73
    go_wp2_with fail
    refine (tight_calls (k := 2) (by simp [leafK]) _).mono ?_
    rintro e w1 ⟨rfl, hB⟩
    rw [show tightI 2 = 4 from rfl]
    obtain ⟨k1, hB1⟩ := one_block hB
    have K1 := Aside0.mk k1
    have G1 := Aside0.mk (Grew.below (v := v) hB1)
    replace HO := Aside0.mk (HO.out.after hB1)
    clear hB hB1 k1
    have e10 := (blk_cell K1.out 0).trans rfl
    have e11 := (blk_cell K1.out 1).trans rfl
    simp at e10 e11
    go_wp2_with fail
    refine (sign_calls (k := 2) (by simp [leafK]) _).mono ?_
    rintro e w2 ⟨rfl, hB⟩
    replace G1 := Aside0.mk (G1.out.trans (Grew.below hB))
    replace HO := Aside0.mk (HO.out.after hB)
    clear hB e10 e11
    go_wp2_with (at_builtin; refine wpList_text rfl _ _ rfl rfl HO.out _ rfl (signS_len (by have := HLEN.out; omega) _) ?_; intro v' w3 hO3 hG3; replace HO := Aside0.mk hO3; replace G1 := Aside0.mk (G1.out.trans hG3); clear hO3 hG3)
    go_ret
    exact ⟨v', rfl, HO.out, G1.out⟩
def WriteIH (n : Nat) : Prop := ∀ (t : S43) (least : Int) (v : Value) (l : List UInt8) (W0 w : World) (vt : Value), nodes t < n → rightB t = true → IsT W0 vt t → 0 ≤ least → least ≤ 4 → OwnB W0 v l w → l.length + 6 * nodes t ≤ 100000000 →
    Calls Tryd.prog 73 #[v, vt, .int .i64 least] w (WPost W0 v w (l ++ parT t least))
set_option maxRecDepth 100000 in
set_option maxHeartbeats 1600000 in
theorem write_node (n : Nat) (k : Int) (x y : S43) (hk : nodeK k) (least : Int) (h4 : least ≤ tightI k) (h0 : 0 ≤ least) (v : Value) (l : List UInt8) (W0 w : World) (vt : Value) (IH : Aside0 (WriteIH n)) (HN : Aside0 (nodes ⟨k, [x, y]⟩ < n + 1)) (HX : Aside0 (rightB x = true)) (HY : Aside0 (rightB y = true)) (HT : Aside0 (IsT W0 vt ⟨k, [x, y]⟩)) (HO : Aside0 (OwnB W0 v l w)) (HLEN : Aside0 (l.length + 6 * nodes ⟨k, [x, y]⟩ ≤ 100000001)) :
    Calls Tryd.prog 73 #[v, vt, .int .i64 least] w (WPost W0 v w (l ++ core ⟨k, [x, y]⟩)) := by
  rcases hk with rfl | rfl | rfl
  · replace h4 : least ≤ 1 := h4
    obtain ⟨ad, c, Bx, dx, By, dy, rfl, hF, hX, hY, _⟩ := HT.out.open2
    have HF := Aside0.mk hF
    have TX := Aside0.mk hX
    have TY := Aside0.mk hY
    have ne := HO.out.ne
    have NE := Aside0.mk ne
    clear HT hF hX hY ne
    go_enter Tryd.func73, Tryd.ntmps73
    go_wp2_with fail
    refine (tight_calls (k := 3) (by simp [nodeK]) _).mono ?_
    rintro e w1 ⟨rfl, hB⟩
    rw [show tightI 3 = 1 from rfl]
    obtain ⟨k1, hB1⟩ := one_block hB
    have K1 := Aside0.mk k1
    have G1 := Aside0.mk (Grew.below (v := v) hB1)
    replace HO := Aside0.mk (HO.out.after hB1)
    clear hB hB1 k1
    have e10 := (blk_cell K1.out 0).trans rfl
    have e11 := (blk_cell K1.out 1).trans rfl
    simp at e10 e11
    obtain ⟨c0, c1, c2, c3⟩ := four_of HF.out HO.out.below
    go_wp2_with fail
    refine (IH.out x 2 v l W0 w1 _ (by have := nodes_pos y; have := HN.out; rw [nodes_two] at this; omega) HX.out TX.out (by omega) (by omega) HO.out (by have := HLEN.out; rw [nodes_two] at this; omega)).mono ?_
    rintro e w2 ⟨v2, rfl, hO, hG⟩
    have hk := hG.keep K1.out NE.out
    replace K1 := Aside0.mk hk.1
    replace NE := Aside0.mk hk.2
    replace G1 := Aside0.mk (G1.out.trans hG)
    replace HO := Aside0.mk hO
    clear hO hG hk e10 e11 c0 c1 c2 c3
    have e10 := (blk_cell K1.out 0).trans rfl
    have e11 := (blk_cell K1.out 1).trans rfl
    simp at e10 e11
    go_wp2_with fail
    refine (sign_calls (k := 3) (by simp [nodeK]) _).mono ?_
    rintro e w3 ⟨rfl, hB⟩
    replace K1 := Aside0.mk (blk_below K1.out hB)
    replace G1 := Aside0.mk (G1.out.trans (Grew.below hB))
    replace HO := Aside0.mk (HO.out.after hB)
    clear hB e10 e11
    go_wp2_with (at_builtin; refine wpList_text rfl _ _ rfl rfl HO.out _ rfl (signS_len (by have := HLEN.out; have := parT_len x 2 HX.out; rw [nodes_two] at *; simp only [List.length_append]; omega) _) ?_; intro v3 w4 hO3 hG3; have hk := hG3.keep K1.out NE.out; replace K1 := Aside0.mk hk.1; replace NE := Aside0.mk hk.2; replace HO := Aside0.mk hO3; replace G1 := Aside0.mk (G1.out.trans hG3); clear hO3 hG3 hk; have e10 := (blk_cell K1.out 0).trans rfl; have e11 := (blk_cell K1.out 1).trans rfl; simp at e10 e11; obtain ⟨c0, c1, c2, c3⟩ := four_of HF.out HO.out.below)
    refine (IH.out y 1 v3 _ W0 w4 _ (by have := nodes_pos x; have := HN.out; rw [nodes_two] at this; omega) HY.out TY.out (by omega) (by omega) HO.out (by have := HLEN.out; have := parT_len x 2 HX.out; have := (signL_len 3).1; rw [nodes_two] at *; simp only [List.length_append, signS_list]; omega)).mono ?_
    rintro e w5 ⟨v5, rfl, hO, hG⟩
    replace G1 := Aside0.mk (G1.out.trans hG)
    replace HO := Aside0.mk hO
    clear hO hG e10 e11 c0 c1 c2 c3
    go_wp2_with fail
    go_ret
    refine ⟨v5, rfl, ?_, G1.out⟩
    have hh := HO.out
    rw [signS_list, List.append_assoc, List.append_assoc] at hh
    rw [core_two, List.append_assoc]
    exact hh
  · replace h4 : least ≤ 3 := h4
    obtain ⟨ad, c, Bx, dx, By, dy, rfl, hF, hX, hY, _⟩ := HT.out.open2
    have HF := Aside0.mk hF
    have TX := Aside0.mk hX
    have TY := Aside0.mk hY
    have ne := HO.out.ne
    have NE := Aside0.mk ne
    clear HT hF hX hY ne
    go_enter Tryd.func73, Tryd.ntmps73
    go_wp2_with fail
    refine (tight_calls (k := 4) (by simp [nodeK]) _).mono ?_
    rintro e w1 ⟨rfl, hB⟩
    rw [show tightI 4 = 3 from rfl]
    obtain ⟨k1, hB1⟩ := one_block hB
    have K1 := Aside0.mk k1
    have G1 := Aside0.mk (Grew.below (v := v) hB1)
    replace HO := Aside0.mk (HO.out.after hB1)
    clear hB hB1 k1
    have e10 := (blk_cell K1.out 0).trans rfl
    have e11 := (blk_cell K1.out 1).trans rfl
    simp at e10 e11
    obtain ⟨c0, c1, c2, c3⟩ := four_of HF.out HO.out.below
    go_wp2_with fail
    refine (IH.out x 3 v l W0 w1 _ (by have := nodes_pos y; have := HN.out; rw [nodes_two] at this; omega) HX.out TX.out (by omega) (by omega) HO.out (by have := HLEN.out; rw [nodes_two] at this; omega)).mono ?_
    rintro e w2 ⟨v2, rfl, hO, hG⟩
    have hk := hG.keep K1.out NE.out
    replace K1 := Aside0.mk hk.1
    replace NE := Aside0.mk hk.2
    replace G1 := Aside0.mk (G1.out.trans hG)
    replace HO := Aside0.mk hO
    clear hO hG hk e10 e11 c0 c1 c2 c3
    have e10 := (blk_cell K1.out 0).trans rfl
    have e11 := (blk_cell K1.out 1).trans rfl
    simp at e10 e11
    go_wp2_with fail
    refine (sign_calls (k := 4) (by simp [nodeK]) _).mono ?_
    rintro e w3 ⟨rfl, hB⟩
    replace K1 := Aside0.mk (blk_below K1.out hB)
    replace G1 := Aside0.mk (G1.out.trans (Grew.below hB))
    replace HO := Aside0.mk (HO.out.after hB)
    clear hB e10 e11
    go_wp2_with (at_builtin; refine wpList_text rfl _ _ rfl rfl HO.out _ rfl (signS_len (by have := HLEN.out; have := parT_len x 3 HX.out; rw [nodes_two] at *; simp only [List.length_append]; omega) _) ?_; intro v3 w4 hO3 hG3; have hk := hG3.keep K1.out NE.out; replace K1 := Aside0.mk hk.1; replace NE := Aside0.mk hk.2; replace HO := Aside0.mk hO3; replace G1 := Aside0.mk (G1.out.trans hG3); clear hO3 hG3 hk; have e10 := (blk_cell K1.out 0).trans rfl; have e11 := (blk_cell K1.out 1).trans rfl; simp at e10 e11; obtain ⟨c0, c1, c2, c3⟩ := four_of HF.out HO.out.below)
    refine (IH.out y 4 v3 _ W0 w4 _ (by have := nodes_pos x; have := HN.out; rw [nodes_two] at this; omega) HY.out TY.out (by omega) (by omega) HO.out (by have := HLEN.out; have := parT_len x 3 HX.out; have := (signL_len 4).1; rw [nodes_two] at *; simp only [List.length_append, signS_list]; omega)).mono ?_
    rintro e w5 ⟨v5, rfl, hO, hG⟩
    replace G1 := Aside0.mk (G1.out.trans hG)
    replace HO := Aside0.mk hO
    clear hO hG e10 e11 c0 c1 c2 c3
    go_wp2_with fail
    go_ret
    refine ⟨v5, rfl, ?_, G1.out⟩
    have hh := HO.out
    rw [signS_list, List.append_assoc, List.append_assoc] at hh
    rw [core_two, List.append_assoc]
    exact hh
  · replace h4 : least ≤ 2 := h4
    obtain ⟨ad, c, Bx, dx, By, dy, rfl, hF, hX, hY, _⟩ := HT.out.open2
    have HF := Aside0.mk hF
    have TX := Aside0.mk hX
    have TY := Aside0.mk hY
    have ne := HO.out.ne
    have NE := Aside0.mk ne
    clear HT hF hX hY ne
    go_enter Tryd.func73, Tryd.ntmps73
    go_wp2_with fail
    refine (tight_calls (k := 5) (by simp [nodeK]) _).mono ?_
    rintro e w1 ⟨rfl, hB⟩
    rw [show tightI 5 = 2 from rfl]
    obtain ⟨k1, hB1⟩ := one_block hB
    have K1 := Aside0.mk k1
    have G1 := Aside0.mk (Grew.below (v := v) hB1)
    replace HO := Aside0.mk (HO.out.after hB1)
    clear hB hB1 k1
    have e10 := (blk_cell K1.out 0).trans rfl
    have e11 := (blk_cell K1.out 1).trans rfl
    simp at e10 e11
    obtain ⟨c0, c1, c2, c3⟩ := four_of HF.out HO.out.below
    go_wp2_with fail
    refine (IH.out x 2 v l W0 w1 _ (by have := nodes_pos y; have := HN.out; rw [nodes_two] at this; omega) HX.out TX.out (by omega) (by omega) HO.out (by have := HLEN.out; rw [nodes_two] at this; omega)).mono ?_
    rintro e w2 ⟨v2, rfl, hO, hG⟩
    have hk := hG.keep K1.out NE.out
    replace K1 := Aside0.mk hk.1
    replace NE := Aside0.mk hk.2
    replace G1 := Aside0.mk (G1.out.trans hG)
    replace HO := Aside0.mk hO
    clear hO hG hk e10 e11 c0 c1 c2 c3
    have e10 := (blk_cell K1.out 0).trans rfl
    have e11 := (blk_cell K1.out 1).trans rfl
    simp at e10 e11
    go_wp2_with fail
    refine (sign_calls (k := 5) (by simp [nodeK]) _).mono ?_
    rintro e w3 ⟨rfl, hB⟩
    replace K1 := Aside0.mk (blk_below K1.out hB)
    replace G1 := Aside0.mk (G1.out.trans (Grew.below hB))
    replace HO := Aside0.mk (HO.out.after hB)
    clear hB e10 e11
    go_wp2_with (at_builtin; refine wpList_text rfl _ _ rfl rfl HO.out _ rfl (signS_len (by have := HLEN.out; have := parT_len x 2 HX.out; rw [nodes_two] at *; simp only [List.length_append]; omega) _) ?_; intro v3 w4 hO3 hG3; have hk := hG3.keep K1.out NE.out; replace K1 := Aside0.mk hk.1; replace NE := Aside0.mk hk.2; replace HO := Aside0.mk hO3; replace G1 := Aside0.mk (G1.out.trans hG3); clear hO3 hG3 hk; have e10 := (blk_cell K1.out 0).trans rfl; have e11 := (blk_cell K1.out 1).trans rfl; simp at e10 e11; obtain ⟨c0, c1, c2, c3⟩ := four_of HF.out HO.out.below)
    refine (IH.out y 3 v3 _ W0 w4 _ (by have := nodes_pos x; have := HN.out; rw [nodes_two] at this; omega) HY.out TY.out (by omega) (by omega) HO.out (by have := HLEN.out; have := parT_len x 2 HX.out; have := (signL_len 5).1; rw [nodes_two] at *; simp only [List.length_append, signS_list]; omega)).mono ?_
    rintro e w5 ⟨v5, rfl, hO, hG⟩
    replace G1 := Aside0.mk (G1.out.trans hG)
    replace HO := Aside0.mk hO
    clear hO hG e10 e11 c0 c1 c2 c3
    go_wp2_with fail
    go_ret
    refine ⟨v5, rfl, ?_, G1.out⟩
    have hh := HO.out
    rw [signS_list, List.append_assoc, List.append_assoc] at hh
    rw [core_two, List.append_assoc]
    exact hh
end Go.Proofs.YtjmpejbciniceaaDoor.X
namespace Go.Proofs.YtjmpejbciniceaaDoor.X
open Go.RowKit Go.Proofs.YtjmpejbciniceaaDoorW.PrintWords Go.Proofs.YtjmpejbciniceaaDoorW.PrintLast Go.Proofs.YtjmpejbciniceaaDoorW.PrintMore
set_option linter.unusedVariables false
set_option linter.unusedSimpArgs false
theorem brk_fits {l : List UInt8} {t : S43} (h : l.length + 6 * nodes t ≤ 100000000) (hr : rightB t = true) : (l ++ [40] ++ core t).length + 1 ≤ 1000000000 := by
  have := core_len t hr
  simp only [List.length_append, List.length_cons, List.length_nil]
  omega
set_option maxRecDepth 100000 in
set_option maxHeartbeats 1600000 in
theorem write_brk (t : S43) (hk : leafK t.f0 ∨ nodeK t.f0) (least : Int) (h4 : tightI t.f0 < least) (v : Value) (l : List UInt8) (W0 w : World) (A : Option Addr) (c : Nat) (HR : Aside0 (rightB t = true)) (HT : Aside0 (IsT W0 (.agg #[.int .i8 t.f0, .slice A t.f1.length c]) t)) (HO : Aside0 (OwnB W0 v l w)) (HLEN : Aside0 (l.length + 6 * nodes t ≤ 100000000))
    (IH : Aside0 (∀ (v : Value) (w : World), OwnB W0 v (l ++ [40]) w → Calls Tryd.prog 73 #[v, .agg #[.int .i8 t.f0, .slice A t.f1.length c], .int .i64 0] w (WPost W0 v w (l ++ [40] ++ core t)))) :
    Calls Tryd.prog 73 #[v, .agg #[.int .i8 t.f0, .slice A t.f1.length c], .int .i64 least] w (WPost W0 v w (l ++ (40 :: (core t ++ [41])))) := by
  have hlen := HLEN.out
  have ne := HO.out.ne
  have NE := Aside0.mk ne
  clear ne
  go_enter Tryd.func73, Tryd.ntmps73
  go_wp2_with fail
  refine (tight_calls hk _).mono ?_
  rintro e w1 ⟨rfl, hB⟩
  obtain ⟨k1, hB1⟩ := one_block hB
  have K1 := Aside0.mk k1
  have G1 := Aside0.mk (Grew.below (v := v) hB1)
  replace HO := Aside0.mk (HO.out.after hB1)
  clear hB hB1 k1
  go_wp2_with fail
  have OK := Aside0.mk (fun (w' : World) (h : w'.heap[w.heap.size]? = some (.cells #[.int .i8 t.f0, .slice A t.f1.length c] 43 (0, 0))) => (⟨(blk_cell h 0).trans rfl, (blk_cell h 1).trans rfl⟩ : w'.cell? ⟨w.heap.size, 0, none⟩ = some (.int .i8 t.f0) ∧ w'.cell? ⟨w.heap.size, 1, none⟩ = some (.slice A t.f1.length c)))
  refine wp_region_held_drew (S := fun w' => w'.cell? ⟨w.heap.size, 0, none⟩ = some (.int .i8 t.f0) ∧ w'.cell? ⟨w.heap.size, 1, none⟩ = some (.slice A t.f1.length c)) (by kernel_rfl) (OK.out _ (blk_below K1.out (Below.refl _ _).drew)) (fun hHeld => ?_)
  replace K1 := Aside0.mk (blk_below K1.out (Below.refl _ _).drew)
  replace G1 := Aside0.mk (G1.out.trans (Grew.below (Below.refl _ _).drew))
  replace HO := Aside0.mk (HO.out.after (Below.refl _ _).drew)
  generalize w1.drew = wd at *
  refine takeH (d := some 16) (v := ?_) 0 rfl rfl (by kernel_rfl) (by kernel_rfl) (by kernel_rfl) (fun _ _ _ h => h) (by rfl) ?_ hHeld ?_
  rotate_left
  · intro w hSw
    try dsimp only at hSw
    go_simp <;> with_reducible rfl
  try simp only [Act.put, List.setIfInBounds_toArray, List.set_cons_zero, List.set_cons_succ]
  refine takeH (d := some 19) (v := ?_) 3 rfl rfl (by kernel_rfl) (by kernel_rfl) (by kernel_rfl) (fun _ _ _ h => h) (by rfl) ?_ hHeld ?_
  rotate_left
  · intro w hSw
    try dsimp only at hSw
    go_simp <;> with_reducible rfl
  try simp only [Act.put, List.setIfInBounds_toArray, List.set_cons_zero, List.set_cons_succ]
  refine wpAnyH_ready (rs := [1, 5]) (by kernel_rfl) (by simp) ?_
  refine AllReadyH.cons rfl (fun K hK => ?_) (AllReadyH.cons rfl (fun K hK => ?_) AllReadyH.nil)
  · go_simp
    have nx := HO.out.ne
    have hx := heap_alloc_new wd (.cells #[.int .u8 40] 5)
    have hB := below1 wd #[.int .u8 40] 5
    refine hK.out _ _ (OK.out _ (blk_below K1.out hB)) (fun hHeld => ?_)
    clear hK K
    replace K1 := Aside0.mk (blk_below K1.out hB)
    have H40 := Aside0.mk hx
    have N40 := Aside0.mk nx
    replace G1 := Aside0.mk (G1.out.trans (Grew.below hB))
    replace HO := Aside0.mk (HO.out.after hB)
    clear hx nx
    clear hB
    generalize wd.heap.size = g40 at *
    generalize wd.alloc (.cells #[.int .u8 40] 5) = w2 at *
    try simp only [Act.put, List.setIfInBounds_toArray, List.set_cons_zero, List.set_cons_succ]
    refine wpAnyH_ready (rs := [2, 5]) (by kernel_rfl) (by simp) ?_
    refine AllReadyH.cons rfl (fun K hK => ?_) (AllReadyH.cons rfl (fun K hK => ?_) AllReadyH.nil)
    · rw [if_pos (by rfl)]
      refine wp_byte (.tmp 16) (.tmp 17) (d := some 18) rfl rfl (by rfl) HO.out _ 40 (by rfl) H40.out (by omega) ?_
      intro v3 w3 hO hG
      have hk := hG.keep K1.out NE.out
      replace K1 := Aside0.mk hk.1
      replace NE := Aside0.mk hk.2
      clear hk
      refine hK.out _ _ (OK.out _ K1.out) (fun hHeld => ?_)
      clear hK K
      replace G1 := Aside0.mk (G1.out.trans hG)
      replace HO := Aside0.mk hO
      clear hO hG
      try simp only [Act.put, List.setIfInBounds_toArray, List.set_cons_zero, List.set_cons_succ]
      refine wpAnyH_ready (rs := [4, 5]) (by kernel_rfl) (by simp) ?_
      refine AllReadyH.cons rfl (fun K hK => ?_) (AllReadyH.cons rfl (fun K hK => ?_) AllReadyH.nil)
      · go_simp
        refine (IH.out _ _ HO.out).mono ?_
        rintro e w4 ⟨v4, rfl, hO, hG⟩
        have hk := hG.keep K1.out NE.out
        replace K1 := Aside0.mk hk.1
        replace NE := Aside0.mk hk.2
        clear hk
        refine hK.out _ _ (OK.out _ K1.out) (fun hHeld => ?_)
        clear hK K
        replace G1 := Aside0.mk (G1.out.trans hG)
        replace HO := Aside0.mk hO
        clear hO hG
        try simp only [Act.put, List.setIfInBounds_toArray, List.set_cons_zero, List.set_cons_succ]
        refine wpAnyH_ready (rs := [5]) (by kernel_rfl) (by simp) ?_
        refine AllReadyH.cons rfl (fun K hK => ?_) AllReadyH.nil
        go_simp
        have nx := HO.out.ne
        have hx := heap_alloc_new w4 (.cells #[.int .u8 41] 5)
        have hB := below1 w4 #[.int .u8 41] 5
        refine hK.out _ _ (OK.out _ (blk_below K1.out hB)) (fun hHeld => ?_)
        clear hK K
        replace K1 := Aside0.mk (blk_below K1.out hB)
        have H41 := Aside0.mk hx
        have N41 := Aside0.mk nx
        replace G1 := Aside0.mk (G1.out.trans (Grew.below hB))
        replace HO := Aside0.mk (HO.out.after hB)
        clear hx nx
        clear hB
        generalize w4.heap.size = g41 at *
        generalize w4.alloc (.cells #[.int .u8 41] 5) = w5 at *
        try simp only [Act.put, List.setIfInBounds_toArray, List.set_cons_zero, List.set_cons_succ]
        refine wpAnyH_ready (rs := [6]) (by kernel_rfl) (by simp) ?_
        refine AllReadyH.cons rfl (fun K hK => ?_) AllReadyH.nil
        rw [if_pos (by rfl)]
        refine wp_byte (.tmp 20) (.tmp 21) (d := some 22) rfl rfl (by rfl) HO.out _ 41 (by rfl) H41.out (brk_fits HLEN.out HR.out) ?_
        intro v6 w6 hO hG
        have hk := hG.keep K1.out NE.out
        replace K1 := Aside0.mk hk.1
        replace NE := Aside0.mk hk.2
        clear hk
        refine hK.out _ _ (OK.out _ K1.out) (fun hHeld => ?_)
        clear hK K
        replace G1 := Aside0.mk (G1.out.trans hG)
        replace HO := Aside0.mk hO
        clear hO hG
        try simp only [Act.put, List.setIfInBounds_toArray, List.set_cons_zero, List.set_cons_succ]
        refine takeH (d := some 6) (v := ?_) 7 rfl rfl (by kernel_rfl) (by kernel_rfl) (by kernel_rfl) (fun _ _ _ h => h) (by rfl) ?_ hHeld ?_
        rotate_left
        · intro w hSw
          try dsimp only at hSw
          go_simp <;> with_reducible rfl
        try simp only [Act.put, List.setIfInBounds_toArray, List.set_cons_zero, List.set_cons_succ]
        refine wpAnyH_done (by kernel_rfl) ?_ _
        go_wp2_with fail
        go_ret
        refine ⟨_, rfl, ?_, G1.out⟩
        have hh := HO.out
        rwa [List.append_assoc, List.append_assoc] at hh
      · go_simp
        have nx := HO.out.ne
        have hx := heap_alloc_new w3 (.cells #[.int .u8 41] 5)
        have hB := below1 w3 #[.int .u8 41] 5
        refine hK.out _ _ (OK.out _ (blk_below K1.out hB)) (fun hHeld => ?_)
        clear hK K
        replace K1 := Aside0.mk (blk_below K1.out hB)
        have H41 := Aside0.mk hx
        have N41 := Aside0.mk nx
        replace G1 := Aside0.mk (G1.out.trans (Grew.below hB))
        replace HO := Aside0.mk (HO.out.after hB)
        clear hx nx
        clear hB
        generalize w3.heap.size = g41 at *
        generalize w3.alloc (.cells #[.int .u8 41] 5) = w4 at *
        try simp only [Act.put, List.setIfInBounds_toArray, List.set_cons_zero, List.set_cons_succ]
        refine wpAnyH_ready (rs := [4]) (by kernel_rfl) (by simp) ?_
        refine AllReadyH.cons rfl (fun K hK => ?_) AllReadyH.nil
        go_simp
        refine (IH.out _ _ HO.out).mono ?_
        rintro e w5 ⟨v5, rfl, hO, hG⟩
        have hk := hG.keep K1.out NE.out
        replace K1 := Aside0.mk hk.1
        replace NE := Aside0.mk hk.2
        clear hk
        refine hK.out _ _ (OK.out _ K1.out) (fun hHeld => ?_)
        clear hK K
        replace G1 := Aside0.mk (G1.out.trans hG)
        replace HO := Aside0.mk hO
        have hk := hG.keep H41.out N41.out
        replace H41 := Aside0.mk hk.1
        replace N41 := Aside0.mk hk.2
        clear hk
        clear hO hG
        try simp only [Act.put, List.setIfInBounds_toArray, List.set_cons_zero, List.set_cons_succ]
        refine wpAnyH_ready (rs := [6]) (by kernel_rfl) (by simp) ?_
        refine AllReadyH.cons rfl (fun K hK => ?_) AllReadyH.nil
        rw [if_pos (by rfl)]
        refine wp_byte (.tmp 20) (.tmp 21) (d := some 22) rfl rfl (by rfl) HO.out _ 41 (by rfl) H41.out (brk_fits HLEN.out HR.out) ?_
        intro v6 w6 hO hG
        have hk := hG.keep K1.out NE.out
        replace K1 := Aside0.mk hk.1
        replace NE := Aside0.mk hk.2
        clear hk
        refine hK.out _ _ (OK.out _ K1.out) (fun hHeld => ?_)
        clear hK K
        replace G1 := Aside0.mk (G1.out.trans hG)
        replace HO := Aside0.mk hO
        clear hO hG
        try simp only [Act.put, List.setIfInBounds_toArray, List.set_cons_zero, List.set_cons_succ]
        refine takeH (d := some 6) (v := ?_) 7 rfl rfl (by kernel_rfl) (by kernel_rfl) (by kernel_rfl) (fun _ _ _ h => h) (by rfl) ?_ hHeld ?_
        rotate_left
        · intro w hSw
          try dsimp only at hSw
          go_simp <;> with_reducible rfl
        try simp only [Act.put, List.setIfInBounds_toArray, List.set_cons_zero, List.set_cons_succ]
        refine wpAnyH_done (by kernel_rfl) ?_ _
        go_wp2_with fail
        go_ret
        refine ⟨_, rfl, ?_, G1.out⟩
        have hh := HO.out
        rwa [List.append_assoc, List.append_assoc] at hh
    · go_simp
      have nx := HO.out.ne
      have hx := heap_alloc_new w2 (.cells #[.int .u8 41] 5)
      have hB := below1 w2 #[.int .u8 41] 5
      refine hK.out _ _ (OK.out _ (blk_below K1.out hB)) (fun hHeld => ?_)
      clear hK K
      replace K1 := Aside0.mk (blk_below K1.out hB)
      have H41 := Aside0.mk hx
      have N41 := Aside0.mk nx
      replace G1 := Aside0.mk (G1.out.trans (Grew.below hB))
      replace HO := Aside0.mk (HO.out.after hB)
      clear hx nx
      replace H40 := Aside0.mk (blk_below H40.out hB)
      clear hB
      generalize w2.heap.size = g41 at *
      generalize w2.alloc (.cells #[.int .u8 41] 5) = w3 at *
      try simp only [Act.put, List.setIfInBounds_toArray, List.set_cons_zero, List.set_cons_succ]
      refine wpAnyH_ready (rs := [2]) (by kernel_rfl) (by simp) ?_
      refine AllReadyH.cons rfl (fun K hK => ?_) AllReadyH.nil
      rw [if_pos (by rfl)]
      refine wp_byte (.tmp 16) (.tmp 17) (d := some 18) rfl rfl (by rfl) HO.out _ 40 (by rfl) H40.out (by omega) ?_
      intro v4 w4 hO hG
      have hk := hG.keep K1.out NE.out
      replace K1 := Aside0.mk hk.1
      replace NE := Aside0.mk hk.2
      clear hk
      refine hK.out _ _ (OK.out _ K1.out) (fun hHeld => ?_)
      clear hK K
      replace G1 := Aside0.mk (G1.out.trans hG)
      replace HO := Aside0.mk hO
      have hk := hG.keep H41.out N41.out
      replace H41 := Aside0.mk hk.1
      replace N41 := Aside0.mk hk.2
      clear hk
      clear hO hG
      try simp only [Act.put, List.setIfInBounds_toArray, List.set_cons_zero, List.set_cons_succ]
      refine wpAnyH_ready (rs := [4]) (by kernel_rfl) (by simp) ?_
      refine AllReadyH.cons rfl (fun K hK => ?_) AllReadyH.nil
      go_simp
      refine (IH.out _ _ HO.out).mono ?_
      rintro e w5 ⟨v5, rfl, hO, hG⟩
      have hk := hG.keep K1.out NE.out
      replace K1 := Aside0.mk hk.1
      replace NE := Aside0.mk hk.2
      clear hk
      refine hK.out _ _ (OK.out _ K1.out) (fun hHeld => ?_)
      clear hK K
      replace G1 := Aside0.mk (G1.out.trans hG)
      replace HO := Aside0.mk hO
      have hk := hG.keep H41.out N41.out
      replace H41 := Aside0.mk hk.1
      replace N41 := Aside0.mk hk.2
      clear hk
      clear hO hG
      try simp only [Act.put, List.setIfInBounds_toArray, List.set_cons_zero, List.set_cons_succ]
      refine wpAnyH_ready (rs := [6]) (by kernel_rfl) (by simp) ?_
      refine AllReadyH.cons rfl (fun K hK => ?_) AllReadyH.nil
      rw [if_pos (by rfl)]
      refine wp_byte (.tmp 20) (.tmp 21) (d := some 22) rfl rfl (by rfl) HO.out _ 41 (by rfl) H41.out (brk_fits HLEN.out HR.out) ?_
      intro v6 w6 hO hG
      have hk := hG.keep K1.out NE.out
      replace K1 := Aside0.mk hk.1
      replace NE := Aside0.mk hk.2
      clear hk
      refine hK.out _ _ (OK.out _ K1.out) (fun hHeld => ?_)
      clear hK K
      replace G1 := Aside0.mk (G1.out.trans hG)
      replace HO := Aside0.mk hO
      clear hO hG
      try simp only [Act.put, List.setIfInBounds_toArray, List.set_cons_zero, List.set_cons_succ]
      refine takeH (d := some 6) (v := ?_) 7 rfl rfl (by kernel_rfl) (by kernel_rfl) (by kernel_rfl) (fun _ _ _ h => h) (by rfl) ?_ hHeld ?_
      rotate_left
      · intro w hSw
        try dsimp only at hSw
        go_simp <;> with_reducible rfl
      try simp only [Act.put, List.setIfInBounds_toArray, List.set_cons_zero, List.set_cons_succ]
      refine wpAnyH_done (by kernel_rfl) ?_ _
      go_wp2_with fail
      go_ret
      refine ⟨_, rfl, ?_, G1.out⟩
      have hh := HO.out
      rwa [List.append_assoc, List.append_assoc] at hh
  · go_simp
    have nx := HO.out.ne
    have hx := heap_alloc_new wd (.cells #[.int .u8 41] 5)
    have hB := below1 wd #[.int .u8 41] 5
    refine hK.out _ _ (OK.out _ (blk_below K1.out hB)) (fun hHeld => ?_)
    clear hK K
    replace K1 := Aside0.mk (blk_below K1.out hB)
    have H41 := Aside0.mk hx
    have N41 := Aside0.mk nx
    replace G1 := Aside0.mk (G1.out.trans (Grew.below hB))
    replace HO := Aside0.mk (HO.out.after hB)
    clear hx nx
    clear hB
    generalize wd.heap.size = g41 at *
    generalize wd.alloc (.cells #[.int .u8 41] 5) = w2 at *
    try simp only [Act.put, List.setIfInBounds_toArray, List.set_cons_zero, List.set_cons_succ]
    refine wpAnyH_ready (rs := [1]) (by kernel_rfl) (by simp) ?_
    refine AllReadyH.cons rfl (fun K hK => ?_) AllReadyH.nil
    go_simp
    have nx := HO.out.ne
    have hx := heap_alloc_new w2 (.cells #[.int .u8 40] 5)
    have hB := below1 w2 #[.int .u8 40] 5
    refine hK.out _ _ (OK.out _ (blk_below K1.out hB)) (fun hHeld => ?_)
    clear hK K
    replace K1 := Aside0.mk (blk_below K1.out hB)
    have H40 := Aside0.mk hx
    have N40 := Aside0.mk nx
    replace G1 := Aside0.mk (G1.out.trans (Grew.below hB))
    replace HO := Aside0.mk (HO.out.after hB)
    clear hx nx
    replace H41 := Aside0.mk (blk_below H41.out hB)
    clear hB
    generalize w2.heap.size = g40 at *
    generalize w2.alloc (.cells #[.int .u8 40] 5) = w3 at *
    try simp only [Act.put, List.setIfInBounds_toArray, List.set_cons_zero, List.set_cons_succ]
    refine wpAnyH_ready (rs := [2]) (by kernel_rfl) (by simp) ?_
    refine AllReadyH.cons rfl (fun K hK => ?_) AllReadyH.nil
    rw [if_pos (by rfl)]
    refine wp_byte (.tmp 16) (.tmp 17) (d := some 18) rfl rfl (by rfl) HO.out _ 40 (by rfl) H40.out (by omega) ?_
    intro v4 w4 hO hG
    have hk := hG.keep K1.out NE.out
    replace K1 := Aside0.mk hk.1
    replace NE := Aside0.mk hk.2
    clear hk
    refine hK.out _ _ (OK.out _ K1.out) (fun hHeld => ?_)
    clear hK K
    replace G1 := Aside0.mk (G1.out.trans hG)
    replace HO := Aside0.mk hO
    have hk := hG.keep H41.out N41.out
    replace H41 := Aside0.mk hk.1
    replace N41 := Aside0.mk hk.2
    clear hk
    clear hO hG
    try simp only [Act.put, List.setIfInBounds_toArray, List.set_cons_zero, List.set_cons_succ]
    refine wpAnyH_ready (rs := [4]) (by kernel_rfl) (by simp) ?_
    refine AllReadyH.cons rfl (fun K hK => ?_) AllReadyH.nil
    go_simp
    refine (IH.out _ _ HO.out).mono ?_
    rintro e w5 ⟨v5, rfl, hO, hG⟩
    have hk := hG.keep K1.out NE.out
    replace K1 := Aside0.mk hk.1
    replace NE := Aside0.mk hk.2
    clear hk
    refine hK.out _ _ (OK.out _ K1.out) (fun hHeld => ?_)
    clear hK K
    replace G1 := Aside0.mk (G1.out.trans hG)
    replace HO := Aside0.mk hO
    have hk := hG.keep H41.out N41.out
    replace H41 := Aside0.mk hk.1
    replace N41 := Aside0.mk hk.2
    clear hk
    clear hO hG
    try simp only [Act.put, List.setIfInBounds_toArray, List.set_cons_zero, List.set_cons_succ]
    refine wpAnyH_ready (rs := [6]) (by kernel_rfl) (by simp) ?_
    refine AllReadyH.cons rfl (fun K hK => ?_) AllReadyH.nil
    rw [if_pos (by rfl)]
    refine wp_byte (.tmp 20) (.tmp 21) (d := some 22) rfl rfl (by rfl) HO.out _ 41 (by rfl) H41.out (brk_fits HLEN.out HR.out) ?_
    intro v6 w6 hO hG
    have hk := hG.keep K1.out NE.out
    replace K1 := Aside0.mk hk.1
    replace NE := Aside0.mk hk.2
    clear hk
    refine hK.out _ _ (OK.out _ K1.out) (fun hHeld => ?_)
    clear hK K
    replace G1 := Aside0.mk (G1.out.trans hG)
    replace HO := Aside0.mk hO
    clear hO hG
    try simp only [Act.put, List.setIfInBounds_toArray, List.set_cons_zero, List.set_cons_succ]
    refine takeH (d := some 6) (v := ?_) 7 rfl rfl (by kernel_rfl) (by kernel_rfl) (by kernel_rfl) (fun _ _ _ h => h) (by rfl) ?_ hHeld ?_
    rotate_left
    · intro w hSw
      try dsimp only at hSw
      go_simp <;> with_reducible rfl
    try simp only [Act.put, List.setIfInBounds_toArray, List.set_cons_zero, List.set_cons_succ]
    refine wpAnyH_done (by kernel_rfl) ?_ _
    go_wp2_with fail
    go_ret
    refine ⟨_, rfl, ?_, G1.out⟩
    have hh := HO.out
    rwa [List.append_assoc, List.append_assoc] at hh
theorem write_all (n : Nat) : WriteIH n := by
  induction n with
  | zero => intro t least v l W0 w vt h; omega
  | succ n ih =>
    have own : ∀ (t : S43) (least : Int) (v : Value) (l : List UInt8) (W0 w : World) (vt : Value), nodes t < n + 1 → rightB t = true → IsT W0 vt t → 0 ≤ least → least ≤ tightI t.f0 → OwnB W0 v l w → l.length + 6 * nodes t ≤ 100000001 →
        Calls Tryd.prog 73 #[v, vt, .int .i64 least] w (WPost W0 v w (l ++ core t)) := by
      intro t least v l W0 w vt hn hr hT h0 h4 hO hl
      rcases right_cases hr with ⟨k, hk, rfl⟩ | ⟨k, x, y, hk, hx, hy, rfl⟩
      · obtain ⟨A, c, rfl, _, _⟩ := hT
        rw [core_leaf]
        exact write_leaf k hk least (by have h5 : tightI k ≤ 4 := by (rcases hk with rfl | rfl | rfl <;> decide)
                                        exact Int.le_trans h4 h5) h0 v l W0 w A c (.mk hO) (.mk (by rw [nodes_leaf] at hl; omega))
      · exact write_node n k x y hk least h4 h0 v l W0 w vt (.mk ih) (.mk hn) (.mk hx) (.mk hy) (.mk hT) (.mk hO) (.mk hl)
    intro t least v l W0 w vt hn hr hT h0 h4 hO hl
    by_cases hb : tightI t.f0 < least
    · rw [parT_brk hb]
      have hk : leafK t.f0 ∨ nodeK t.f0 := by
        rcases right_cases hr with ⟨k, hk, rfl⟩ | ⟨k, x, y, hk, hx, hy, rfl⟩
        · exact .inl hk
        · exact .inr hk
      have ht0 : 0 ≤ tightI t.f0 := by unfold tightI; (repeat' split) <;> omega
      have hT2 := hT
      obtain ⟨A, c, rfl, _, _⟩ := hT
      exact write_brk t hk least hb v l W0 w A c (.mk hr) (.mk hT2) (.mk hO) (.mk hl) (.mk fun v' w' hO' => own t 0 v' _ W0 w' _ hn hr hT2 (Int.le_refl _) ht0 hO' (by simp only [List.length_append, List.length_cons, List.length_nil]; omega))
    · rw [parT_own (by omega)]
      exact own t least v l W0 w vt hn hr hT h0 (by omega) hO (by omega)
def textS (t : S43) : ByteArray := if checkI t = 0 then ⟨(core t).toArray⟩ else ⟨#[]⟩
def TPost (t : S43) (w : World) (e : Ending) (w' : World) : Prop := e = .returned (.tuple #[.string (textS t), .int .i64 (checkI t)]) ∧ Below w.heap.size w w'
set_option maxRecDepth 100000 in
set_option maxHeartbeats 1600000 in
theorem Text_calls {t : S43} {v : Value} {w : World} (h : IsT w v t) : Calls Tryd.prog 31 #[v] w (TPost t w) := by
  have HT := Aside0.mk h
  obtain ⟨A, c, rfl, _, _⟩ := h
  by_cases hc : checkI t = 0
  · have HC := Aside0.mk hc
    have HS : Aside0 (textS t = ⟨(core t).toArray⟩) := .mk (by unfold textS; rw [if_pos hc])
    have HR := Aside0.mk (check_nodes hc).2.2
    have HN := Aside0.mk (check_nodes hc).1
    clear hc
    go_enter Tryd.func31, Tryd.ntmps31
    go_wp2_with fail
    refine (Check_calls (HT.out.below (below1 ..))).mono ?_
    rw [HC.out]
    rintro e w1 ⟨rfl, hB⟩
    obtain ⟨k1, hB1⟩ := one_block hB
    have HB := Aside0.mk hB1
    replace HT := Aside0.mk (HT.out.below hB1)
    have e10 := (blk_cell k1 0).trans rfl
    have e11 := (blk_cell k1 1).trans rfl
    simp at e10 e11
    clear hB hB1 k1
    go_wp2_with fail
    refine (write_all (nodes t + 1) t 0 _ [] w1 w1 _ (by omega) HR.out HT.out (by omega) (by omega) (OwnB.nil w1) (by have := HN.out; simp only [List.length_nil]; omega)).mono ?_
    rintro e w2 ⟨v2, rfl, hO, hG⟩
    rw [List.nil_append, parT_own (by unfold tightI; (repeat' split) <;> omega)] at hO
    have hcv := bytes_back hO (core_ne t HR.out)
    have HB2 := Aside0.mk (below_then HB.out HB.out.size hO.below)
    clear hO hG e10 e11
    go_wp2_with fail
    go_ret2
    refine ⟨?_, HB2.out⟩
    rw [HS.out, HC.out]
    rfl
  · have HC : Aside0 ((checkI t != 0) = true) := .mk (by simp [hc])
    have HS : Aside0 (textS t = ⟨#[]⟩) := .mk (by unfold textS; rw [if_neg hc])
    clear hc
    go_enter Tryd.func31, Tryd.ntmps31
    go_wp2_with fail
    refine (Check_calls (HT.out.below (below1 ..))).mono ?_
    rintro e w1 ⟨rfl, hB⟩
    obtain ⟨k1, hB1⟩ := one_block hB
    have HB := Aside0.mk hB1
    have hc := HC.out
    clear hB hB1 k1 HC
    go_wp2_with fail
    go_ret2
    refine ⟨?_, HB.out⟩
    rw [HS.out]
    rfl
end Go.Proofs.YtjmpejbciniceaaDoor.X
