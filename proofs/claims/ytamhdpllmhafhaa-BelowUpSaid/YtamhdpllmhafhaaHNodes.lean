/- The contract of types.Nodes: it answers how many types a type holds, at most 8193. -/
import Derived.Test.YtamhdpllmhafhaaX0
import Derived.Defers
import Derived.Recover
import Derived.Laws.Pointers
import Derived.Outline
import Derived.WalkLawsBesides
namespace Go.Proofs.Ytamhdpllmhafhaa.X
open Go.RowKit Go.Proofs.YtamhdpllmhafhaaW.PrintWords Go.Proofs.YtamhdpllmhafhaaW.PrintLast Go.Proofs.YtamhdpllmhafhaaW.PrintMore
set_option linter.unusedVariables false
set_option linter.unusedSimpArgs false

mutual
def nodes : S26 → Nat
  | ⟨_, l⟩ => 1 + nodesL l
def nodesL : List S26 → Nat
  | [] => 0
  | x :: l => nodes x + nodesL l
end
theorem nodes_eq (x : S26) : nodes x = 1 + nodesL x.f1 := by cases x; rw [nodes]
theorem nodesL_append (l m : List S26) : nodesL (l ++ m) = nodesL l + nodesL m := by
  induction l with
  | nil => simp [nodesL]
  | cons x l ih => simp only [List.cons_append, nodesL, ih]; omega
theorem nodesL_take (l : List S26) (i : Nat) (h : i < l.length) : nodesL (l.take (i + 1)) = nodesL (l.take i) + nodes (rd_T26 l i) := by
  rw [List.take_succ_eq_append_getElem h, nodesL_append]
  simp [nodesL, rd_T26, List.getD_eq_getElem?_getD, h]
theorem nodesL_take_le (l : List S26) (i : Nat) : nodesL (l.take i) ≤ nodesL l := by
  have := nodesL_append (l.take i) (l.drop i)
  rw [List.take_append_drop] at this
  omega
def types_Nodes.f (a0_0 : Int) (l0_1 : List S26) : Option Int := some ((min (1 + nodesL l0_1) 8193 : Nat) : Int)

/-- What a call of count leaves. -/
def CountPost (w0 w : World) (g : Nat) (v s : Int) (e : Ending) (w' : World) : Prop :=
  Below w0.heap.size w0 w' ∧ KeepBut w w' g none ∧
  ((v + s ≤ 8192 ∧ e = .returned (.tuple #[]) ∧ w'.heap[g]? = some (.cells #[.int .i64 (v + s)] 71 (0, 0))) ∨
   (8192 < v + s ∧ e = .panicked [{ v := .iface 73 (.agg #[]), recovered := false }]))

set_option maxRecDepth 100000 in
set_option maxHeartbeats 1600000 in
theorem count_calls (m : Nat) : ∀ (a0 : Int) (A : Option Addr) (c : Nat) (l : List S26) (g : Nat) (v : Int) (w0 w : World),
    nodesL l < m → 0 ≤ v → v ≤ 8192 → Below w0.heap.size w0 w → w0.heap.size ≤ g → w.heap[g]? = some (.cells #[.int .i64 v] 71 (0, 0)) →
    Kd.C k26 w0 A l.length l → l.length ≤ c →
    Calls Try.prog 81 #[.pointer (some ⟨g, 0, none⟩), .agg #[.int .i8 a0, .slice A l.length c]] w (CountPost w0 w g v (1 + nodesL l)) := by
  induction m with
  | zero => intro a0 A c l g v w0 w hm; omega
  | succ m ih =>
  intro a0 A c l g v w0 w hm hv0 hv1 HB0 hg hb0 hr hc
  have IH := Aside0.mk ih
  have HR := Aside0.mk hr
  have hL : l.length ≤ 9223372036854775807 := hr.2.1
  have HB := Aside0.mk HB0
  have HG := Aside0.mk hb0
  have hglt := blk_lt hb0
  have hcell := blk_cell hb0 0
  have hfz := blk_frozen hb0 0
  simp at hcell
  have HW1 : Aside0 (Below w0.heap.size w0 ((w.setCell ⟨g, 0, none⟩ (.int .i64 (v + 1))).alloc (.cells #[.int .i8 a0, .slice A l.length c] 26))) := ⟨(HB0.setCell hg _).alloc (by have := HB0.size; simp; omega) _⟩
  have HK1 : Aside0 (KeepBut w ((w.setCell ⟨g, 0, none⟩ (.int .i64 (v + 1))).alloc (.cells #[.int .i8 a0, .slice A l.length c] 26)) g none) := ⟨keep_alloc ((KeepBut.refl _ _ _).set_ 0 _) _⟩
  have HG1 : Aside0 (((w.setCell ⟨g, 0, none⟩ (.int .i64 (v + 1))).alloc (.cells #[.int .i8 a0, .slice A l.length c] 26)).heap[g]? = some (.cells #[.int .i64 (v + 1)] 71 (0, 0))) := ⟨by
    have := blk_alloc (blk_set hb0 0 (.int .i64 (v + 1))) (.cells #[.int .i8 a0, .slice A l.length c] 26)
    simpa using this⟩
  clear hb0 ih hr HB0
  by_cases h8 : v + 1 ≤ 8192
  · go_enter Try.func81, Try.ntmps81
    go_wp2_with fail
    go_loopw [23] (fun i wr => ∃ k : Nat, i = .int .i64 k ∧ k ≤ l.length ∧ Below w0.heap.size w0 wr ∧ KeepBut w wr g none ∧ v + 1 + (nodesL (l.take k) : Int) ≤ 8192 ∧ wr.heap[g]? = some (.cells #[.int .i64 (v + 1 + (nodesL (l.take k) : Int))] 71 (0, 0))) (fun i _ => l.length - (intOf i).toNat)
    case atStart => exact ⟨0, rfl, Nat.zero_le _, HW1.out, HK1.out, by simp [nodesL]; omega, by simpa [nodesL] using HG1.out⟩
    case round =>
      obtain ⟨k, rfl, hk, hB, hK, h8k, hG⟩ := hrel
      by_cases hlt : k < l.length
      · obtain ⟨ad, A1, c1, hA, hx0, hx1, hl1, hi1⟩ := at_T26 HR.out (k : Int) (by omega) (by omega)
        cases hA
        have hy0 := (hB.cell (World.block_lt_of_cell? w0 _ hx0)).trans hx0
        have hy1 := (hB.cell (World.block_lt_of_cell? w0 _ hx1)).trans hx1
        have hs := nodesL_take l k hlt
        rw [nodes_eq] at hs
        have hsl := nodesL_take_le l (k + 1)
        generalize hel : rd_T26 l (k : Int) = x at *
        have HS := Aside0.mk hs
        have HB := Aside0.mk hB
        have HK := Aside0.mk hK
        have HG := Aside0.mk hG
        have HI := Aside0.mk hi1
        have hbs := hB.size
        have hgl := blk_lt hG
        simp only [Int.toNat_natCast] at hy0 hy1
        clear hx0 hx1 hB hK hG hi1 hel hs
        go_wp2_with fail
        refine (IH.out _ _ _ x.f1 g (v + 1 + (nodesL (l.take k) : Int)) w0 _ (by have := HS.out; omega) (by omega) h8k (HB.out.alloc hbs _) hg (blk_alloc HG.out _) HI.out hl1).mono ?_
        rintro e w' ⟨hB2, hK2, hpost⟩
        have HB2 := Aside0.mk hB2
        have HK2 := Aside0.mk (KeepBut.trans (keep_alloc HK.out (.cells #[.int .i8 x.f0, .slice A1 x.f1.length c1] 26)) hK2 (.inl rfl))
        clear hB2 hK2
        rcases hpost with ⟨hle, rfl, hG2⟩ | ⟨hgt, rfl⟩
        · have hsum : v + 1 + ((nodesL (l.take k) : Nat) : Int) + (1 + ((nodesL x.f1 : Nat) : Int)) = v + 1 + ((nodesL (l.take (k + 1)) : Nat) : Int) := by have := HS.out; omega
          rw [hsum] at hG2 hle
          have HG2 := Aside0.mk hG2
          clear hG2 hsum
          go_wp2_with fail
          go_roundw
          case rel => exact ⟨k + 1, by go_num, by omega, HB2.out, HK2.out, hle, HG2.out⟩
          case measure => simp [intOf]; omega
        · refine ⟨rfl, HB2.out, HK2.out, .inr ⟨?_, rfl⟩⟩
          have := HS.out
          omega
      · obtain rfl : k = l.length := by omega
        have HB := Aside0.mk hB
        have HK := Aside0.mk hK
        have HG := Aside0.mk hG
        clear hB hK hG
        go_wp2_with fail
        rw [List.take_length] at *
        go_end0
        refine ⟨HB.out, HK.out, .inl ⟨by omega, rfl, ?_⟩⟩
        have := HG.out
        rw [this]
        congr 5
        omega
  · go_enter Try.func81, Try.ntmps81
    go_wp2_with fail
    refine ⟨rfl, HW1.out, HK1.out, .inr ⟨?_, rfl⟩⟩
    omega

/-- The deferred closure of Nodes behind a return: nothing. -/
theorem nodes_idle (p : Addr) (w : World) :
    CallsD Try.prog 80 #[.pointer (some p)] .returning w fun e u' w' => e = .returned (.tuple #[]) ∧ u' = .returning ∧ w' = w := by
  refine callsD_of_wpS Try.func80 rfl fun c₀ cs hu => ?_
  apply wpS_seq
  apply wpS_region
  simp [wpOpsS, go_sem, recoverD, hu, Try.ntmps80, Exit.thenS]
  refine wpS_of_wp ?_
  have hu20 := Try.underlying20
  have he : ∀ W : World, (binOp .eql 20 .nilIface .nilIface).run Try.prog W = .ok (.bool true) W := fun W => run_eql_nil_nil W 20 (by kernel_rfl)
  go_wp2
  cases c₀
  simp_all [bodyPostS, results, Try.results80]

theorem nodes_catch (g : Nat) (x : Int) (w : World) (hb : w.heap[g]? = some (.cells #[.int .i64 x] 3 (0, 0))) :
    CallsD Try.prog 80 #[.pointer (some ⟨g, 0, none⟩)] (.panicking [{ v := .iface 73 (.agg #[]), recovered := false }]) w fun e u' w' =>
      e = .returned (.tuple #[]) ∧ u' = .panicking [{ v := .iface 73 (.agg #[]), recovered := true }] ∧ w' = (w.alloc (.cells #[] 73)).setCell ⟨g, 0, none⟩ (.int .i64 8193) := by
  have hc := blk_cell (blk_alloc hb (.cells #[] 73)) 0
  have hz := blk_frozen (blk_alloc hb (.cells #[] 73)) 0
  simp at hc
  refine callsD_of_wpS Try.func80 rfl fun c₀ cs hu => ?_
  apply wpS_seq
  apply wpS_region
  simp [wpOpsS, go_sem, recoverD, hu, Try.ntmps80, Exit.thenS]
  refine wpS_of_wp ?_
  have hu20 := Try.underlying20
  have he : ∀ W : World, (binOp .eql 20 (.iface 73 (.agg #[])) .nilIface).run Try.prog W = .ok (.bool false) W := fun W => run_eql_held_nil W 20 73 _ (by kernel_rfl)
  have hta : ∀ W : World, (Instr.typeAssert (.iface 73 (.agg #[])) 20 73 true).run Try.prog W = .ok (.tuple #[.agg #[], .bool true]) W := fun W => by kernel_rfl
  go_wp2
  simp [bodyPostS, results, Try.results80]

set_option maxRecDepth 100000 in
set_option maxHeartbeats 1600000 in
theorem types_Nodes.calls (a0_0 : Int) (A0_1 : Option Addr) (c0_1 : Nat) (l0_1 : List S26) (r : Int) (w : World) (hr0_1 : Kd.C k26 w A0_1 l0_1.length l0_1) (hc0_1 : l0_1.length ≤ c0_1) (h : types_Nodes.f a0_0 l0_1 = some r) :
    Calls Try.prog 46 #[.agg #[.int .i8 a0_0, .slice A0_1 l0_1.length c0_1]] w fun e w' => e = .returned (.int .i64 r) ∧ Below w.heap.size w w' := by
  unfold types_Nodes.f at h
  have HV := Aside0.mk (Option.some.inj h)
  have HR := Aside0.mk hr0_1
  clear hr0_1 h
  have hmf : ∀ (fn : Fn) (first cap : Array Value) (w : World), (Instr.makeFunc fn first cap).run Try.prog w = .ok (.func fn first cap) w := fun _ _ _ _ => rfl
  generalize hO : Obj.cells #[.int .i8 a0_0, .slice A0_1 l0_1.length c0_1] 26 = O
  have hB3 : Below w.heap.size w (((w.alloc O).alloc (.cells #[.int .i64 0] 3)).alloc (.cells #[.int .i64 0] 71)) := (((Below.refl _ _).alloc (Nat.le_refl _) _).alloc (by simp) _).alloc (by simp; omega) _
  have hg3 : (((w.alloc O).alloc (.cells #[.int .i64 0] 3)).alloc (.cells #[.int .i64 0] 71)).heap[w.heap.size + 1 + 1]? = some (.cells #[.int .i64 0] 71 (0, 0)) := by
    have := heap_alloc_new ((w.alloc O).alloc (.cells #[.int .i64 0] 3)) (.cells #[.int .i64 0] 71)
    simpa using this
  have hn3 : (((w.alloc O).alloc (.cells #[.int .i64 0] 3)).alloc (.cells #[.int .i64 0] 71)).heap[w.heap.size + 1]? = some (.cells #[.int .i64 0] 3 (0, 0)) := by
    have := heap_alloc_new (w.alloc O) (.cells #[.int .i64 0] 3)
    exact blk_alloc (by simpa using this) _
  subst hO
  have HB3 := Aside0.mk hB3
  have HG3 := Aside0.mk hg3
  have HN3 := Aside0.mk hn3
  clear hB3 hg3 hn3
  go_enter_defers Try.func46, Try.ntmps46
  go_wp2_with fail
  refine (count_calls (nodesL l0_1 + 1) a0_0 A0_1 c0_1 l0_1 (w.heap.size + 1 + 1) 0 w _ (by omega) (by omega) (by omega) HB3.out (by omega) HG3.out HR.out hc0_1).mono ?_
  rintro e w' ⟨hB, hK, hpost⟩
  have HB := Aside0.mk hB
  have hn : w'.heap[w.heap.size + 1]? = some (.cells #[.int .i64 0] 3 (0, 0)) := hK.blk HN3.out (by omega) (by simp)
  have hnc := blk_cell hn 0
  have hnz := blk_frozen hn 0
  simp at hnc
  have HN := Aside0.mk hn
  have hsz := blk_lt hn
  clear hB hK hn
  rcases hpost with ⟨hle, rfl, hG⟩ | ⟨hgt, rfl⟩
  · have hgc := blk_cell hG 0
    simp at hgc
    have hv : (1 : Int) + ((nodesL l0_1 : Nat) : Int) = r := by have := HV.out; omega
    rw [hv] at hgc
    clear hG hv hle
    go_wp2_with fail
    refine leaves_cons (f := 80) (args := #[.pointer (some ⟨w.heap.size + 1, 0, none⟩)]) (by simp) (by simp [go_sem]) ?_
    refine (nodes_idle _ _).mono ?_
    rintro e u' w'' ⟨rfl, rfl, rfl⟩
    have hc2 : (w'.setCell ⟨w.heap.size + 1, 0, none⟩ (.int .i64 r)).cell? ⟨w.heap.size + 1, 0, none⟩ = some (.int .i64 r) := World.cell?_setCell_same _ _ _ hnc
    exact ⟨.int .i64 r, by simp [results, Try.results46, go_sem, hc2], rfl, HB.out.setCell (by simp) _⟩
  · have hv : r = 8193 := by have := HV.out; omega
    clear hgt
    refine leaves_cons (f := 80) (args := #[.pointer (some ⟨w.heap.size + 1, 0, none⟩)]) (by simp) (by simp [go_sem]) ?_
    refine (nodes_catch _ _ _ HN.out).mono ?_
    rintro e u' w'' ⟨rfl, rfl, rfl⟩
    have hc2 : ((w'.alloc (.cells #[] 73)).setCell ⟨w.heap.size + 1, 0, none⟩ (.int .i64 8193)).cell? ⟨w.heap.size + 1, 0, none⟩ = some (.int .i64 8193) := World.cell?_setCell_same _ _ _ ((blk_cell (blk_alloc HN.out _) 0).trans rfl)
    simp [Leaves, settle]
    exact ⟨.int .i64 8193, by simp [results, Try.results46, go_sem, hc2], by rw [hv], (HB.out.alloc (by omega) _).setCell (by simp) _⟩
end Go.Proofs.Ytamhdpllmhafhaa.X
