/- errors.as at errors joined: a text, a number, a fault. -/
import Derived.Test.YtamfknhgjkmdfaaDoorHAs34
namespace Go.Proofs.YtamfknhgjkmdfaaDoor.X
open Go.RowKit Go.Extern.Stop Go.Stop Go.Extern Go.Proofs.YtamfknhgjkmdfaaDoorW.PrintWords
set_option linter.unusedVariables false
theorem E5.typeOf87 (v : Value) (w : World) : (ReflectliteType.typeOf #[.iface 87 v]).run Tryd.prog w = .ok (.iface 91 (.agg #[.pointer (some ⟨5, 87, none⟩)])) w := by kernel_rfl
theorem E5.no87F (w : World) : (ReflectliteType.relation "AssignableTo" ReflectliteType.assignableTo #[.agg #[.pointer (some ⟨5, 87, none⟩)], .iface 91 (.agg #[.pointer (some ⟨5, 34, none⟩)])]).run Tryd.prog w = .ok (.bool false) w := by kernel_rfl
theorem E5.noAs87 (v : Value) (xT : TypeId) (w : World) : (Instr.typeAssert (.iface 87 v) xT 96 true).run Tryd.prog w = .ok (.tuple #[.nilIface, .bool false]) w := run_typeAssert_lacksB Tryd.underlying96 (by kernel_rfl) (by kernel_rfl) v xT w
theorem E5.noUn87 (v : Value) (xT : TypeId) (w : World) : (Instr.typeAssert (.iface 87 v) xT 99 true).run Tryd.prog w = .ok (.tuple #[.nilIface, .bool false]) w := run_typeAssert_lacksB Tryd.underlying99 (by kernel_rfl) (by kernel_rfl) v xT w
theorem E5.hasUns87 (v : Value) (xT : TypeId) (w : World) : (Instr.typeAssert (.iface 87 v) xT 101 true).run Tryd.prog w = .ok (.tuple #[.iface 87 v, .bool true]) w := run_typeAssert_hasB Tryd.underlying101 (by kernel_rfl) v xT w
theorem E5.method87 (v : Value) (w : World) : (Go.method 259 87 v "Unwrap").run Tryd.prog w = .ok (95, v) w := by kernel_rfl
theorem E5.notNil (T : TypeId) (x : Value) (W : World) : (binOp .eql 47 (.iface T x) .nilIface).run Tryd.prog W = .ok (.bool false) W := run_eql_held_nil W 47 T _ (by kernel_rfl)
theorem join_unwrap (J : Nat) (v : Value) (w : World) (hJ : w.cell? ⟨J, 0, none⟩ = some v) : Calls Tryd.prog 95 #[.pointer (some ⟨J, 0, none⟩)] w fun e w' => e = .returned v ∧ w' = w := by
  go_enter Tryd.func95, Tryd.ntmps95
  go_wp2_with fail
  go_ret
  exact ⟨rfl, rfl⟩
set_option maxRecDepth 100000 in
set_option maxHeartbeats 4000000 in
theorem as33F_join (p : Addr) (n : Int) (o : Option Addr) (J m cap : Nat) (t b : Addr) (old : Value) (w : World) (hb : w.cell? b = some (.pointer (some t))) (ht0 : w.cell? t = some old) (hf0 : w.frozen? t = false)
    (hJ : w.cell? ⟨J, 0, none⟩ = some (.slice (some ⟨m, 0, none⟩) 3 cap)) (h0 : w.cell? ⟨m, 0, none⟩ = some (.iface 83 (.pointer (some p)))) (h1 : w.cell? ⟨m, 1, none⟩ = some (.iface 22 (.int .i64 n))) (h2 : w.cell? ⟨m, 2, none⟩ = some (.iface 34 (.pointer o))) :
    Calls Tryd.prog 33 #[.iface 87 (.pointer (some ⟨J, 0, none⟩)), .iface 52 (.pointer (some t)), tval 52 b, ttyp 34] w fun ev w' => ev = .returned (.bool true) ∧ ∃ w1, Below w.heap.size w w1 ∧ w' = w1.setCell t (.pointer o) := by
  have h10 := @run_callFunc_extern Tryd.prog 40 _ ReflectliteType.typeOf Tryd.func40 (by kernel_rfl) (by kernel_rfl) (by kernel_rfl) (by kernel_rfl)
  have h35 := @run_callFunc_extern Tryd.prog 97 _ (ReflectliteType.relation "AssignableTo" ReflectliteType.assignableTo) Tryd.func97 (by kernel_rfl) (by kernel_rfl) (by kernel_rfl) (by kernel_rfl)
  have mA := E0.methodAssignableTo
  have tO6 := E5.typeOf87
  have a6 := E5.no87F
  have nA := E5.noAs87
  have nU := E5.noUn87
  have nS := E5.hasUns87
  have mU := E5.method87
  have nN := E5.notNil
  have hB0 : Below w.heap.size w (w.alloc (.cells #[.pointer (some ⟨5, 52, none⟩), .pointer (some b), .int .u64 150] 71)) := (Below.refl _ _).alloc (Nat.le_refl _) _
  have KB := Aside0.mk (heap_alloc_new w (.cells #[.pointer (some ⟨5, 52, none⟩), .pointer (some b), .int .u64 150] 71))
  have keep : ∀ {w1 : World}, Below w.heap.size w w1 → ∀ {a : Addr} {v : Value}, w.cell? a = some v → w1.cell? a = some v   := fun {w1} hb1 {a v} h => (hb1.cell (World.block_lt_of_cell? w _ h)).trans h
  have HKEEP := Aside0.mk (fun (w1 : World) (hb1 : Below w.heap.size w w1) => (⟨(keep hb1 hb), (keep hb1 ht0), (hb1.frozen (World.block_lt_of_cell? w t ht0)).trans hf0, keep hb1 hJ, keep hb1 h0, keep hb1 h1, keep hb1 h2⟩ : w1.cell? b = some (.pointer (some t)) ∧ w1.cell? t = some old ∧ w1.frozen? t = false ∧ w1.cell? ⟨J, 0, none⟩ = some (.slice (some ⟨m, 0, none⟩) 3 cap) ∧ w1.cell? ⟨m, 0, none⟩ = some (.iface 83 (.pointer (some p))) ∧ w1.cell? ⟨m, 1, none⟩ = some (.iface 22 (.int .i64 n)) ∧ w1.cell? ⟨m, 2, none⟩ = some (.iface 34 (.pointer o))))
  have HB := Aside0.mk hB0
  clear hb ht0 hf0 hJ h0 h1 h2 hB0 keep
  go_enter Tryd.func33, Tryd.ntmps33
  go_wp2_with (go_at_call 33; fail)
  generalize w.alloc (.cells #[.pointer (some ⟨5, 52, none⟩), .pointer (some b), .int .u64 150] 71) = wa at *
  obtain ⟨-, -, -, cJ, c0, c1, c2⟩ := HKEEP.out wa HB.out
  refine wp_loop_rounds 1 ?_
  rw [rounds_succ]
  go_wp2_with (go_at_call 33; fail)
  refine (join_unwrap J _ wa cJ).mono ?_
  rintro ev w1 ⟨rfl, rfl⟩
  go_wp2_with (go_at_call 33; fail)
  have b0 := (blk_cell KB.out 0).trans rfl
  have b1 := (blk_cell KB.out 1).trans rfl
  have b2 := (blk_cell KB.out 2).trans rfl
  simp at b0 b1 b2
  refine wp_loop_rounds 3 ?_
  rw [rounds_succ]
  go_wp2_with (go_at_call 33; fail)
  refine (as33F_no83 _ _ b _).mono ?_
  rintro ev w2 ⟨rfl, hbn⟩
  replace HB := Aside0.mk (below_then HB.out HB.out.size hbn)
  replace KB := Aside0.mk (blk_below KB.out hbn)
  clear hbn cJ c0 c1 c2 b0 b1 b2
  obtain ⟨-, -, -, cJ, c0, c1, c2⟩ := HKEEP.out w2 HB.out
  have b0 := (blk_cell KB.out 0).trans rfl
  have b1 := (blk_cell KB.out 1).trans rfl
  have b2 := (blk_cell KB.out 2).trans rfl
  simp at b0 b1 b2
  go_wp2_with (go_at_call 33; fail)
  rw [rounds_succ]
  go_wp2_with (go_at_call 33; fail)
  refine (as33F_no22 n _ b _).mono ?_
  rintro ev w3 ⟨rfl, hbn⟩
  replace HB := Aside0.mk (below_then HB.out HB.out.size hbn)
  replace KB := Aside0.mk (blk_below KB.out hbn)
  clear hbn cJ c0 c1 c2 b0 b1 b2
  obtain ⟨-, -, -, cJ, c0, c1, c2⟩ := HKEEP.out w3 HB.out
  have b0 := (blk_cell KB.out 0).trans rfl
  have b1 := (blk_cell KB.out 1).trans rfl
  have b2 := (blk_cell KB.out 2).trans rfl
  simp at b0 b1 b2
  go_wp2_with (go_at_call 33; fail)
  rw [rounds_succ]
  go_wp2_with (go_at_call 33; fail)
  obtain ⟨hb, ht0, hf0, -, -, -, -⟩ := HKEEP.out w3 HB.out
  refine (as33F_hit o t b old w3 hb ht0 hf0).mono ?_
  rintro ev w4 ⟨rfl, wx, hbx, rfl⟩
  have HB4 := Aside0.mk (below_then HB.out HB.out.size hbx)
  clear hbx
  go_wp2_with (go_at_call 33; fail)
  go_ret
  exact ⟨rfl, _, HB4.out, rfl⟩
end Go.Proofs.YtamfknhgjkmdfaaDoor.X
