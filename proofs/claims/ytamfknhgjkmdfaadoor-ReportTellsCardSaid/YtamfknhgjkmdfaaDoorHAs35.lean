/- errors.as at an error within another one. -/
import Derived.Test.YtamfknhgjkmdfaaDoorHAs34
import Derived.Test.YtamfknhgjkmdfaaDoorHOut
namespace Go.Proofs.YtamfknhgjkmdfaaDoor.X
open Go.RowKit Go.Extern.Stop Go.Stop Go.Extern Go.Proofs.YtamfknhgjkmdfaaDoorW.PrintWords
set_option linter.unusedVariables false
theorem E4.typeOf66 (v : Value) (w : World) : (ReflectliteType.typeOf #[.iface 66 v]).run Tryd.prog w = .ok (.iface 91 (.agg #[.pointer (some ⟨5, 66, none⟩)])) w := by kernel_rfl
theorem E4.no66F (w : World) : (ReflectliteType.relation "AssignableTo" ReflectliteType.assignableTo #[.agg #[.pointer (some ⟨5, 66, none⟩)], .iface 91 (.agg #[.pointer (some ⟨5, 34, none⟩)])]).run Tryd.prog w = .ok (.bool false) w := by kernel_rfl
theorem E4.no66N (w : World) : (ReflectliteType.relation "AssignableTo" ReflectliteType.assignableTo #[.agg #[.pointer (some ⟨5, 66, none⟩)], .iface 91 (.agg #[.pointer (some ⟨5, 22, none⟩)])]).run Tryd.prog w = .ok (.bool false) w := by kernel_rfl
theorem E4.noAs66 (v : Value) (xT : TypeId) (w : World) : (Instr.typeAssert (.iface 66 v) xT 96 true).run Tryd.prog w = .ok (.tuple #[.nilIface, .bool false]) w := run_typeAssert_lacksB Tryd.underlying96 (by kernel_rfl) (by kernel_rfl) v xT w
theorem E4.hasUn66 (v : Value) (xT : TypeId) (w : World) : (Instr.typeAssert (.iface 66 v) xT 99 true).run Tryd.prog w = .ok (.tuple #[.iface 66 v, .bool true]) w := run_typeAssert_hasB Tryd.underlying99 (by kernel_rfl) v xT w
theorem E4.method66 (v : Value) (w : World) : (Go.method 259 66 v "Unwrap").run Tryd.prog w = .ok (89, v) w := by kernel_rfl
theorem E4.notNil (T : TypeId) (x : Value) (W : World) : (binOp .eql 47 (.iface T x) .nilIface).run Tryd.prog W = .ok (.bool false) W := run_eql_held_nil W 47 T _ (by kernel_rfl)
set_option maxHeartbeats 4000000 in
theorem as33F_two (tx ty : ByteArray) (o : Option Addr) (t b : Addr) (old : Value) (w : World) (hb : w.cell? b = some (.pointer (some t))) (ht0 : w.cell? t = some old) (hf0 : w.frozen? t = false) :
    Calls Tryd.prog 33 #[.iface 66 (.agg #[.string tx, .iface 66 (.agg #[.string ty, .iface 34 (.pointer o)])]), .iface 52 (.pointer (some t)), tval 52 b, ttyp 34] w fun ev w' => ev = .returned (.bool true) ∧ ∃ w1, Below w.heap.size w w1 ∧ w' = w1.setCell t (.pointer o) := by
  have h10 := @run_callFunc_extern Tryd.prog 40 _ ReflectliteType.typeOf Tryd.func40 (by kernel_rfl) (by kernel_rfl) (by kernel_rfl) (by kernel_rfl)
  have h35 := @run_callFunc_extern Tryd.prog 97 _ (ReflectliteType.relation "AssignableTo" ReflectliteType.assignableTo) Tryd.func97 (by kernel_rfl) (by kernel_rfl) (by kernel_rfl) (by kernel_rfl)
  have mA := E0.methodAssignableTo
  have h6 := @run_callFunc_extern Tryd.prog 30 _ (fun args => ReflectliteValue.unpack (args.getD 0 (.tuple #[]))) Tryd.func30 (by kernel_rfl) (by kernel_rfl) (by kernel_rfl) (by kernel_rfl)
  have h11 := @run_callFunc_extern Tryd.prog 41 _ (ReflectliteValue.method (ReflectliteValue.valueError "reflectlite.Value.Elem" 0) ReflectliteValue.elem) Tryd.func41 (by kernel_rfl) (by kernel_rfl) (by kernel_rfl) (by kernel_rfl)
  have h12 := @run_callFunc_extern Tryd.prog 42 _ ReflectliteValue.set Tryd.func42 (by kernel_rfl) (by kernel_rfl) (by kernel_rfl) (by kernel_rfl)
  have tO := E0.typeOf25
  have a25 := E0.assignable25
  have v25 := E3.valueOf
  have tO6 := E4.typeOf66
  have a6 := E4.no66F
  have nA := E4.noAs66
  have nU := E4.hasUn66
  have mU := E4.method66
  have nN := E4.notNil
  have hbl : b.block < w.heap.size := World.block_lt_of_cell? w b hb
  have htl : t.block < w.heap.size := World.block_lt_of_cell? w t ht0
  have el := E0.elemV27 b t (((w.alloc (.cells #[.pointer (some ⟨5, 52, none⟩), .pointer (some b), .int .u64 150] 71)).alloc (.cells #[.string tx, .iface 66 (.agg #[.string ty, .iface 34 (.pointer o)])] 66)).alloc (.cells #[.string ty, .iface 34 (.pointer o)] 66))
    (by rw [World.cell?_alloc_lt _ _ b (by simp; omega), World.cell?_alloc_lt _ _ b (by simp; omega), World.cell?_alloc_lt _ _ b hbl]; exact hb)
  have st := E3.set t ⟨w.heap.size + 1 + 1 + 1, 0, none⟩ o old ((((w.alloc (.cells #[.pointer (some ⟨5, 52, none⟩), .pointer (some b), .int .u64 150] 71)).alloc (.cells #[.string tx, .iface 66 (.agg #[.string ty, .iface 34 (.pointer o)])] 66)).alloc (.cells #[.string ty, .iface 34 (.pointer o)] 66)).alloc (.cells #[.pointer o] 34))
    (by rw [World.cell?_alloc_at _ _ _ _ (by simp)]; rfl)
    (by rw [World.cell?_alloc_lt _ _ t (by simp; omega), World.cell?_alloc_lt _ _ t (by simp; omega), World.cell?_alloc_lt _ _ t (by simp; omega), World.cell?_alloc_lt _ _ t htl]; exact ht0)
    (by rw [World.frozen?_alloc_old _ _ t (by simp; omega), World.frozen?_alloc_old _ _ t (by simp; omega), World.frozen?_alloc_old _ _ t (by simp; omega), World.frozen?_alloc_old _ _ t (Nat.ne_of_lt htl)]; exact hf0)
  go_enter Tryd.func33, Tryd.ntmps33
  go_wp2
  refine wp_loop_rounds 3 ?_
  rw [rounds_succ]
  go_wp2
  rw [rounds_succ]
  go_wp2
  rw [rounds_succ]
  go_wp2
  go_ret
  exact ⟨rfl, _, below4 .., rfl⟩
set_option maxHeartbeats 4000000 in
theorem as33F_oneno (tx : ByteArray) (n : Int) (tg : Value) (b : Addr) (w : World) :
    Calls Tryd.prog 33 #[.iface 66 (.agg #[.string tx, .iface 22 (.int .i64 n)]), tg, tval 52 b, ttyp 34] w fun ev w' => ev = .returned (.bool false) ∧ Below w.heap.size w w' := by
  have h10 := @run_callFunc_extern Tryd.prog 40 _ ReflectliteType.typeOf Tryd.func40 (by kernel_rfl) (by kernel_rfl) (by kernel_rfl) (by kernel_rfl)
  have h35 := @run_callFunc_extern Tryd.prog 97 _ (ReflectliteType.relation "AssignableTo" ReflectliteType.assignableTo) Tryd.func97 (by kernel_rfl) (by kernel_rfl) (by kernel_rfl) (by kernel_rfl)
  have mA := E0.methodAssignableTo
  have tO := E1.typeOf22
  have a25 := E1.assignNo
  have nA2 := E1.noAs
  have nU2 := E1.noUn
  have nS2 := E1.noUns
  have tO6 := E4.typeOf66
  have a6 := E4.no66F
  have nA := E4.noAs66
  have nU := E4.hasUn66
  have mU := E4.method66
  have nN := E4.notNil
  go_enter Tryd.func33, Tryd.ntmps33
  go_wp2
  refine wp_loop_rounds 2 ?_
  rw [rounds_succ]
  go_wp2
  rw [rounds_succ]
  go_wp2
  go_ret
  exact ⟨rfl, ((Below.refl _ _).alloc (Nat.le_refl _) _).alloc (by simp) _⟩
set_option maxHeartbeats 4000000 in
theorem as33N_one (tx : ByteArray) (n : Int) (t b : Addr) (old : Value) (w : World) (hb : w.cell? b = some (.pointer (some t))) (ht0 : w.cell? t = some old) (hf0 : w.frozen? t = false) :
    Calls Tryd.prog 33 #[.iface 66 (.agg #[.string tx, .iface 22 (.int .i64 n)]), .iface 55 (.pointer (some t)), tval 55 b, ttyp 22] w fun ev w' => ev = .returned (.bool true) ∧ ∃ w1, Below w.heap.size w w1 ∧ w' = w1.setCell t (.int .i64 n) := by
  have h10 := @run_callFunc_extern Tryd.prog 40 _ ReflectliteType.typeOf Tryd.func40 (by kernel_rfl) (by kernel_rfl) (by kernel_rfl) (by kernel_rfl)
  have h35 := @run_callFunc_extern Tryd.prog 97 _ (ReflectliteType.relation "AssignableTo" ReflectliteType.assignableTo) Tryd.func97 (by kernel_rfl) (by kernel_rfl) (by kernel_rfl) (by kernel_rfl)
  have mA := E0.methodAssignableTo
  have h6 := @run_callFunc_extern Tryd.prog 30 _ (fun args => ReflectliteValue.unpack (args.getD 0 (.tuple #[]))) Tryd.func30 (by kernel_rfl) (by kernel_rfl) (by kernel_rfl) (by kernel_rfl)
  have h11 := @run_callFunc_extern Tryd.prog 41 _ (ReflectliteValue.method (ReflectliteValue.valueError "reflectlite.Value.Elem" 0) ReflectliteValue.elem) Tryd.func41 (by kernel_rfl) (by kernel_rfl) (by kernel_rfl) (by kernel_rfl)
  have h12 := @run_callFunc_extern Tryd.prog 42 _ ReflectliteValue.set Tryd.func42 (by kernel_rfl) (by kernel_rfl) (by kernel_rfl) (by kernel_rfl)
  have tO := E1.typeOf22
  have a25 := E2.assignable
  have v25 := E2.valueE
  have tO6 := E4.typeOf66
  have a6 := E4.no66N
  have nA := E4.noAs66
  have nU := E4.hasUn66
  have mU := E4.method66
  have nN := E4.notNil
  have hbl : b.block < w.heap.size := World.block_lt_of_cell? w b hb
  have htl : t.block < w.heap.size := World.block_lt_of_cell? w t ht0
  have el := E2.elemV b t ((w.alloc (.cells #[.pointer (some ⟨5, 55, none⟩), .pointer (some b), .int .u64 150] 71)).alloc (.cells #[.string tx, .iface 22 (.int .i64 n)] 66))
    (by rw [World.cell?_alloc_lt _ _ b (by simp; omega), World.cell?_alloc_lt _ _ b hbl]; exact hb)
  have st := E2.set t ⟨w.heap.size + 1 + 1, 0, none⟩ n old (((w.alloc (.cells #[.pointer (some ⟨5, 55, none⟩), .pointer (some b), .int .u64 150] 71)).alloc (.cells #[.string tx, .iface 22 (.int .i64 n)] 66)).alloc (.cells #[.int .i64 n] 22))
    (by rw [World.cell?_alloc_at _ _ _ _ (by simp)]; rfl)
    (by rw [World.cell?_alloc_lt _ _ t (by simp; omega), World.cell?_alloc_lt _ _ t (by simp; omega), World.cell?_alloc_lt _ _ t htl]; exact ht0)
    (by rw [World.frozen?_alloc_old _ _ t (by simp; omega), World.frozen?_alloc_old _ _ t (by simp; omega), World.frozen?_alloc_old _ _ t (Nat.ne_of_lt htl)]; exact hf0)
  go_enter Tryd.func33, Tryd.ntmps33
  go_wp2
  refine wp_loop_rounds 2 ?_
  rw [rounds_succ]
  go_wp2
  rw [rounds_succ]
  go_wp2
  go_ret
  exact ⟨rfl, _, below3 .., rfl⟩
end Go.Proofs.YtamfknhgjkmdfaaDoor.X
