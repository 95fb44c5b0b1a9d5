/- errors.Is of a fault and its number: true; after the guide's SentryIs. -/
import Derived.Test.YtjmpejbciniceaaDoorHErr
namespace Go.Proofs.YtjmpejbciniceaaDoor.X
open Go.RowKit Go.Extern.Stop Go.Stop Go.Extern
set_option linter.unusedVariables false

theorem E0.isTypeOf (v : Value) (w : World) : (Extern.ReflectliteType.typeOf #[.iface 27 v]).run Tryd.prog w = .ok (.iface 153 (.agg #[.pointer (some ⟨5, 27, none⟩)])) w := by kernel_rfl
theorem E0.isComparable0 (w : World) : ((Extern.ReflectliteType.method fun t => do Extern.Rtype.noPackHeld "Comparable" t; pure (.bool (← typeInfo t).comparable)) #[.agg #[.pointer (some ⟨5, 27, none⟩)]]).run Tryd.prog w = .ok (.bool true) w := by kernel_rfl
theorem E0.isComparable (w : World) : ((Extern.ReflectliteType.method fun t => do Extern.Rtype.noPackHeld "Comparable" t; (fun a => Value.bool a.comparable) <$> typeInfo t) #[.agg #[.pointer (some ⟨5, 27, none⟩)]]).run Tryd.prog w = .ok (.bool true) w := by kernel_rfl
theorem E0.isMethodComparable (v : Value) (w : World) : (Go.method 320 153 v "Comparable").run Tryd.prog w = .ok (182, v) w := by kernel_rfl
theorem E0.isComp : (Tryd.prog.info? 27).map (·.comparable) = some true := by kernel_rfl
theorem E0.noIsF (v : Value) (xT : TypeId) (w : World) : (Instr.typeAssert (.iface 60 v) xT 167 true).run Tryd.prog w = .ok (.tuple #[.nilIface, .bool false]) w := run_typeAssert_lacksB Tryd.underlying167 (by kernel_rfl) (by kernel_rfl) v xT w
theorem E0.hasUnwrapF (v : Value) (xT : TypeId) (w : World) : (Instr.typeAssert (.iface 60 v) xT 160 true).run Tryd.prog w = .ok (.tuple #[.iface 60 v, .bool true]) w := run_typeAssert_hasB Tryd.underlying160 (by kernel_rfl) v xT w
theorem E0.methodUnwrap (v : Value) (w : World) : (Go.method 320 60 v "Unwrap").run Tryd.prog w = .ok (175, v) w := by kernel_rfl
theorem eql_errno (a : Int) (w : World) : (binOp .eql 24 (.iface 27 (.int .i64 a)) (.iface 27 (.int .i64 a))).run Tryd.prog w = .ok (.bool true) w := by
  obtain ⟨i, hi, hc⟩ := Option.map_eq_some_iff.1 E0.isComp
  have h1 : ∀ d, (Op.equalIn (d + 2) 24 (.iface 27 (.int .i64 a)) (.iface 27 (.int .i64 a))).run Tryd.prog w = .ok true w := fun d => by
    simp [Op.equalIn, run_underlying Tryd.underlying24, run_underlying Tryd.underlying27, typeInfo, hi, hc]
  simp only [binOp]
  simp [Op.equal, Op.maxDepth, h1 9998]
set_option maxHeartbeats 4000000 in
theorem err_is (q : Nat) (k : Int) (w : World) (h1 : w.cell? ⟨q, 0, none⟩ = some (.int .i64 k)) :
    Calls Tryd.prog 72 #[.iface 60 (.pointer (some ⟨q, 0, none⟩)), .iface 27 (.int .i64 k)] w fun e w' => e = .returned (.bool true) ∧ w' = w := by
  have h8 := @run_callFunc_extern Tryd.prog 111 _ Extern.ReflectliteType.typeOf Tryd.func111 (by kernel_rfl) (by kernel_rfl) (by kernel_rfl) (by kernel_rfl)
  have h32 := @run_callFunc_extern Tryd.prog 182 _ (Extern.ReflectliteType.method fun t => do Extern.Rtype.noPackHeld "Comparable" t; pure (.bool (← typeInfo t).comparable)) Tryd.func182 (by kernel_rfl) (by kernel_rfl) (by kernel_rfl) (by kernel_rfl)
  have tT := E0.isTypeOf
  have cT := E0.isComparable
  have cT0 := E0.isComparable0
  have mR := E0.isMethodComparable
  have nW := E0.noIsF
  have uW := E0.hasUnwrapF
  have mU := E0.methodUnwrap
  have heq := eql_errno k
  have hty := run_eql_iface_types (P := Tryd.prog) 60 27 (.pointer (some ⟨q, 0, none⟩)) (.int .i64 k) Tryd.underlying24 (by decide) w
  go_enter Tryd.func72, Tryd.ntmps72
  go_wp2
  refine wp_loop_rounds 2 ?_
  rw [rounds_succ]
  go_wp2
  rw [rounds_succ]
  go_wp2
  go_ret
  exact ⟨rfl, rfl⟩
end Go.Proofs.YtjmpejbciniceaaDoor.X
