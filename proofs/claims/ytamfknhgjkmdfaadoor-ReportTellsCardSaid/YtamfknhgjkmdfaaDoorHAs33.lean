/- errors.As over errors.as: the head of the one, for whatever error; the other at the errors that the law makes. -/
import Derived.Test.YtamfknhgjkmdfaaDoorHAsX
namespace Go.Proofs.YtamfknhgjkmdfaaDoor.X
open Go.RowKit Go.Extern.Stop Go.Stop Go.Extern Go.Proofs.YtamfknhgjkmdfaaDoorW.PrintWords
set_option linter.unusedVariables false
/-- The target's value, as errors.As hands it on. -/
abbrev tval (T : Nat) (b : Addr) : Value := .agg #[.pointer (some ⟨5, T, none⟩), .pointer (some b), .int .u64 150]
abbrev ttyp (T : Nat) : Value := .iface 91 (.agg #[.pointer (some ⟨5, T, none⟩)])
set_option maxHeartbeats 4000000 in
theorem as16F (T : TypeId) (x : Value) (t : Addr) (w : World) (hg : HasErr w) (R : World → Value → World → Prop)
    (h33 : ∀ w' b, Below w.heap.size w w' → w.heap.size ≤ b.block → w'.cell? b = some (.pointer (some t)) → Calls Tryd.prog 33 #[.iface T x, .iface 52 (.pointer (some t)), tval 52 b, ttyp 34] w' fun ev w'' => ∃ v, ev = .returned v ∧ R w' v w'') :
    Calls Tryd.prog 16 #[.iface T x, .iface 52 (.pointer (some t))] w fun ev w'' => ∃ w' v, Below w.heap.size w w' ∧ ev = .returned v ∧ R w' v w'' := by
  unfold HasErr at hg
  have h6 := @run_callFunc_extern Tryd.prog 30 _ (fun args => ReflectliteValue.unpack (args.getD 0 (.tuple #[]))) Tryd.func30 (by kernel_rfl) (by kernel_rfl) (by kernel_rfl) (by kernel_rfl)
  have h7 := @run_callFunc_extern Tryd.prog 31 _ (ReflectliteValue.methodAny (ReflectliteValue.valueError "reflectlite.Value.Type" 0) (fun t _ _ _ => ReflectliteType.toType t)) Tryd.func31 (by kernel_rfl) (by kernel_rfl) (by kernel_rfl) (by kernel_rfl)
  have h8 := @run_callFunc_extern Tryd.prog 32 _ (ReflectliteValue.method (ReflectliteValue.valueError "reflectlite.Value.IsNil" 0) ReflectliteValue.isNil) Tryd.func32 (by kernel_rfl) (by kernel_rfl) (by kernel_rfl) (by kernel_rfl)
  have h27 := @run_callFunc_extern Tryd.prog 83 _ (ReflectliteType.abiMethod fun t => do pure (.int .u8 (← Rtype.kind t))) Tryd.func83 (by kernel_rfl) (by kernel_rfl) (by kernel_rfl) (by kernel_rfl)
  have h37 := @run_callFunc_extern Tryd.prog 99 _ (ReflectliteType.method ReflectliteType.elem) Tryd.func99 (by kernel_rfl) (by kernel_rfl) (by kernel_rfl) (by kernel_rfl)
  have h38 := @run_callFunc_extern Tryd.prog 100 _ (ReflectliteType.relation "Implements" ReflectliteType.implements_) Tryd.func100 (by kernel_rfl) (by kernel_rfl) (by kernel_rfl) (by kernel_rfl)
  have mK := E0.methodKind
  have mE := E0.methodElem
  have mI := E0.methodImplements
  have hlt : 0 < w.heap.size := cell_lt hg
  have he : ∀ W : World, (binOp .eql 47 (.iface T x) .nilIface).run Tryd.prog W = .ok (.bool false) W := fun W => run_eql_held_nil W 47 T _ (by kernel_rfl)
  have f6 := E0.valueOf27
  have f7 := E0.type27
  have k27 := E0.kind27
  have k25 := E0.kind25
  have e27 := E0.elem27
  have i25 := E0.implements25
  have n8 := E0.isNil27 ⟨w.heap.size, 0, none⟩ t ((w.alloc (.cells #[.pointer (some t)] 52)).alloc (.cells #[.pointer (some ⟨5, 52, none⟩), .pointer (some ⟨w.heap.size, 0, none⟩), .int .u64 150] 71)) (by simp)
  have hg2 : ((w.alloc (.cells #[.pointer (some t)] 52)).alloc (.cells #[.pointer (some ⟨5, 52, none⟩), .pointer (some ⟨w.heap.size, 0, none⟩), .int .u64 150] 71)).cell? ⟨0, 0, none⟩ = some (.iface 91 (.agg #[.pointer (some ⟨5, 47, none⟩)])) := by
    rw [World.cell?_alloc_lt _ _ ⟨0, 0, none⟩ (by simp), World.cell?_alloc_lt _ _ ⟨0, 0, none⟩ hlt]; exact hg
  have HB : Aside0 (Below w.heap.size w ((w.alloc (.cells #[.pointer (some t)] 52)).alloc (.cells #[.pointer (some ⟨5, 52, none⟩), .pointer (some ⟨w.heap.size, 0, none⟩), .int .u64 150] 71))) := .mk (((Below.refl _ _).alloc (Nat.le_refl _) _).alloc (by simp) _)
  have H33 := Aside0.mk h33
  clear h33
  go_enter Tryd.func16, Tryd.ntmps16
  go_wp2_with (go_at_call 33; fail)
  refine (H33.out _ ⟨w.heap.size, 0, none⟩ HB.out (Nat.le_refl _) (by simp)).mono ?_
  rintro ev w2 ⟨v, rfl, hR⟩
  go_wp2
  go_ret
  exact ⟨_, _, HB.out, rfl, hR⟩
set_option maxHeartbeats 4000000 in
theorem as16N (T : TypeId) (x : Value) (t : Addr) (w : World) (hg : HasErr w) (R : World → Value → World → Prop)
    (h33 : ∀ w' b, Below w.heap.size w w' → w.heap.size ≤ b.block → w'.cell? b = some (.pointer (some t)) → Calls Tryd.prog 33 #[.iface T x, .iface 55 (.pointer (some t)), tval 55 b, ttyp 22] w' fun ev w'' => ∃ v, ev = .returned v ∧ R w' v w'') :
    Calls Tryd.prog 16 #[.iface T x, .iface 55 (.pointer (some t))] w fun ev w'' => ∃ w' v, Below w.heap.size w w' ∧ ev = .returned v ∧ R w' v w'' := by
  unfold HasErr at hg
  have h6 := @run_callFunc_extern Tryd.prog 30 _ (fun args => ReflectliteValue.unpack (args.getD 0 (.tuple #[]))) Tryd.func30 (by kernel_rfl) (by kernel_rfl) (by kernel_rfl) (by kernel_rfl)
  have h7 := @run_callFunc_extern Tryd.prog 31 _ (ReflectliteValue.methodAny (ReflectliteValue.valueError "reflectlite.Value.Type" 0) (fun t _ _ _ => ReflectliteType.toType t)) Tryd.func31 (by kernel_rfl) (by kernel_rfl) (by kernel_rfl) (by kernel_rfl)
  have h8 := @run_callFunc_extern Tryd.prog 32 _ (ReflectliteValue.method (ReflectliteValue.valueError "reflectlite.Value.IsNil" 0) ReflectliteValue.isNil) Tryd.func32 (by kernel_rfl) (by kernel_rfl) (by kernel_rfl) (by kernel_rfl)
  have h27 := @run_callFunc_extern Tryd.prog 83 _ (ReflectliteType.abiMethod fun t => do pure (.int .u8 (← Rtype.kind t))) Tryd.func83 (by kernel_rfl) (by kernel_rfl) (by kernel_rfl) (by kernel_rfl)
  have h37 := @run_callFunc_extern Tryd.prog 99 _ (ReflectliteType.method ReflectliteType.elem) Tryd.func99 (by kernel_rfl) (by kernel_rfl) (by kernel_rfl) (by kernel_rfl)
  have h38 := @run_callFunc_extern Tryd.prog 100 _ (ReflectliteType.relation "Implements" ReflectliteType.implements_) Tryd.func100 (by kernel_rfl) (by kernel_rfl) (by kernel_rfl) (by kernel_rfl)
  have mK := E0.methodKind
  have mE := E0.methodElem
  have mI := E0.methodImplements
  have hlt : 0 < w.heap.size := cell_lt hg
  have he : ∀ W : World, (binOp .eql 47 (.iface T x) .nilIface).run Tryd.prog W = .ok (.bool false) W := fun W => run_eql_held_nil W 47 T _ (by kernel_rfl)
  have f6 := E2.valueOf
  have f7 := E2.type
  have k27 := E2.kind
  have k25 := E2.kindE
  have e27 := E2.elem
  have i25 := E2.implements
  have n8 := E2.isNil ⟨w.heap.size, 0, none⟩ t ((w.alloc (.cells #[.pointer (some t)] 55)).alloc (.cells #[.pointer (some ⟨5, 55, none⟩), .pointer (some ⟨w.heap.size, 0, none⟩), .int .u64 150] 71)) (by simp)
  have hg2 : ((w.alloc (.cells #[.pointer (some t)] 55)).alloc (.cells #[.pointer (some ⟨5, 55, none⟩), .pointer (some ⟨w.heap.size, 0, none⟩), .int .u64 150] 71)).cell? ⟨0, 0, none⟩ = some (.iface 91 (.agg #[.pointer (some ⟨5, 47, none⟩)])) := by
    rw [World.cell?_alloc_lt _ _ ⟨0, 0, none⟩ (by simp), World.cell?_alloc_lt _ _ ⟨0, 0, none⟩ hlt]; exact hg
  have HB : Aside0 (Below w.heap.size w ((w.alloc (.cells #[.pointer (some t)] 55)).alloc (.cells #[.pointer (some ⟨5, 55, none⟩), .pointer (some ⟨w.heap.size, 0, none⟩), .int .u64 150] 71))) := .mk (((Below.refl _ _).alloc (Nat.le_refl _) _).alloc (by simp) _)
  have H33 := Aside0.mk h33
  clear h33
  go_enter Tryd.func16, Tryd.ntmps16
  go_wp2_with (go_at_call 33; fail)
  refine (H33.out _ ⟨w.heap.size, 0, none⟩ HB.out (Nat.le_refl _) (by simp)).mono ?_
  rintro ev w2 ⟨v, rfl, hR⟩
  go_wp2
  go_ret
  exact ⟨_, _, HB.out, rfl, hR⟩
end Go.Proofs.YtamfknhgjkmdfaaDoor.X
