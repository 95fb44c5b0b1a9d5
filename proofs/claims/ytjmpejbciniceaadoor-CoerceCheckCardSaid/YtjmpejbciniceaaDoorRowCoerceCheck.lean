/- The tied card of the law CoerceCheck: for every input the call returns true, and its arguments read as they did; out of the walk proved in WkCoerceCheck. The three listed variables (the library's tables) are tied to the program's text. -/
import Derived.Test.YtjmpejbciniceaaDoorRows
import Derived.Test.YtjmpejbciniceaaDoorTie
import Derived.Test.YtjmpejbciniceaaDoorCards
import Derived.WalkKit
import Derived.ProofKit
import Derived.OpenShut
import Derived.ShutString
import Derived.ChangeOld
import Derived.Below
import Derived.SizedLaws
import Derived.ChangeSame
import Derived.ChangeVars
import Derived.JoinedOf
import Derived.RowKit
import Derived.RowKitTokens
import Derived.LaidLaws
import Derived.LaidHandle
import Derived.LaidMore
import Derived.Stop.Joined
import Derived.Stop.LaidErr
import Derived.Deep.DeepHandedRow
import Derived.Lib.LaidTab
import Derived.SevenTiedAt
import Derived.Test.YtjmpejbciniceaaDoorKCoerceCheck18
namespace Go.Proofs.YtjmpejbciniceaaDoor.coerceCheck
open Go.ChangeShapes Go.WideShapes Go.ChangeAt Go.RowKit
open Go.ChangeMaps (open_string shut_string)
set_option linter.unusedVariables false
theorem own : ownKnob Tryd.prog.godebug = none := by kernel_rfl
theorem laidOut : laidOutB Tryd.prog = true := by kernel_rfl
theorem gPow : Tryd.prog.globalNamed "internal/strconv.uint64pow10" = some 2 := by kernel_rfl
theorem gPowType : (Tryd.prog.globals[2]?).map (·.type) = some 184 := by kernel_rfl
theorem cells184 : Tryd.prog.cellsOf 184 = 20 := by kernel_rfl
theorem cells148 : Tryd.prog.cellsOf 148 = 1 := by kernel_rfl
theorem env_of_laid {W : World} (h : laidMetH Tryd.prog Rows.coerceCheckRow.laid W) : X.HasTab W := by
  have h' : laidMet Tryd.prog [("math/bits.deBruijn32tab", Rows.laid_math_bits_deBruijn32tab), ("math/bits.deBruijn64tab", Rows.laid_math_bits_deBruijn64tab), ("internal/strconv.uint64pow10", Rows.laid_internal_strconv_uint64pow10)] W := h
  have ht : laidMet Tryd.prog [("internal/strconv.uint64pow10", Lib.tabData .u64 Lib.pow10Tab)] W := h'.tail.tail
  unfold X.HasTab
  exact Lib.tabIs_of_head gPow gPowType Tryd.underlying184 Tryd.underlying148 cells148 cells184 ht
theorem door_met (os : Os) (args : Array Value) : laidMetH Tryd.prog Rows.coerceCheckRow.laid ((World.doorLaid Tryd.prog 31 os).forCall (fun _ _ => 0) ⟨#[], args, []⟩).memory :=
  (show laidMet Tryd.prog Rows.coerceCheckRow.laid _ from laidMet_of_run' 8 (by kernel_rfl) (by kernel_rfl))
theorem row_witness (os : Os) (H : Type) (enc : TypeId × Value → H) : ∃ (w : World) (tape : Tape) (i : Input), w.os = os ∧ (w.forCall tape i).Shaped Tryd.prog ∧ i.vars = [] ∧ Input.okWide Tryd.prog (w.forCall tape i) .any w.heap.size 6 i ∧
    ((OpenSpec.ofChange Rows.coerceCheckSpec).preRow enc Tryd.prog Tryd.f6 Rows.coerceCheckRow.domain false Rows.coerceCheckRow.laid) (w.forCall tape i).memory i.args ∧ ({} : Assume).holds Tryd.prog (lone (Frame.enter Tryd.prog 6 i.args .normal) [] (w.forCall tape i)) :=
  have hok : Input.okWideB Tryd.prog ((World.doorLaid Tryd.prog 31 os).forCall (fun _ _ => 0) ⟨#[], #[.agg #[.int .i8 0, .int .i8 0, .slice none 0 0, .int .i8 0, .slice none 0 0, .int .i64 0, .bool false, .slice none 0 0]], []⟩) 6 ⟨#[], #[.agg #[.int .i8 0, .int .i8 0, .slice none 0 0, .int .i8 0, .slice none 0 0, .int .i64 0, .bool false, .slice none 0 0]], []⟩ = true := by kernel_rfl
  ⟨World.doorLaid Tryd.prog 31 os, fun _ _ => 0, ⟨#[], #[.agg #[.int .i8 0, .int .i8 0, .slice none 0 0, .int .i8 0, .slice none 0 0, .int .i64 0, .bool false, .slice none 0 0]], []⟩, rfl, World.shaped_of_RefB (by kernel_rfl) (by kernel_rfl), (Input.okWide_of_okWideB (base := 0) hok).1, (Input.okWide_of_okWideB hok).2, OpenSpec.preRow_of_B rfl 8 (by kernel_rfl) (by kernel_rfl) (door_met os _), by
    simp only [Assume.holds]
    exact ⟨by simp, by simp, fun _ => Modest.zero, by simp, by simp⟩⟩
set_option maxRecDepth 100000 in
theorem lifted (os : Os) (started : os.Started) (H : Type) (enc : TypeId × Value → H) (F : Stop.Interp) :
    ReturnsInHanded {} Tryd.checked os 6 .any ((OpenSpec.ofChange Rows.coerceCheckSpec).preRow enc Tryd.prog Tryd.f6 Rows.coerceCheckRow.domain false Rows.coerceCheckRow.laid) (((OpenSpec.ofChange Rows.coerceCheckSpec).at F).post enc Tryd.prog Tryd.f6 false true false false) := by
  refine returnsInHanded_of_row (C := Tryd.checked) (s := OpenSpec.ofChange Rows.coerceCheckSpec) own started (by kernel_rfl) Tryd.func6 (row_witness os H enc) ?_
  intro W base args ds gs before hval0 hW _ _ hsz0 hL hsh _
  have hsz : (DataW.weightsEach Tryd.prog (Tryd.f6.params.toList ++ Rows.coerceCheckSpec.plain.varTypes Tryd.prog) (ds ++ gs)).all (· ≤ reachBytes) = true := hsz0
  have hval : ∀ (j : Nat) t v, Tryd.f6.params[j]? = some t → args[j]? = some v → Value.okWide Tryd.prog W .any base t v := hval0
  have hW' := hW
  obtain ⟨p, q, hA0, hV, rfl, hfz, hnd⟩ := hW
  have hA : DataW.TrodAll enc Tryd.prog W 0 (fun _ => true) true Tryd.f6.params.toList args.toList ds p := hA0
  rw [Tryd.params6] at hA hval hsz
  have hg := env_of_laid hL
  obtain ⟨v0, vs0, d0, ds0, p0, q0, hargs, rfl, rfl, h0, r0⟩ := trodAll_cons hA
  obtain ⟨rfl, rfl, rfl⟩ := trodAll_nil r0
  obtain rfl : args = #[v0] := by cases args; simp_all
  obtain ⟨rfl, rfl⟩ := trodVars_none hV
  have kk0 := h0
  have lt0 : ∀ x ∈ p0, x.block < W.heap.size := by obtain ⟨m, hm⟩ := kk0; exact DataW.trod_lt m _ _ _ hm
  obtain ⟨x0, hx0, hl0⟩ := X.argCL h0
  clear hA0 hval0 hsz0 hsz
  refine (X.coercecheck_walk x0 v0 W hx0 hl0 hg).mono fun e W' ⟨he, bel⟩ => ?_
  subst he
  exact ⟨_, rfl, _, _, _, [], _, [], hW', trodAll_mk1 (shut_bool Tryd.underlying4 _), (trodAll_cons_mk (Below.trod laidOut (by kernel_rfl) (of_decide_eq_true (by kernel_rfl)) kk0 bel lt0) trodAll_mk0), rfl, bel.frame _, fun h => by cases h⟩
theorem over : Rows.coerceCheckRow.holds Tryd.pinned (OpenSpec.ofChange Rows.coerceCheckSpec) :=
  OpenClaim.holds_of_cond 6 Tryd.f6 rfl rfl rfl rfl rfl rfl rfl ⟨rfl, rfl, rfl, rfl, rfl⟩ rfl rfl rfl rfl rfl (by kernel_rfl) Tryd.func6 (by kernel_rfl)
    (of_decide_eq_true (by kernel_rfl)) (by unfold Func.isWrapper; first | (rw [if_pos (by decide +kernel)]; kernel_rfl) | (rw [if_neg (by decide +kernel)]; exact ⟨rfl, rfl⟩))
    (fun os started H enc _ F => by rw [OpenClaim.pre_eq_preRow]; exact lifted os started H enc F)
theorem card : Rows.CoerceCheckCardSaid :=
  Claim7.holds_tied_plain_at .later [] [.data, .data, .data] true (true, "35753e72bd279098be6f1688a682f34fd0ea19be697bbfa27639027b8e1dd77b") true
    over (fun _ h => by cases h) (by kernel_rfl) (fun _ h => by cases h) coerceCheck_row_tie rfl ⟨rfl, rfl⟩ (by kernel_rfl) rfl
    (fun f fn hf hfn => by
      obtain rfl : f = 6 := Option.some.inj ((show Tryd.prog.funcNamed "lychgate/lychgatelaw15.CoerceCheck" = some 6 by kernel_rfl).symm.trans hf) |>.symm
      obtain rfl : fn = Tryd.f6 := (Option.some.inj (Tryd.func6.symm.trans hfn)).symm
      exact ⟨by kernel_rfl, fun j t ht => by
        rw [Tryd.params6] at ht
        have h3 : t = 54 := by
          match j, ht with
          | 0, ht => simp at ht; simp [ht.symm]
          | (j + 1), ht => simp at ht
        rcases h3 with rfl
        · exact (show Tryd.prog.wantsStandIn 54 = false by kernel_rfl)⟩)
    (by kernel_rfl)
end Go.Proofs.YtjmpejbciniceaaDoor.coerceCheck
namespace Go.Proofs.YtjmpejbciniceaaDoor
theorem coerceCheck_card_holds : Rows.CoerceCheckCardSaid := coerceCheck.card
#print axioms coerceCheck_card_holds
end Go.Proofs.YtjmpejbciniceaaDoor
