-- Written by xprint.py, a program of this session that drives the kit's print beside contracts proved by hand. Lean checks it.
import Derived.Test.YtamfknhgjkmdfaaDoorProg
import Derived.Below
import Derived.Deep.Draws
import Derived.Deep.AppendLies
import Derived.Maps.AppendAt
import Derived.OwnWalk
import Derived.Laws.BytesArg
import Derived.Laws.MakeOwn
import Derived.Laws.OwnMore
import Derived.Deep.OwnRows
import Derived.Tactics
import Derived.Lib.ConvBytes
import Derived.Laws.Slices
import Derived.WalkKit
import Derived.KernelRfl
import Derived.RowKit3
import Derived.Deep.LoopGhost
import Derived.Deep.QuietTactic
import Derived.BigQuiet
import Derived.WideLaws
import Derived.Deep.DeepCutAuto
import Derived.Deep.CutBlock
import Derived.Deep.RegionHeld3
import Derived.Laws.Rows
import Derived.Lib.AppendStr
import Derived.ArgAppend
import Derived.Laws.IdiomCopy
import Derived.OrdersHeld
import Derived.Laws.BitsLemmas
import Derived.RowKit
import Derived.Test.YtamfknhgjkmdfaaDoorWWords
import Derived.Test.YtamfknhgjkmdfaaDoorWLast
import Derived.Test.YtamfknhgjkmdfaaDoorWTab
import Derived.Test.YtamfknhgjkmdfaaDoorWFour
import Derived.Test.YtamfknhgjkmdfaaDoorWQPut
import Derived.Test.YtamfknhgjkmdfaaDoorWApart
import Derived.Test.YtamfknhgjkmdfaaDoorWArr
import Derived.Test.YtamfknhgjkmdfaaDoorWZeros
import Derived.Test.YtamfknhgjkmdfaaDoorWFoot
import Derived.Test.YtamfknhgjkmdfaaDoorWKept
import Derived.Test.YtamfknhgjkmdfaaDoorWShare
import Derived.Test.YtamfknhgjkmdfaaDoorWN
import Derived.Test.YtamfknhgjkmdfaaDoorWFootNe
import Derived.Test.YtamfknhgjkmdfaaDoorWAt
import Derived.Test.YtamfknhgjkmdfaaDoorWEqStruct
import Derived.Test.YtamfknhgjkmdfaaDoorWRepsOne
import Derived.Test.YtamfknhgjkmdfaaDoorWInv
import Derived.Test.YtamfknhgjkmdfaaDoorWInvWords
import Derived.Test.YtamfknhgjkmdfaaDoorWGuard
import Derived.Test.YtamfknhgjkmdfaaDoorWNEv
import Derived.Test.YtamfknhgjkmdfaaDoorWMore
namespace Go.Proofs.YtamfknhgjkmdfaaDoor.X
open Go.RowKit Go.Proofs.YtamfknhgjkmdfaaDoorW.PrintWords Go.Proofs.YtamfknhgjkmdfaaDoorW.PrintLast Go.Proofs.YtamfknhgjkmdfaaDoorW.PrintMore
attribute [local go_sem] max2_int min2_int max_two min_two max_three min_three max_four min_four   -- for this text's walks alone
set_option linter.unusedVariables false
set_option linter.unusedSimpArgs false



def errW : Option Int → Value
  | none => .nilIface
  | some c => .iface 0 (.int .i64 c)
theorem errW_none : errW none = .nilIface := rfl
theorem errW_some (c : Int) : errW (some c) = .iface 0 (.int .i64 c) := rfl

-- the values' own types

end Go.Proofs.YtamfknhgjkmdfaaDoor.X
