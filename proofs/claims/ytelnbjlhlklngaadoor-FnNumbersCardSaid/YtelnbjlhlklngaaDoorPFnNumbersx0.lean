/- What the code that one law of the given program reaches computes, function by function, each with its proof over the given translation.
Conditions: none of our own. (Laid by a program of this session, wip/xp/xp.py; some contracts are typed by hand.) -/
import Derived.Test.YtelnbjlhlklngaaDoorProg
import Derived.Below
import Derived.Deep.Draws
import Derived.Deep.AppendLies
import Derived.Maps.AppendAt
import Derived.OwnWalk
import Derived.Laws.BytesArg
import Derived.Laws.MakeOwn
import Derived.Laws.OwnMore
import Derived.Deep.OwnRows
import Derived.Tactics
import Derived.Lib.ConvBytes
import Derived.Laws.Slices
import Derived.WalkKit
import Derived.KernelRfl
import Derived.RowKit3
import Derived.Deep.LoopGhost
import Derived.Deep.QuietTactic
import Derived.BigQuiet
import Derived.WideLaws
import Derived.Deep.DeepCutAuto
import Derived.Deep.CutBlock
import Derived.Deep.RegionHeld3
import Derived.Laws.Rows
import Derived.Lib.AppendStr
import Derived.ArgAppend
import Derived.Laws.IdiomCopy
import Derived.OrdersHeld
import Derived.Laws.BitsLemmas
import Derived.RowKit
import Derived.Test.YtelnbjlhlklngaaDoorTabN
import Derived.Test.YtelnbjlhlklngaaDoorWWords
import Derived.Test.YtelnbjlhlklngaaDoorWLast
import Derived.Test.YtelnbjlhlklngaaDoorWTab
import Derived.Test.YtelnbjlhlklngaaDoorWFour
import Derived.Test.YtelnbjlhlklngaaDoorWQPut
import Derived.Test.YtelnbjlhlklngaaDoorWApart
import Derived.Test.YtelnbjlhlklngaaDoorWArr
import Derived.Test.YtelnbjlhlklngaaDoorWZeros
import Derived.Test.YtelnbjlhlklngaaDoorWFoot
import Derived.Test.YtelnbjlhlklngaaDoorWKept
import Derived.Test.YtelnbjlhlklngaaDoorWShare
import Derived.Test.YtelnbjlhlklngaaDoorWN
import Derived.Test.YtelnbjlhlklngaaDoorWFootNe
import Derived.Test.YtelnbjlhlklngaaDoorWAt
import Derived.Test.YtelnbjlhlklngaaDoorWEqStruct
import Derived.Test.YtelnbjlhlklngaaDoorWRepsOne
import Derived.Test.YtelnbjlhlklngaaDoorWInv
import Derived.Test.YtelnbjlhlklngaaDoorWInvWords
import Derived.Test.YtelnbjlhlklngaaDoorWGuard
import Derived.Test.YtelnbjlhlklngaaDoorWNEv
import Derived.Test.YtelnbjlhlklngaaDoorWMore
namespace Go.Proofs.YtelnbjlhlklngaaDoor.PFnNumbers
open Go.RowKit Go.Proofs.YtelnbjlhlklngaaDoorW.PrintWords Go.Proofs.YtelnbjlhlklngaaDoorW.PrintLast Go.Proofs.YtelnbjlhlklngaaDoorW.PrintMore
attribute [local go_sem] max2_int min2_int max_two min_two max_three min_three max_four min_four   -- for this text's walks alone
set_option linter.unusedVariables false
set_option linter.unusedSimpArgs false



def errW : Option Int → Value
  | none => .nilIface
  | some c => .iface 74 (.int .i64 c)
theorem errW_none : errW none = .nilIface := rfl
theorem errW_some (c : Int) : errW (some c) = .iface 74 (.int .i64 c) := rfl

theorem info3 : (Tryd.prog.info? 3).map (fun i => (i.zero, i.size, i.bytes)) = some (some (.int .i64 0), 1, 8) := by kernel_rfl
theorem info5 : (Tryd.prog.info? 5).map (fun i => (i.zero, i.size, i.bytes)) = some (some (.int .u8 0), 1, 1) := by kernel_rfl
-- the values' own types

end Go.Proofs.YtelnbjlhlklngaaDoor.PFnNumbers
