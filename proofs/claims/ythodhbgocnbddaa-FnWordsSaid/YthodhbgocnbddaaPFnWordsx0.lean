/- What the code that one law of the given program reaches computes, function by function, each with its proof over the given translation.
Conditions: none of our own. (Laid by a program of this session, wip/xp/xp.py; some contracts are typed by hand.) -/
import Derived.Test.YthodhbgocnbddaaProg
import Derived.Test.YthodhbgocnbddaaSq
import Derived.Below
import Derived.Deep.Draws
import Derived.Deep.AppendLies
import Derived.Maps.AppendAt
import Derived.OwnWalk
import Derived.Laws.BytesArg
import Derived.Laws.MakeOwn
import Derived.Laws.OwnMore
import Derived.Deep.OwnRows
import Derived.Tactics
import Derived.Lib.ConvBytes
import Derived.Laws.Slices
import Derived.WalkKit
import Derived.KernelRfl
import Derived.RowKit3
import Derived.Deep.LoopGhost
import Derived.Deep.QuietTactic
import Derived.BigQuiet
import Derived.WideLaws
import Derived.Deep.DeepCutAuto
import Derived.Deep.CutBlock
import Derived.Deep.RegionHeld3
import Derived.Laws.Rows
import Derived.Lib.AppendStr
import Derived.ArgAppend
import Derived.Laws.IdiomCopy
import Derived.OrdersHeld
import Derived.Laws.BitsLemmas
import Derived.RowKit
import Derived.Test.YthodhbgocnbddaaDig
import Derived.Test.YthodhbgocnbddaaShelf
import Derived.Test.YthodhbgocnbddaaVWords
import Derived.Test.YthodhbgocnbddaaVLast
import Derived.Test.YthodhbgocnbddaaVTab
import Derived.Test.YthodhbgocnbddaaVFour
import Derived.Test.YthodhbgocnbddaaVQPut
import Derived.Test.YthodhbgocnbddaaVApart
import Derived.Test.YthodhbgocnbddaaVArr
import Derived.Test.YthodhbgocnbddaaVZeros
import Derived.Test.YthodhbgocnbddaaVFoot
import Derived.Test.YthodhbgocnbddaaVKept
import Derived.Test.YthodhbgocnbddaaVShare
import Derived.Test.YthodhbgocnbddaaVN
import Derived.Test.YthodhbgocnbddaaVFootNe
import Derived.Test.YthodhbgocnbddaaVAt
import Derived.Test.YthodhbgocnbddaaVEqStruct
import Derived.Test.YthodhbgocnbddaaVRepsOne
import Derived.Test.YthodhbgocnbddaaVInv
import Derived.Test.YthodhbgocnbddaaVInvWords
import Derived.Test.YthodhbgocnbddaaVGuard
import Derived.Test.YthodhbgocnbddaaVNEv
import Derived.Test.YthodhbgocnbddaaVMore
namespace Go.Proofs.Ythodhbgocnbddaa.PFnWords
open Go.RowKit Go.Proofs.YthodhbgocnbddaaW.PrintWords Go.Proofs.YthodhbgocnbddaaW.PrintLast Go.Proofs.YthodhbgocnbddaaW.PrintMore
attribute [local go_sem] max2_int min2_int max_two min_two max_three min_three max_four min_four   -- for this text's walks alone
set_option linter.unusedVariables false
set_option linter.unusedSimpArgs false



def errW : Option Int → Value
 | none => .nilIface
 | some c => .iface 0 (.int .i64 c)
theorem errW_none : errW none = .nilIface := rfl
theorem errW_some (c : Int) : errW (some c) = .iface 0 (.int .i64 c) := rfl

theorem info3 : (Try.prog.info? 3).map (fun i => (i.zero, i.size, i.bytes)) = some (some (.int .i64 0), 1, 8) := by kernel_rfl
theorem info5 : (Try.prog.info? 5).map (fun i => (i.zero, i.size, i.bytes)) = some (some (.int .u8 0), 1, 1) := by kernel_rfl
theorem info63 : (Try.prog.info? 63).map (fun i => (i.zero, i.size, i.bytes)) = some (some (.int .u32 0), 1, 4) := by kernel_rfl
-- the values' own types

end Go.Proofs.Ythodhbgocnbddaa.PFnWords
