/- What the code that one law of the given program reaches computes, function by function, each with its proof over the given translation.
Conditions: none of our own. (Laid by a program of this session, wip/xp/xp.py; some contracts are typed by hand.) -/
import Derived.Test.YtepjagfbdagkmaaProg
import Derived.Below
import Derived.Deep.Draws
import Derived.Deep.AppendLies
import Derived.Maps.AppendAt
import Derived.OwnWalk
import Derived.Laws.BytesArg
import Derived.Laws.MakeOwn
import Derived.Laws.OwnMore
import Derived.Deep.OwnRows
import Derived.Tactics
import Derived.Lib.ConvBytes
import Derived.Laws.Slices
import Derived.WalkKit
import Derived.KernelRfl
import Derived.RowKit3
import Derived.Deep.LoopGhost
import Derived.Deep.QuietTactic
import Derived.BigQuiet
import Derived.WideLaws
import Derived.Deep.DeepCutAuto
import Derived.Deep.CutBlock
import Derived.Deep.RegionHeld3
import Derived.Laws.Rows
import Derived.Lib.AppendStr
import Derived.ArgAppend
import Derived.Laws.IdiomCopy
import Derived.OrdersHeld
import Derived.Laws.BitsLemmas
import Derived.RowKit
import Derived.Test.YtepjagfbdagkmaaShelf
import Derived.Test.YtepjagfbdagkmaaWWords
import Derived.Test.YtepjagfbdagkmaaWLast
import Derived.Test.YtepjagfbdagkmaaWTab
import Derived.Test.YtepjagfbdagkmaaWFour
import Derived.Test.YtepjagfbdagkmaaWQPut
import Derived.Test.YtepjagfbdagkmaaWApart
import Derived.Test.YtepjagfbdagkmaaWArr
import Derived.Test.YtepjagfbdagkmaaWZeros
import Derived.Test.YtepjagfbdagkmaaWFoot
import Derived.Test.YtepjagfbdagkmaaWKept
import Derived.Test.YtepjagfbdagkmaaWShare
import Derived.Test.YtepjagfbdagkmaaWN
import Derived.Test.YtepjagfbdagkmaaWFootNe
import Derived.Test.YtepjagfbdagkmaaWAt
import Derived.Test.YtepjagfbdagkmaaWEqStruct
import Derived.Test.YtepjagfbdagkmaaWRepsOne
import Derived.Test.YtepjagfbdagkmaaWInv
import Derived.Test.YtepjagfbdagkmaaWInvWords
import Derived.Test.YtepjagfbdagkmaaWGuard
import Derived.Test.YtepjagfbdagkmaaWNEv
import Derived.Test.YtepjagfbdagkmaaWMore
namespace Go.Proofs.Ytepjagfbdagkmaa.PFnExactUnhex
open Go.RowKit Go.Proofs.YtepjagfbdagkmaaW.PrintWords Go.Proofs.YtepjagfbdagkmaaW.PrintLast Go.Proofs.YtepjagfbdagkmaaW.PrintMore
attribute [local go_sem] max2_int min2_int max_two min_two max_three min_three max_four min_four   -- for this text's walks alone
set_option linter.unusedVariables false
set_option linter.unusedSimpArgs false



def errW : Option Int → Value
  | none => .nilIface
  | some c => .iface 0 (.int .i64 c)
theorem errW_none : errW none = .nilIface := rfl
theorem errW_some (c : Int) : errW (some c) = .iface 0 (.int .i64 c) := rfl

theorem info5 : (Try.prog.info? 5).map (fun i => (i.zero, i.size, i.bytes)) = some (some (.int .u8 0), 1, 1) := by kernel_rfl
-- the values' own types

end Go.Proofs.Ytepjagfbdagkmaa.PFnExactUnhex
