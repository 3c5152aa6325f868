/- Printed by this session's own program (wip/tools/xprint.py) with the help of the kit's print: functions as Lean functions, each with its contract over the translation. -/
import Derived.Test.YtbegglmcbcepeaaProg
import Derived.Below
import Derived.Deep.Draws
import Derived.Deep.AppendLies
import Derived.Maps.AppendAt
import Derived.OwnWalk
import Derived.Laws.BytesArg
import Derived.Laws.MakeOwn
import Derived.Laws.OwnMore
import Derived.Deep.OwnRows
import Derived.Tactics
import Derived.Lib.ConvBytes
import Derived.Laws.Slices
import Derived.WalkKit
import Derived.KernelRfl
import Derived.RowKit3
import Derived.Deep.LoopGhost
import Derived.Deep.QuietTactic
import Derived.BigQuiet
import Derived.WideLaws
import Derived.Deep.DeepCutAuto
import Derived.Deep.CutBlock
import Derived.Deep.RegionHeld3
import Derived.Laws.Rows
import Derived.Lib.AppendStr
import Derived.ArgAppend
import Derived.Laws.IdiomCopy
import Derived.OrdersHeld
import Derived.Laws.BitsLemmas
import Derived.RowKit
import Derived.Test.YtbegglmcbcepeaaWWords
import Derived.Test.YtbegglmcbcepeaaWLast
import Derived.Test.YtbegglmcbcepeaaWTab
import Derived.Test.YtbegglmcbcepeaaWFour
import Derived.Test.YtbegglmcbcepeaaWQPut
import Derived.Test.YtbegglmcbcepeaaWApart
import Derived.Test.YtbegglmcbcepeaaWArr
import Derived.Test.YtbegglmcbcepeaaWZeros
import Derived.Test.YtbegglmcbcepeaaWFoot
import Derived.Test.YtbegglmcbcepeaaWKept
import Derived.Test.YtbegglmcbcepeaaWShare
import Derived.Test.YtbegglmcbcepeaaWN
import Derived.Test.YtbegglmcbcepeaaWFootNe
import Derived.Test.YtbegglmcbcepeaaWAt
import Derived.Test.YtbegglmcbcepeaaWEqStruct
import Derived.Test.YtbegglmcbcepeaaWRepsOne
import Derived.Test.YtbegglmcbcepeaaWInv
import Derived.Test.YtbegglmcbcepeaaWInvWords
import Derived.Test.YtbegglmcbcepeaaWGuard
import Derived.Test.YtbegglmcbcepeaaWNEv
import Derived.Test.YtbegglmcbcepeaaWMore
namespace Go.Proofs.Ytbegglmcbcepeaa.All
open Go.RowKit Go.Proofs.YtbegglmcbcepeaaW.PrintWords Go.Proofs.YtbegglmcbcepeaaW.PrintLast Go.Proofs.YtbegglmcbcepeaaW.PrintMore
attribute [local go_sem] max2_int min2_int max_two min_two max_three min_three max_four min_four   -- for this text's walks alone
set_option linter.unusedVariables false
set_option linter.unusedSimpArgs false



def errW : Option Int → Value
  | none => .nilIface
  | some c => .iface 0 (.int .i64 c)
theorem errW_none : errW none = .nilIface := rfl
theorem errW_some (c : Int) : errW (some c) = .iface 0 (.int .i64 c) := rfl

theorem info2 : (Try.prog.info? 2).map (fun i => (i.zero, i.size, i.bytes)) = some (some (.int .i64 0), 1, 8) := by kernel_rfl
-- the values' own types

end Go.Proofs.Ytbegglmcbcepeaa.All
