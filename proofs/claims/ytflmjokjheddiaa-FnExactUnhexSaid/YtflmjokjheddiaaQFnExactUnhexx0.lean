import Derived.Test.YtflmjokjheddiaaProg
import Derived.Below
import Derived.Deep.Draws
import Derived.Deep.AppendLies
import Derived.Maps.AppendAt
import Derived.OwnWalk
import Derived.Laws.BytesArg
import Derived.Laws.MakeOwn
import Derived.Laws.OwnMore
import Derived.Deep.OwnRows
import Derived.Tactics
import Derived.Lib.ConvBytes
import Derived.Laws.Slices
import Derived.WalkKit
import Derived.KernelRfl
import Derived.RowKit3
import Derived.Deep.LoopGhost
import Derived.Deep.QuietTactic
import Derived.BigQuiet
import Derived.WideLaws
import Derived.Deep.DeepCutAuto
import Derived.Deep.CutBlock
import Derived.Deep.RegionHeld3
import Derived.Laws.Rows
import Derived.Lib.AppendStr
import Derived.ArgAppend
import Derived.Laws.IdiomCopy
import Derived.OrdersHeld
import Derived.Laws.BitsLemmas
import Derived.RowKit
import Derived.Test.YtflmjokjheddiaaShelf
import Derived.Test.YtflmjokjheddiaaWWords
import Derived.Test.YtflmjokjheddiaaWLast
import Derived.Test.YtflmjokjheddiaaWTab
import Derived.Test.YtflmjokjheddiaaWFour
import Derived.Test.YtflmjokjheddiaaWQPut
import Derived.Test.YtflmjokjheddiaaWApart
import Derived.Test.YtflmjokjheddiaaWArr
import Derived.Test.YtflmjokjheddiaaWZeros
import Derived.Test.YtflmjokjheddiaaWFoot
import Derived.Test.YtflmjokjheddiaaWKept
import Derived.Test.YtflmjokjheddiaaWShare
import Derived.Test.YtflmjokjheddiaaWN
import Derived.Test.YtflmjokjheddiaaWFootNe
import Derived.Test.YtflmjokjheddiaaWAt
import Derived.Test.YtflmjokjheddiaaWEqStruct
import Derived.Test.YtflmjokjheddiaaWRepsOne
import Derived.Test.YtflmjokjheddiaaWInv
import Derived.Test.YtflmjokjheddiaaWInvWords
import Derived.Test.YtflmjokjheddiaaWGuard
import Derived.Test.YtflmjokjheddiaaWNEv
import Derived.Test.YtflmjokjheddiaaWMore
namespace Go.Proofs.Ytflmjokjheddiaa.PFnExactUnhex
open Go.RowKit Go.Proofs.YtflmjokjheddiaaW.PrintWords Go.Proofs.YtflmjokjheddiaaW.PrintLast Go.Proofs.YtflmjokjheddiaaW.PrintMore
attribute [local go_sem] max2_int min2_int max_two min_two max_three min_three max_four min_four   -- for this text's walks alone
set_option linter.unusedVariables false
set_option linter.unusedSimpArgs false



def errW : Option Int → Value
  | none => .nilIface
  | some c => .iface 0 (.int .i64 c)
theorem errW_none : errW none = .nilIface := rfl
theorem errW_some (c : Int) : errW (some c) = .iface 0 (.int .i64 c) := rfl

theorem info5 : (Try.prog.info? 5).map (fun i => (i.zero, i.size, i.bytes)) = some (some (.int .u8 0), 1, 1) := by kernel_rfl
-- the values' own types

end Go.Proofs.Ytflmjokjheddiaa.PFnExactUnhex
