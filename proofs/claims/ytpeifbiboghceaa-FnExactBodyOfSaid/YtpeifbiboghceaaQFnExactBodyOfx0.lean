import Derived.Test.YtpeifbiboghceaaProg
import Derived.Below
import Derived.Deep.Draws
import Derived.Deep.AppendLies
import Derived.Maps.AppendAt
import Derived.OwnWalk
import Derived.Laws.BytesArg
import Derived.Laws.MakeOwn
import Derived.Laws.OwnMore
import Derived.Deep.OwnRows
import Derived.Tactics
import Derived.Lib.ConvBytes
import Derived.Laws.Slices
import Derived.WalkKit
import Derived.KernelRfl
import Derived.RowKit3
import Derived.Deep.LoopGhost
import Derived.Deep.QuietTactic
import Derived.BigQuiet
import Derived.WideLaws
import Derived.Deep.DeepCutAuto
import Derived.Deep.CutBlock
import Derived.Deep.RegionHeld3
import Derived.Laws.Rows
import Derived.Lib.AppendStr
import Derived.ArgAppend
import Derived.Laws.IdiomCopy
import Derived.OrdersHeld
import Derived.Laws.BitsLemmas
import Derived.RowKit
import Derived.Test.YtpeifbiboghceaaGlob
import Derived.Test.YtpeifbiboghceaaShelf
import Derived.Test.YtpeifbiboghceaaWWords
import Derived.Test.YtpeifbiboghceaaWLast
import Derived.Test.YtpeifbiboghceaaWTab
import Derived.Test.YtpeifbiboghceaaWFour
import Derived.Test.YtpeifbiboghceaaWQPut
import Derived.Test.YtpeifbiboghceaaWApart
import Derived.Test.YtpeifbiboghceaaWArr
import Derived.Test.YtpeifbiboghceaaWZeros
import Derived.Test.YtpeifbiboghceaaWFoot
import Derived.Test.YtpeifbiboghceaaWKept
import Derived.Test.YtpeifbiboghceaaWShare
import Derived.Test.YtpeifbiboghceaaWN
import Derived.Test.YtpeifbiboghceaaWFootNe
import Derived.Test.YtpeifbiboghceaaWAt
import Derived.Test.YtpeifbiboghceaaWEqStruct
import Derived.Test.YtpeifbiboghceaaWRepsOne
import Derived.Test.YtpeifbiboghceaaWInv
import Derived.Test.YtpeifbiboghceaaWInvWords
import Derived.Test.YtpeifbiboghceaaWGuard
import Derived.Test.YtpeifbiboghceaaWNEv
import Derived.Test.YtpeifbiboghceaaWMore
namespace Go.Proofs.Ytpeifbiboghceaa.PFnExactBodyOf
open Go.RowKit Go.Proofs.YtpeifbiboghceaaW.PrintWords Go.Proofs.YtpeifbiboghceaaW.PrintLast Go.Proofs.YtpeifbiboghceaaW.PrintMore
attribute [local go_sem] max2_int min2_int max_two min_two max_three min_three max_four min_four   -- for this text's walks alone
set_option linter.unusedVariables false
set_option linter.unusedSimpArgs false



def errW : Option Int → Value
  | none => .nilIface
  | some c => .iface 0 (.int .i64 c)
theorem errW_none : errW none = .nilIface := rfl
theorem errW_some (c : Int) : errW (some c) = .iface 0 (.int .i64 c) := rfl

-- the values' own types

end Go.Proofs.Ytpeifbiboghceaa.PFnExactBodyOf
