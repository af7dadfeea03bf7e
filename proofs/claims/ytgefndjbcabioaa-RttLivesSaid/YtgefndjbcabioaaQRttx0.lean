-- WRITTEN BY A PROGRAM OF THIS SESSION (out of Lean's own print of the translated functions)
import Derived.Test.YtgefndjbcabioaaProg
import Derived.Below
import Derived.Deep.Draws
import Derived.Deep.AppendLies
import Derived.Maps.AppendAt
import Derived.OwnWalk
import Derived.Laws.BytesArg
import Derived.Laws.MakeOwn
import Derived.Laws.OwnMore
import Derived.Deep.OwnRows
import Derived.Tactics
import Derived.Lib.ConvBytes
import Derived.Laws.Slices
import Derived.WalkKit
import Derived.KernelRfl
import Derived.RowKit3
import Derived.Deep.LoopGhost
import Derived.Deep.QuietTactic
import Derived.BigQuiet
import Derived.WideLaws
import Derived.Deep.DeepCutAuto
import Derived.Deep.CutBlock
import Derived.Deep.RegionHeld3
import Derived.Laws.Rows
import Derived.Lib.AppendStr
import Derived.ArgAppend
import Derived.Laws.IdiomCopy
import Derived.OrdersHeld
import Derived.Laws.BitsLemmas
import Derived.RowKit
import Derived.Test.YtgefndjbcabioaaWWords
import Derived.Test.YtgefndjbcabioaaWLast
import Derived.Test.YtgefndjbcabioaaWTab
import Derived.Test.YtgefndjbcabioaaWFour
import Derived.Test.YtgefndjbcabioaaWQPut
import Derived.Test.YtgefndjbcabioaaWApart
import Derived.Test.YtgefndjbcabioaaWArr
import Derived.Test.YtgefndjbcabioaaWZeros
import Derived.Test.YtgefndjbcabioaaWFoot
import Derived.Test.YtgefndjbcabioaaWKept
import Derived.Test.YtgefndjbcabioaaWShare
import Derived.Test.YtgefndjbcabioaaWN
import Derived.Test.YtgefndjbcabioaaWFootNe
import Derived.Test.YtgefndjbcabioaaWAt
import Derived.Test.YtgefndjbcabioaaWEqStruct
import Derived.Test.YtgefndjbcabioaaWRepsOne
import Derived.Test.YtgefndjbcabioaaWInv
import Derived.Test.YtgefndjbcabioaaWInvWords
import Derived.Test.YtgefndjbcabioaaWGuard
import Derived.Test.YtgefndjbcabioaaWNEv
import Derived.Test.YtgefndjbcabioaaWMore
namespace Go.Proofs.Ytgefndjbcabioaa.QRtt
open Go.RowKit Go.Proofs.YtgefndjbcabioaaW.PrintWords Go.Proofs.YtgefndjbcabioaaW.PrintLast Go.Proofs.YtgefndjbcabioaaW.PrintMore
attribute [local go_sem] max2_int min2_int max_two min_two max_three min_three max_four min_four   -- for this text's walks alone
set_option linter.unusedVariables false
set_option linter.unusedSimpArgs false



def errW : Option Int → Value
  | none => .nilIface
  | some c => .iface 0 (.int .i64 c)
theorem errW_none : errW none = .nilIface := rfl
theorem errW_some (c : Int) : errW (some c) = .iface 0 (.int .i64 c) := rfl

-- the values' own types

end Go.Proofs.Ytgefndjbcabioaa.QRtt
