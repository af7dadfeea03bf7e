-- WRITTEN BY A PROGRAM OF THIS SESSION (out of Lean's own print of the translated functions)
import Derived.Test.YtdnkclccjgcelaaProg
import Derived.Below
import Derived.Deep.Draws
import Derived.Deep.AppendLies
import Derived.Maps.AppendAt
import Derived.OwnWalk
import Derived.Laws.BytesArg
import Derived.Laws.MakeOwn
import Derived.Laws.OwnMore
import Derived.Deep.OwnRows
import Derived.Tactics
import Derived.Lib.ConvBytes
import Derived.Laws.Slices
import Derived.WalkKit
import Derived.KernelRfl
import Derived.RowKit3
import Derived.Deep.LoopGhost
import Derived.Deep.QuietTactic
import Derived.BigQuiet
import Derived.WideLaws
import Derived.Deep.DeepCutAuto
import Derived.Deep.CutBlock
import Derived.Deep.RegionHeld3
import Derived.Laws.Rows
import Derived.Lib.AppendStr
import Derived.ArgAppend
import Derived.Laws.IdiomCopy
import Derived.OrdersHeld
import Derived.Laws.BitsLemmas
import Derived.RowKit
import Derived.Test.YtdnkclccjgcelaaWWords
import Derived.Test.YtdnkclccjgcelaaWLast
import Derived.Test.YtdnkclccjgcelaaWTab
import Derived.Test.YtdnkclccjgcelaaWFour
import Derived.Test.YtdnkclccjgcelaaWQPut
import Derived.Test.YtdnkclccjgcelaaWApart
import Derived.Test.YtdnkclccjgcelaaWArr
import Derived.Test.YtdnkclccjgcelaaWZeros
import Derived.Test.YtdnkclccjgcelaaWFoot
import Derived.Test.YtdnkclccjgcelaaWKept
import Derived.Test.YtdnkclccjgcelaaWShare
import Derived.Test.YtdnkclccjgcelaaWN
import Derived.Test.YtdnkclccjgcelaaWFootNe
import Derived.Test.YtdnkclccjgcelaaWAt
import Derived.Test.YtdnkclccjgcelaaWEqStruct
import Derived.Test.YtdnkclccjgcelaaWRepsOne
import Derived.Test.YtdnkclccjgcelaaWInv
import Derived.Test.YtdnkclccjgcelaaWInvWords
import Derived.Test.YtdnkclccjgcelaaWGuard
import Derived.Test.YtdnkclccjgcelaaWNEv
import Derived.Test.YtdnkclccjgcelaaWMore
import Derived.Test.YtdnkclccjgcelaaBE
import Derived.Test.YtdnkclccjgcelaaBW
import Derived.Test.YtdnkclccjgcelaaCut3
import Derived.Test.YtdnkclccjgcelaaShelf
namespace Go.Proofs.Ytdnkclccjgcelaa.QBO
open Go.RowKit Go.Proofs.YtdnkclccjgcelaaW.PrintWords Go.Proofs.YtdnkclccjgcelaaW.PrintLast Go.Proofs.YtdnkclccjgcelaaW.PrintMore
attribute [local go_sem] max2_int min2_int max_two min_two max_three min_three max_four min_four   -- for this text's walks alone
set_option linter.unusedVariables false
set_option linter.unusedSimpArgs false



def errW : Option Int → Value
  | none => .nilIface
  | some c => .iface 0 (.int .i64 c)
theorem errW_none : errW none = .nilIface := rfl
theorem errW_some (c : Int) : errW (some c) = .iface 0 (.int .i64 c) := rfl

theorem info5 : (Try.prog.info? 5).map (fun i => (i.zero, i.size, i.bytes)) = some (some (.int .u8 0), 1, 1) := by kernel_rfl
-- the values' own types

end Go.Proofs.Ytdnkclccjgcelaa.QBO
