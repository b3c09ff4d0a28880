import Derived.Test.YtjkikkgpenhbgaaLEB
import Derived.Test.YtjkikkgpenhbgaaProg
import Derived.Below
import Derived.Deep.Draws
import Derived.Deep.AppendLies
import Derived.Maps.AppendAt
import Derived.OwnWalk
import Derived.Laws.BytesArg
import Derived.Laws.MakeOwn
import Derived.Laws.OwnMore
import Derived.Deep.OwnRows
import Derived.Tactics
import Derived.Lib.ConvBytes
import Derived.Laws.Slices
import Derived.WalkKit
import Derived.KernelRfl
import Derived.RowKit3
import Derived.Deep.LoopGhost
import Derived.Deep.QuietTactic
import Derived.BigQuiet
import Derived.WideLaws
import Derived.Deep.DeepCutAuto
import Derived.Deep.CutBlock
import Derived.Deep.RegionHeld3
import Derived.Laws.Rows
import Derived.Lib.AppendStr
import Derived.ArgAppend
import Derived.Laws.IdiomCopy
import Derived.OrdersHeld
import Derived.Laws.BitsLemmas
import Derived.RowKit
import Derived.StillTailTactics
import Derived.Outline
import Derived.Maps.Own
import Derived.Maps.OwnSet
import Derived.Maps.OwnOps
import Derived.Test.YtjkikkgpenhbgaaLComm
import Derived.RangeFuncNested
import Derived.RangeFuncBound
import Derived.RangeFuncCalls
import Derived.RangeFuncLeaves
import Derived.RangeFuncBox
import Derived.Shelf.Abstract
import Derived.OwnWalkIn
import Derived.TacticsInMore
import Derived.LoopNIn
import Derived.LoopIn
import Derived.Conc.LoneCalls
import Derived.Test.YtjkikkgpenhbgaaLWWords
import Derived.Test.YtjkikkgpenhbgaaLWLast
import Derived.Test.YtjkikkgpenhbgaaLWTab
import Derived.Test.YtjkikkgpenhbgaaLWApart
import Derived.Test.YtjkikkgpenhbgaaLWArr
import Derived.Test.YtjkikkgpenhbgaaLWFoot
import Derived.Test.YtjkikkgpenhbgaaLWKept
import Derived.Test.YtjkikkgpenhbgaaLWShare
import Derived.Test.YtjkikkgpenhbgaaLWN
import Derived.Laws.StructEq
import Derived.Test.YtjkikkgpenhbgaaLWRepsOne
import Derived.Test.YtjkikkgpenhbgaaLWInv
import Derived.Test.YtjkikkgpenhbgaaLWGuard
import Derived.Test.YtjkikkgpenhbgaaLWMore
namespace Go.Proofs.Ytjkikkgpenhbgaa.Ba
open Go.RowKit Go.Proofs.YtjkikkgpenhbgaaW.PrintWords Go.Proofs.YtjkikkgpenhbgaaW.PrintLast Go.Proofs.YtjkikkgpenhbgaaW.PrintMore
attribute [local go_sem] max2_int min2_int max_two min_two max_three min_three max_four min_four
set_option linter.unusedVariables false
set_option linter.unusedSimpArgs false
def errW:Option Int→Value
 | none=>.nilIface
 | some c=>.iface 0 (.int .i64 c)
set_option maxRecDepth 100000 in
theorem errW_none:errW none = .nilIface:=rfl
set_option maxRecDepth 100000 in
theorem errW_some (c:Int):errW (some c) = .iface 0 (.int .i64 c):=rfl
set_option maxRecDepth 100000 in
theorem info3:(Tru.prog.info? 3).map (fun i=>(i.zero,i.size,i.bytes))=some (some (.int .i64 0),1,8):=by kernel_rfl
end Go.Proofs.Ytjkikkgpenhbgaa.Ba
