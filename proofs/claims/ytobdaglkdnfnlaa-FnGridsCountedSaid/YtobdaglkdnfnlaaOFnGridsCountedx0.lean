/- The functions that 'FnGridsCounted' runs, each as a function over numbers and lists, with the proof that the Go text comes to its answers. No condition. -/
import Derived.Test.YtobdaglkdnfnlaaProg
import Derived.Below
import Derived.Deep.Draws
import Derived.Deep.AppendLies
import Derived.Maps.AppendAt
import Derived.OwnWalk
import Derived.Laws.BytesArg
import Derived.Laws.MakeOwn
import Derived.Laws.OwnMore
import Derived.Deep.OwnRows
import Derived.Tactics
import Derived.Lib.ConvBytes
import Derived.Laws.Slices
import Derived.WalkKit
import Derived.KernelRfl
import Derived.RowKit3
import Derived.Deep.LoopGhost
import Derived.Deep.QuietTactic
import Derived.BigQuiet
import Derived.WideLaws
import Derived.Deep.DeepCutAuto
import Derived.Deep.CutBlock
import Derived.Deep.RegionHeld3
import Derived.Laws.Rows
import Derived.Lib.AppendStr
import Derived.ArgAppend
import Derived.Laws.IdiomCopy
import Derived.OrdersHeld
import Derived.Laws.BitsLemmas
import Derived.RowKit
import Derived.Test.YtobdaglkdnfnlaaStubs
import Derived.Test.YtobdaglkdnfnlaaFnG
import Derived.LoopTactic
import Derived.Test.YtobdaglkdnfnlaaWWords
import Derived.Test.YtobdaglkdnfnlaaWLast
import Derived.Test.YtobdaglkdnfnlaaWTab
import Derived.Test.YtobdaglkdnfnlaaWFour
import Derived.Test.YtobdaglkdnfnlaaWQPut
import Derived.Test.YtobdaglkdnfnlaaWApart
import Derived.Test.YtobdaglkdnfnlaaWArr
import Derived.Test.YtobdaglkdnfnlaaWZeros
import Derived.Test.YtobdaglkdnfnlaaWFoot
import Derived.Test.YtobdaglkdnfnlaaWKept
import Derived.Test.YtobdaglkdnfnlaaWShare
import Derived.Test.YtobdaglkdnfnlaaWN
import Derived.Test.YtobdaglkdnfnlaaWFootNe
import Derived.Test.YtobdaglkdnfnlaaWAt
import Derived.Test.YtobdaglkdnfnlaaWEqStruct
import Derived.Test.YtobdaglkdnfnlaaWRepsOne
import Derived.Test.YtobdaglkdnfnlaaWInv
import Derived.Test.YtobdaglkdnfnlaaWInvWords
import Derived.Test.YtobdaglkdnfnlaaWGuard
import Derived.Test.YtobdaglkdnfnlaaWNEv
import Derived.Test.YtobdaglkdnfnlaaWMore
namespace Go.Proofs.Ytobdaglkdnfnlaa.OFnGridsCounted
open Go.Proofs.Ytobdaglkdnfnlaa.Stub
open Go.RowKit Go.Proofs.YtobdaglkdnfnlaaW.PrintWords Go.Proofs.YtobdaglkdnfnlaaW.PrintLast Go.Proofs.YtobdaglkdnfnlaaW.PrintMore
attribute [local go_sem] max2_int min2_int max_two min_two max_three min_three max_four min_four   -- for this text's walks alone
set_option linter.unusedVariables false
set_option linter.unusedSimpArgs false



def errW : Option Int → Value
  | none => .nilIface
  | some c => .iface 0 (.int .i64 c)
theorem errW_none : errW none = .nilIface := rfl
theorem errW_some (c : Int) : errW (some c) = .iface 0 (.int .i64 c) := rfl

theorem info3 : (Try.prog.info? 3).map (fun i => (i.zero, i.size, i.bytes)) = some (some (.int .i64 0), 1, 8) := by kernel_rfl
-- the values' own types

end Go.Proofs.Ytobdaglkdnfnlaa.OFnGridsCounted
