/- The functions that 'FnExactLevelsOf' runs, each as a function over numbers and lists, with the proof that the Go text comes to its answers. No condition. -/
import Derived.Test.YtgoiohlmifgncaaProg
import Derived.Below
import Derived.Deep.Draws
import Derived.Deep.AppendLies
import Derived.Maps.AppendAt
import Derived.OwnWalk
import Derived.Laws.BytesArg
import Derived.Laws.MakeOwn
import Derived.Laws.OwnMore
import Derived.Deep.OwnRows
import Derived.Tactics
import Derived.Lib.ConvBytes
import Derived.Laws.Slices
import Derived.WalkKit
import Derived.KernelRfl
import Derived.RowKit3
import Derived.Deep.LoopGhost
import Derived.Deep.QuietTactic
import Derived.BigQuiet
import Derived.WideLaws
import Derived.Deep.DeepCutAuto
import Derived.Deep.CutBlock
import Derived.Deep.RegionHeld3
import Derived.Laws.Rows
import Derived.Lib.AppendStr
import Derived.ArgAppend
import Derived.Laws.IdiomCopy
import Derived.OrdersHeld
import Derived.Laws.BitsLemmas
import Derived.RowKit
import Derived.Test.YtgoiohlmifgncaaStubs
import Derived.Test.YtgoiohlmifgncaaFnG
import Derived.LoopTactic
import Derived.Test.YtgoiohlmifgncaaWWords
import Derived.Test.YtgoiohlmifgncaaWLast
import Derived.Test.YtgoiohlmifgncaaWTab
import Derived.Test.YtgoiohlmifgncaaWFour
import Derived.Test.YtgoiohlmifgncaaWQPut
import Derived.Test.YtgoiohlmifgncaaWApart
import Derived.Test.YtgoiohlmifgncaaWArr
import Derived.Test.YtgoiohlmifgncaaWZeros
import Derived.Test.YtgoiohlmifgncaaWFoot
import Derived.Test.YtgoiohlmifgncaaWKept
import Derived.Test.YtgoiohlmifgncaaWShare
import Derived.Test.YtgoiohlmifgncaaWN
import Derived.Test.YtgoiohlmifgncaaWFootNe
import Derived.Test.YtgoiohlmifgncaaWAt
import Derived.Test.YtgoiohlmifgncaaWEqStruct
import Derived.Test.YtgoiohlmifgncaaWRepsOne
import Derived.Test.YtgoiohlmifgncaaWInv
import Derived.Test.YtgoiohlmifgncaaWInvWords
import Derived.Test.YtgoiohlmifgncaaWGuard
import Derived.Test.YtgoiohlmifgncaaWNEv
import Derived.Test.YtgoiohlmifgncaaWMore
namespace Go.Proofs.Ytgoiohlmifgncaa.OFnExactLevelsOf
open Go.Proofs.Ytgoiohlmifgncaa.Stub
open Go.RowKit Go.Proofs.YtgoiohlmifgncaaW.PrintWords Go.Proofs.YtgoiohlmifgncaaW.PrintLast Go.Proofs.YtgoiohlmifgncaaW.PrintMore
attribute [local go_sem] max2_int min2_int max_two min_two max_three min_three max_four min_four   -- for this text's walks alone
set_option linter.unusedVariables false
set_option linter.unusedSimpArgs false



def errW : Option Int → Value
  | none => .nilIface
  | some c => .iface 0 (.int .i64 c)
theorem errW_none : errW none = .nilIface := rfl
theorem errW_some (c : Int) : errW (some c) = .iface 0 (.int .i64 c) := rfl

theorem info3 : (Try.prog.info? 3).map (fun i => (i.zero, i.size, i.bytes)) = some (some (.int .i64 0), 1, 8) := by kernel_rfl
-- the values' own types

end Go.Proofs.Ytgoiohlmifgncaa.OFnExactLevelsOf
