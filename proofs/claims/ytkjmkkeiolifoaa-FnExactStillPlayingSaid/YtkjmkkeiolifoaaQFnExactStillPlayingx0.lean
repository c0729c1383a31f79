/- The functions that 'FnExactStillPlaying' runs, each as a function over numbers and lists, with the proof that the Go text comes to its answers (began as a printed text; the printed one fell in Lean). No condition. -/
import Derived.Test.YtkjmkkeiolifoaaProg
import Derived.Below
import Derived.Deep.Draws
import Derived.Deep.AppendLies
import Derived.Maps.AppendAt
import Derived.OwnWalk
import Derived.Laws.BytesArg
import Derived.Laws.MakeOwn
import Derived.Laws.OwnMore
import Derived.Deep.OwnRows
import Derived.Tactics
import Derived.Lib.ConvBytes
import Derived.Laws.Slices
import Derived.WalkKit
import Derived.KernelRfl
import Derived.RowKit3
import Derived.Deep.LoopGhost
import Derived.Deep.QuietTactic
import Derived.BigQuiet
import Derived.WideLaws
import Derived.Deep.DeepCutAuto
import Derived.Deep.CutBlock
import Derived.Deep.RegionHeld3
import Derived.Laws.Rows
import Derived.Lib.AppendStr
import Derived.ArgAppend
import Derived.Laws.IdiomCopy
import Derived.OrdersHeld
import Derived.Laws.BitsLemmas
import Derived.RowKit
import Derived.Test.YtkjmkkeiolifoaaWWords
import Derived.Test.YtkjmkkeiolifoaaWLast
import Derived.Test.YtkjmkkeiolifoaaWTab
import Derived.Test.YtkjmkkeiolifoaaWFour
import Derived.Test.YtkjmkkeiolifoaaWQPut
import Derived.Test.YtkjmkkeiolifoaaWApart
import Derived.Test.YtkjmkkeiolifoaaWArr
import Derived.Test.YtkjmkkeiolifoaaWZeros
import Derived.Test.YtkjmkkeiolifoaaWFoot
import Derived.Test.YtkjmkkeiolifoaaWKept
import Derived.Test.YtkjmkkeiolifoaaWShare
import Derived.Test.YtkjmkkeiolifoaaWN
import Derived.Test.YtkjmkkeiolifoaaWFootNe
import Derived.Test.YtkjmkkeiolifoaaWAt
import Derived.Test.YtkjmkkeiolifoaaWEqStruct
import Derived.Test.YtkjmkkeiolifoaaWRepsOne
import Derived.Test.YtkjmkkeiolifoaaWInv
import Derived.Test.YtkjmkkeiolifoaaWInvWords
import Derived.Test.YtkjmkkeiolifoaaWGuard
import Derived.Test.YtkjmkkeiolifoaaWNEv
import Derived.Test.YtkjmkkeiolifoaaWMore
namespace Go.Proofs.Ytkjmkkeiolifoaa.QFnExactStillPlaying
open Go.RowKit Go.Proofs.YtkjmkkeiolifoaaW.PrintWords Go.Proofs.YtkjmkkeiolifoaaW.PrintLast Go.Proofs.YtkjmkkeiolifoaaW.PrintMore
attribute [local go_sem] max2_int min2_int max_two min_two max_three min_three max_four min_four   -- for this text's walks alone
set_option linter.unusedVariables false
set_option linter.unusedSimpArgs false



def errW : Option Int → Value
  | none => .nilIface
  | some c => .iface 0 (.int .i64 c)
theorem errW_none : errW none = .nilIface := rfl
theorem errW_some (c : Int) : errW (some c) = .iface 0 (.int .i64 c) := rfl

theorem info3 : (Try.prog.info? 3).map (fun i => (i.zero, i.size, i.bytes)) = some (some (.int .i64 0), 1, 8) := by kernel_rfl
-- the values' own types

end Go.Proofs.Ytkjmkkeiolifoaa.QFnExactStillPlaying
