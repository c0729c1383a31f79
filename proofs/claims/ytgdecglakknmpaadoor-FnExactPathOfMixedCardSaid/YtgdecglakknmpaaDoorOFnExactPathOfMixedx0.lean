/- The functions that 'FnExactPathOfMixed' runs, each as a function over numbers and lists, with the proof that the Go text comes to its answers. No condition. -/
import Derived.Test.YtgdecglakknmpaaDoorProg
import Derived.Below
import Derived.Deep.Draws
import Derived.Deep.AppendLies
import Derived.Maps.AppendAt
import Derived.OwnWalk
import Derived.Laws.BytesArg
import Derived.Laws.MakeOwn
import Derived.Laws.OwnMore
import Derived.Deep.OwnRows
import Derived.Tactics
import Derived.Lib.ConvBytes
import Derived.Laws.Slices
import Derived.WalkKit
import Derived.KernelRfl
import Derived.RowKit3
import Derived.Deep.LoopGhost
import Derived.Deep.QuietTactic
import Derived.BigQuiet
import Derived.WideLaws
import Derived.Deep.DeepCutAuto
import Derived.Deep.CutBlock
import Derived.Deep.RegionHeld3
import Derived.Laws.Rows
import Derived.Lib.AppendStr
import Derived.ArgAppend
import Derived.Laws.IdiomCopy
import Derived.OrdersHeld
import Derived.Laws.BitsLemmas
import Derived.RowKit
import Derived.Test.YtgdecglakknmpaaDoorStubs
import Derived.Test.YtgdecglakknmpaaDoorWWords
import Derived.Test.YtgdecglakknmpaaDoorWLast
import Derived.Test.YtgdecglakknmpaaDoorWTab
import Derived.Test.YtgdecglakknmpaaDoorWFour
import Derived.Test.YtgdecglakknmpaaDoorWQPut
import Derived.Test.YtgdecglakknmpaaDoorWApart
import Derived.Test.YtgdecglakknmpaaDoorWArr
import Derived.Test.YtgdecglakknmpaaDoorWZeros
import Derived.Test.YtgdecglakknmpaaDoorWFoot
import Derived.Test.YtgdecglakknmpaaDoorWKept
import Derived.Test.YtgdecglakknmpaaDoorWShare
import Derived.Test.YtgdecglakknmpaaDoorWN
import Derived.Test.YtgdecglakknmpaaDoorWFootNe
import Derived.Test.YtgdecglakknmpaaDoorWAt
import Derived.Test.YtgdecglakknmpaaDoorWEqStruct
import Derived.Test.YtgdecglakknmpaaDoorWRepsOne
import Derived.Test.YtgdecglakknmpaaDoorWInv
import Derived.Test.YtgdecglakknmpaaDoorWInvWords
import Derived.Test.YtgdecglakknmpaaDoorWGuard
import Derived.Test.YtgdecglakknmpaaDoorWNEv
import Derived.Test.YtgdecglakknmpaaDoorWMore
namespace Go.Proofs.YtgdecglakknmpaaDoor.OFnExactPathOfMixed
open Go.Proofs.YtgdecglakknmpaaDoor.Stub
open Go.RowKit Go.Proofs.YtgdecglakknmpaaDoorW.PrintWords Go.Proofs.YtgdecglakknmpaaDoorW.PrintLast Go.Proofs.YtgdecglakknmpaaDoorW.PrintMore
attribute [local go_sem] max2_int min2_int max_two min_two max_three min_three max_four min_four   -- for this text's walks alone
set_option linter.unusedVariables false
set_option linter.unusedSimpArgs false



def errW : Option Int → Value
  | none => .nilIface
  | some c => .iface 0 (.int .i64 c)
theorem errW_none : errW none = .nilIface := rfl
theorem errW_some (c : Int) : errW (some c) = .iface 0 (.int .i64 c) := rfl

-- the values' own types

end Go.Proofs.YtgdecglakknmpaaDoor.OFnExactPathOfMixed
