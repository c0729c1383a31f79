/- The functions that 'FnExactPairOf' runs, each as a function over numbers and lists, with the proof that the Go text comes to its answers. No condition. -/
import Derived.Test.YtgdecglakknmpaaGreatDoorProg
import Derived.Below
import Derived.Deep.Draws
import Derived.Deep.AppendLies
import Derived.Maps.AppendAt
import Derived.OwnWalk
import Derived.Laws.BytesArg
import Derived.Laws.MakeOwn
import Derived.Laws.OwnMore
import Derived.Deep.OwnRows
import Derived.Tactics
import Derived.Lib.ConvBytes
import Derived.Laws.Slices
import Derived.WalkKit
import Derived.KernelRfl
import Derived.RowKit3
import Derived.Deep.LoopGhost
import Derived.Deep.QuietTactic
import Derived.BigQuiet
import Derived.WideLaws
import Derived.Deep.DeepCutAuto
import Derived.Deep.CutBlock
import Derived.Deep.RegionHeld3
import Derived.Laws.Rows
import Derived.Lib.AppendStr
import Derived.ArgAppend
import Derived.Laws.IdiomCopy
import Derived.OrdersHeld
import Derived.Laws.BitsLemmas
import Derived.RowKit
import Derived.Test.YtgdecglakknmpaaGreatDoorStubs
import Derived.Test.YtgdecglakknmpaaGreatDoorWWords
import Derived.Test.YtgdecglakknmpaaGreatDoorWLast
import Derived.Test.YtgdecglakknmpaaGreatDoorWTab
import Derived.Test.YtgdecglakknmpaaGreatDoorWFour
import Derived.Test.YtgdecglakknmpaaGreatDoorWQPut
import Derived.Test.YtgdecglakknmpaaGreatDoorWApart
import Derived.Test.YtgdecglakknmpaaGreatDoorWArr
import Derived.Test.YtgdecglakknmpaaGreatDoorWZeros
import Derived.Test.YtgdecglakknmpaaGreatDoorWFoot
import Derived.Test.YtgdecglakknmpaaGreatDoorWKept
import Derived.Test.YtgdecglakknmpaaGreatDoorWShare
import Derived.Test.YtgdecglakknmpaaGreatDoorWN
import Derived.Test.YtgdecglakknmpaaGreatDoorWFootNe
import Derived.Test.YtgdecglakknmpaaGreatDoorWAt
import Derived.Test.YtgdecglakknmpaaGreatDoorWEqStruct
import Derived.Test.YtgdecglakknmpaaGreatDoorWRepsOne
import Derived.Test.YtgdecglakknmpaaGreatDoorWInv
import Derived.Test.YtgdecglakknmpaaGreatDoorWInvWords
import Derived.Test.YtgdecglakknmpaaGreatDoorWGuard
import Derived.Test.YtgdecglakknmpaaGreatDoorWNEv
import Derived.Test.YtgdecglakknmpaaGreatDoorWMore
namespace Go.Proofs.YtgdecglakknmpaaGreatDoor.OFnExactPairOf
open Go.Proofs.YtgdecglakknmpaaGreatDoor.Stub
open Go.RowKit Go.Proofs.YtgdecglakknmpaaGreatDoorW.PrintWords Go.Proofs.YtgdecglakknmpaaGreatDoorW.PrintLast Go.Proofs.YtgdecglakknmpaaGreatDoorW.PrintMore
attribute [local go_sem] max2_int min2_int max_two min_two max_three min_three max_four min_four   -- for this text's walks alone
set_option linter.unusedVariables false
set_option linter.unusedSimpArgs false



def errW : Option Int → Value
  | none => .nilIface
  | some c => .iface 0 (.int .i64 c)
theorem errW_none : errW none = .nilIface := rfl
theorem errW_some (c : Int) : errW (some c) = .iface 0 (.int .i64 c) := rfl

theorem info3 : (Tryz.prog.info? 3).map (fun i => (i.zero, i.size, i.bytes)) = some (some (.int .i64 0), 1, 8) := by kernel_rfl
-- the values' own types

end Go.Proofs.YtgdecglakknmpaaGreatDoor.OFnExactPairOf
