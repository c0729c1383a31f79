/- The functions that 'FnRuinAddsUp' runs, each as a function over numbers and lists, with the proof that the Go text comes to its answers. No condition. -/
import Derived.Test.YtfembmnagkdnhaaProg
import Derived.Below
import Derived.Deep.Draws
import Derived.Deep.AppendLies
import Derived.Maps.AppendAt
import Derived.OwnWalk
import Derived.Laws.BytesArg
import Derived.Laws.MakeOwn
import Derived.Laws.OwnMore
import Derived.Deep.OwnRows
import Derived.Tactics
import Derived.Lib.ConvBytes
import Derived.Laws.Slices
import Derived.WalkKit
import Derived.KernelRfl
import Derived.RowKit3
import Derived.Deep.LoopGhost
import Derived.Deep.QuietTactic
import Derived.BigQuiet
import Derived.WideLaws
import Derived.Deep.DeepCutAuto
import Derived.Deep.CutBlock
import Derived.Deep.RegionHeld3
import Derived.Laws.Rows
import Derived.Lib.AppendStr
import Derived.ArgAppend
import Derived.Laws.IdiomCopy
import Derived.OrdersHeld
import Derived.Laws.BitsLemmas
import Derived.RowKit
import Derived.Test.YtfembmnagkdnhaaWWords
import Derived.Test.YtfembmnagkdnhaaWLast
import Derived.Test.YtfembmnagkdnhaaWTab
import Derived.Test.YtfembmnagkdnhaaWFour
import Derived.Test.YtfembmnagkdnhaaWQPut
import Derived.Test.YtfembmnagkdnhaaWApart
import Derived.Test.YtfembmnagkdnhaaWArr
import Derived.Test.YtfembmnagkdnhaaWZeros
import Derived.Test.YtfembmnagkdnhaaWFoot
import Derived.Test.YtfembmnagkdnhaaWKept
import Derived.Test.YtfembmnagkdnhaaWShare
import Derived.Test.YtfembmnagkdnhaaWN
import Derived.Test.YtfembmnagkdnhaaWFootNe
import Derived.Test.YtfembmnagkdnhaaWAt
import Derived.Test.YtfembmnagkdnhaaWEqStruct
import Derived.Test.YtfembmnagkdnhaaWRepsOne
import Derived.Test.YtfembmnagkdnhaaWInv
import Derived.Test.YtfembmnagkdnhaaWInvWords
import Derived.Test.YtfembmnagkdnhaaWGuard
import Derived.Test.YtfembmnagkdnhaaWNEv
import Derived.Test.YtfembmnagkdnhaaWMore
namespace Go.Proofs.Ytfembmnagkdnhaa.OFnRuinAddsUp
open Go.RowKit Go.Proofs.YtfembmnagkdnhaaW.PrintWords Go.Proofs.YtfembmnagkdnhaaW.PrintLast Go.Proofs.YtfembmnagkdnhaaW.PrintMore
attribute [local go_sem] max2_int min2_int max_two min_two max_three min_three max_four min_four   -- for this text's walks alone
set_option linter.unusedVariables false
set_option linter.unusedSimpArgs false



def errW : Option Int → Value
  | none => .nilIface
  | some c => .iface 0 (.int .i64 c)
theorem errW_none : errW none = .nilIface := rfl
theorem errW_some (c : Int) : errW (some c) = .iface 0 (.int .i64 c) := rfl

theorem info3 : (Try.prog.info? 3).map (fun i => (i.zero, i.size, i.bytes)) = some (some (.int .i64 0), 1, 8) := by kernel_rfl
-- the values' own types

end Go.Proofs.Ytfembmnagkdnhaa.OFnRuinAddsUp
