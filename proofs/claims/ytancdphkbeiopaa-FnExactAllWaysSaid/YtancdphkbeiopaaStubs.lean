/- Contracts of functions that the printer does not take, in the printer's own form. No condition. -/
import Derived.Test.YtancdphkbeiopaaProg

import Derived.Test.YtancdphkbeiopaaWWords
import Derived.Test.YtancdphkbeiopaaWLast
import Derived.Test.YtancdphkbeiopaaWMore
import Derived.WalkKit
import Derived.KernelRfl
import Derived.Below
namespace Go.Proofs.Ytancdphkbeiopaa.Stub
open Go.RowKit Go.Proofs.YtancdphkbeiopaaW.PrintWords Go.Proofs.YtancdphkbeiopaaW.PrintLast 
set_option linter.unusedVariables false
set_option linter.unusedSimpArgs false
/-- Whether a number is in a range. -/
theorem inB (a0 a1 a2 : Int) (w : World) : Calls Try.prog 19 #[.int .i64 a0, .int .i64 a1, .int .i64 a2] w fun e w' => e = .returned (.bool (decide (a1 ≤ a0) && decide (a0 ≤ a2))) ∧ w' = w := by
  by_cases h1 : a1 ≤ a0
  · have h1' : decide (a1 ≤ a0) = true := decide_eq_true h1
    rw [h1']
    go_enter Try.func19, Try.ntmps19
    go_wp2
    go_ret
    exact ⟨rfl, rfl⟩
  · have h1' : decide (a1 ≤ a0) = false := decide_eq_false h1
    rw [h1']
    go_enter Try.func19, Try.ntmps19
    go_wp2
    go_ret
    exact ⟨rfl, rfl⟩
/-- Whether a number is outside a range. -/
def outB (lo hi x : Int) : Bool := !(decide (lo ≤ x) && decide (x ≤ hi))
theorem outB_eq (lo hi x : Int) : outB lo hi x = (!decide (lo ≤ x) || !decide (x ≤ hi)) := by unfold outB; rw [Bool.not_and]
theorem ret_bool {a b : Bool} (h : a = b) : Ending.returned (.bool a) = .returned (.bool b) := by rw [h]


end Go.Proofs.Ytancdphkbeiopaa.Stub
