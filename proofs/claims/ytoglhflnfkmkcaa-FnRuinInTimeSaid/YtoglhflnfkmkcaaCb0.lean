/- The ways between walls, counted: a plain function. No condition. -/
import Derived.Test.YtoglhflnfkmkcaaProg
import Derived.Test.YtoglhflnfkmkcaaWWords
import Derived.Test.YtoglhflnfkmkcaaWLast
import Derived.Test.YtoglhflnfkmkcaaWMore
import Derived.WalkKit
import Derived.KernelRfl
import Derived.Below
namespace Go.Proofs.Ytoglhflnfkmkcaa.Stub
open Go.RowKit Go.Proofs.YtoglhflnfkmkcaaW.PrintWords Go.Proofs.YtoglhflnfkmkcaaW.PrintLast 
set_option linter.unusedVariables false
set_option linter.unusedSimpArgs false
/-- In how many ways a path with so many U and D is gone on between walls. -/
def betw (ups downs low high : Int) : Nat → Int → Int → Option Int
  | 0, _, _ => none
  | k + 1, u, d => if ups < u then some 0 else if downs < d then some 0 else if low ≤ wrap64 (u - d) ∧ wrap64 (u - d) ≤ high then
      (if u = ups ∧ d = downs then some 1 else (betw ups downs low high k (wrap64 (u + 1)) d).bind fun x => (betw ups downs low high k u (wrap64 (d + 1))).bind fun y => some (wrap64 (x + y)))
      else some 0
theorem betw_mono (ups downs low high : Int) : ∀ k u d, LeO (betw ups downs low high k u d) (betw ups downs low high (k + 1) u d)
  | 0 => fun _ _ r h => by simp [betw] at h
  | k + 1 => fun u d => by
    unfold betw
    refine LeO.ite (LeO.refl _) (LeO.ite (LeO.refl _) (LeO.ite (LeO.ite (LeO.refl _) ?_) (LeO.refl _)))
    exact LeO.bind (betw_mono ups downs low high k _ _) fun _ => LeO.bind (betw_mono ups downs low high k _ _) fun _ => LeO.refl _
def impl_CountBetween.f (k : Nat) (a0 a1 a2 a3 : Int) : Option (Int × Bool) :=
  if 0 ≤ a0 ∧ a0 ≤ 40 ∧ 0 ≤ a1 ∧ a1 ≤ 40 ∧ a0 + a1 ≤ 40 ∧ -40 ≤ a2 ∧ a2 ≤ 0 ∧ 0 ≤ a3 ∧ a3 ≤ 40 then (betw a0 a1 a2 a3 k 0 0).bind fun n => some (n, true) else none
theorem impl_CountBetween.mono (a0 a1 a2 a3 : Int) (k : Nat) : LeO (impl_CountBetween.f k a0 a1 a2 a3) (impl_CountBetween.f (k + 1) a0 a1 a2 a3) := by
  unfold impl_CountBetween.f
  exact LeO.ite (LeO.bind (betw_mono _ _ _ _ k _ _) fun _ => LeO.refl _) (LeO.refl _)
end Go.Proofs.Ytoglhflnfkmkcaa.Stub
