/- Ways over a grid that stay below its line: for the arguments that are right each count is reckoned on both sides; of all others both say no. No condition. -/
import Derived.Test.YtobdaglkdnfnlaaOFnExactCountSchroderx5
import Derived.Test.YtobdaglkdnfnlaaStubs
namespace Go.Proofs.Ytobdaglkdnfnlaa.Pure
open Go.RowKit Go.Proofs.Ytobdaglkdnfnlaa.Stub Go.Proofs.Ytobdaglkdnfnlaa.OFnExactCountSchroder Go.Proofs.YtobdaglkdnfnlaaW.PrintWords Go.Proofs.YtobdaglkdnfnlaaW.PrintLast
set_option linter.unusedVariables false
set_option linter.unusedSimpArgs false
theorem w64 {n : Int} (h0 : -9223372036854775808 ≤ n) (h1 : n ≤ 9223372036854775807) : wrap64 n = n := by unfold wrap64; omega
theorem wf_bd {n : Int} (h : (Lit.int .i64 n).wf = true) : -9223372036854775808 ≤ n ∧ n ≤ 9223372036854775807 := by
  unfold Lit.wf at h
  rw [Bool.and_eq_true] at h
  exact ⟨of_decide_eq_true h.1, of_decide_eq_true h.2⟩
theorem wN (n : Nat) (h : n ≤ 1000000000000) : wrap64 ((n : Int) + 1) = ((n + 1 : Nat) : Int) := by rw [w64 (by omega) (by omega)]; omega

theorem in_eq (a b c : Int) : impl_in.f a b c = some (decide (b ≤ a ∧ a ≤ c)) := by
  unfold impl_in.f
  by_cases h1 : b ≤ a <;> by_cases h2 : a ≤ c <;> simp [h1, h2]
theorem l1In_eq (a b c : Int) : spec_l1In.f a b c = some (decide (b ≤ a ∧ a ≤ c)) := by
  unfold spec_l1In.f
  by_cases h1 : b ≤ a <;> by_cases h2 : a ≤ c <;> simp [h1, h2]

set_option maxRecDepth 100000 in
theorem tab : (List.range 13).all (fun n => laws_FnExactCountSchroder.f 1500 (n : Int) == some true) = true := by decide +kernel
theorem FnExactCountSchroder : laws_FnExactCountSchroder.Pure := by
  intro n wn
  refine ⟨1500, ?_⟩
  by_cases h : 0 ≤ n ∧ n ≤ 12
  · have t := tab
    rw [List.all_eq_true] at t
    have t := t n.toNat (by rw [List.mem_range]; omega)
    rw [show (n.toNat : Int) = n by omega] at t
    exact eq_of_beq t
  · have hs : spec_CountSchroder.f 1500 n = some (0, false) := by
      unfold spec_CountSchroder.f
      rw [l1In_eq, Option.bind_some, decide_eq_false h]; rfl
    have hm : impl_CountSchroder.f 1500 n = some (0, false) := by
      unfold impl_CountSchroder.f
      rw [in_eq, Option.bind_some, decide_eq_false h]; rfl
    unfold laws_FnExactCountSchroder.f
    rw [hs, hm]; rfl
end Go.Proofs.Ytobdaglkdnfnlaa.Pure
