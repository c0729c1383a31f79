/- Mixed paths without a level step upon the floor: of the arguments that are right each count is reckoned on both sides; of all others both say no. No condition. -/
import Derived.Test.YtpccmlaaebaobaaOFnExactCountNoFloorx3
namespace Go.Proofs.Ytpccmlaaebaobaa.Pure
open Go.RowKit Go.Proofs.Ytpccmlaaebaobaa.Stub Go.Proofs.Ytpccmlaaebaobaa.Gen Go.Proofs.Ytpccmlaaebaobaa.OFnExactCountNoFloor Go.Proofs.YtpccmlaaebaobaaW.PrintWords Go.Proofs.YtpccmlaaebaobaaW.PrintLast
set_option linter.unusedVariables false
set_option linter.unusedSimpArgs false
theorem w64 {n : Int} (h0 : -9223372036854775808 ≤ n) (h1 : n ≤ 9223372036854775807) : wrap64 n = n := by unfold wrap64; omega
theorem wf_bd {n : Int} (h : (Lit.int .i64 n).wf = true) : -9223372036854775808 ≤ n ∧ n ≤ 9223372036854775807 := by
  unfold Lit.wf at h
  rw [Bool.and_eq_true] at h
  exact ⟨of_decide_eq_true h.1, of_decide_eq_true h.2⟩

theorem in_eq (a b c : Int) : impl_in.f a b c = some (decide (b ≤ a ∧ a ≤ c)) := by
  unfold impl_in.f
  by_cases h1 : b ≤ a <;> by_cases h2 : a ≤ c <;> simp [h1, h2]
theorem l1In_eq (a b c : Int) : spec_l1In.f a b c = some (decide (b ≤ a ∧ a ≤ c)) := by
  unfold spec_l1In.f
  by_cases h1 : b ≤ a <;> by_cases h2 : a ≤ c <;> simp [h1, h2]

set_option maxRecDepth 100000 in
theorem tab : (List.range 13).all (fun a => laws_FnExactCountNoFloor.f 1500 (a : Int) == some true) = true := by decide +kernel
theorem FnExactCountNoFloor : laws_FnExactCountNoFloor.Pure := by
  intro a wa
  refine ⟨1500, ?_⟩
  by_cases h : 0 ≤ a ∧ a ≤ 12
  · have t := tab
    rw [List.all_eq_true] at t
    have t := t a.toNat (by rw [List.mem_range]; omega)
    rw [show (a.toNat : Int) = a by omega] at t
    exact eq_of_beq t
  · have hs : spec_CountNoFloor.f 1500 a = some (0, false) := by
      unfold spec_CountNoFloor.f spec_kiSteps.f
      rw [l1In_eq, Option.bind_some, if_neg (by simpa using h), Option.bind_some, if_neg (by decide)]
    have hm : impl_CountNoFloor.f 1500 a = some (0, false) := by
      unfold impl_CountNoFloor.f
      rw [if_neg h]
    unfold laws_FnExactCountNoFloor.f
    rw [hs, hm]; rfl
end Go.Proofs.Ytpccmlaaebaobaa.Pure
