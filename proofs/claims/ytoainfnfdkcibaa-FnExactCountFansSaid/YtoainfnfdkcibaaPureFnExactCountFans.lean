/- Fans: of the arguments that are right each product is reckoned on both sides; of all others both say no. No condition. -/
import Derived.Test.YtoainfnfdkcibaaQFnExactCountFansx4
namespace Go.Proofs.Ytoainfnfdkcibaa.Pure
open Go.RowKit Go.Proofs.Ytoainfnfdkcibaa.QFnExactCountFans Go.Proofs.YtoainfnfdkcibaaW.PrintWords Go.Proofs.YtoainfnfdkcibaaW.PrintLast
set_option linter.unusedVariables false
set_option linter.unusedSimpArgs false
theorem w64 {n : Int} (h0 : -9223372036854775808 ≤ n) (h1 : n ≤ 9223372036854775807) : wrap64 n = n := by unfold wrap64; omega
theorem wf_bd {n : Int} (h : (Lit.int .i64 n).wf = true) : -9223372036854775808 ≤ n ∧ n ≤ 9223372036854775807 := by
  unfold Lit.wf at h
  rw [Bool.and_eq_true] at h
  exact ⟨of_decide_eq_true h.1, of_decide_eq_true h.2⟩

theorem in_eq (a b c : Int) : impl_in.f a b c = some (decide (b ≤ a ∧ a ≤ c)) := by
  unfold impl_in.f
  by_cases h1 : b ≤ a <;> by_cases h2 : a ≤ c <;> simp [h1, h2]
theorem l1In_eq (a b c : Int) : spec_l1In.f a b c = some (decide (b ≤ a ∧ a ≤ c)) := by
  unfold spec_l1In.f
  by_cases h1 : b ≤ a <;> by_cases h2 : a ≤ c <;> simp [h1, h2]

set_option maxRecDepth 100000 in
theorem tab : (List.range 9).all (fun n => (List.range 5).all fun k => laws_FnExactCountFans.f 100 (n : Int) (k : Int) == some true) = true := by decide +kernel
theorem FnExactCountFans : laws_FnExactCountFans.Pure := by
  intro n k wn wk
  refine ⟨100, ?_⟩
  by_cases h : (0 ≤ n ∧ n ≤ 8) ∧ (0 ≤ k ∧ k ≤ 4)
  · have t := tab
    rw [List.all_eq_true] at t
    have t := t n.toNat (by rw [List.mem_range]; omega)
    rw [List.all_eq_true] at t
    have t := t k.toNat (by rw [List.mem_range]; omega)
    rw [show (n.toNat : Int) = n by omega, show (k.toNat : Int) = k by omega] at t
    exact eq_of_beq t
  · have hs : spec_CountFans.f 100 n k = some (0, false) := by
      unfold spec_CountFans.f
      simp only [l1In_eq, Option.bind_some]
      by_cases hn : 0 ≤ n ∧ n ≤ 8
      · rw [if_pos (decide_eq_true hn), decide_eq_false (show ¬ (0 ≤ k ∧ k ≤ 4) from fun hk => h ⟨hn, hk⟩)]; rfl
      · rw [if_neg (by simpa using hn)]; rfl
    have hm : impl_CountFans.f 100 n k = some (0, false) := by
      unfold impl_CountFans.f
      simp only [in_eq, Option.bind_some]
      by_cases hn : 0 ≤ n ∧ n ≤ 8
      · rw [if_pos (decide_eq_true hn), decide_eq_false (show ¬ (0 ≤ k ∧ k ≤ 4) from fun hk => h ⟨hn, hk⟩)]; rfl
      · rw [if_neg (by simpa using hn)]; rfl
    unfold laws_FnExactCountFans.f
    rw [hs, hm]; rfl
end Go.Proofs.Ytoainfnfdkcibaa.Pure
