/- All mixed paths of n steps: of 0 to 6 steps they are listed on both sides and compared; of all other n both say no. No condition. -/
import Derived.Test.YtkjmkkeiolifoaaPFnExactAllMixedx3
namespace Go.Proofs.Ytkjmkkeiolifoaa.Pure
open Go.RowKit Go.Proofs.Ytkjmkkeiolifoaa.PFnExactAllMixed Go.Proofs.YtkjmkkeiolifoaaW.PrintWords Go.Proofs.YtkjmkkeiolifoaaW.PrintLast
set_option linter.unusedVariables false
set_option linter.unusedSimpArgs false
theorem w64 {n : Int} (h0 : -9223372036854775808 ≤ n) (h1 : n ≤ 9223372036854775807) : wrap64 n = n := by unfold wrap64; omega
theorem wf_bd {n : Int} (h : (Lit.int .i64 n).wf = true) : -9223372036854775808 ≤ n ∧ n ≤ 9223372036854775807 := by
  unfold Lit.wf at h
  rw [Bool.and_eq_true] at h
  exact ⟨of_decide_eq_true h.1, of_decide_eq_true h.2⟩

theorem in_eq (a b c : Int) : impl_in.f a b c = some (decide (b ≤ a ∧ a ≤ c)) := by
  unfold impl_in.f
  by_cases h1 : b ≤ a <;> by_cases h2 : a ≤ c <;> simp [h1, h2]
theorem l1In_eq (a b c : Int) : spec_l1In.f a b c = some (decide (b ≤ a ∧ a ≤ c)) := by
  unfold spec_l1In.f
  by_cases h1 : b ≤ a <;> by_cases h2 : a ≤ c <;> simp [h1, h2]

set_option maxRecDepth 100000 in
theorem tab : (List.range 7).all (fun n => laws_FnExactAllMixed.f 400 (n : Int) == some true) = true := by decide +kernel
theorem FnExactAllMixed : laws_FnExactAllMixed.Pure := by
  intro n wn
  refine ⟨400, ?_⟩
  by_cases h : 0 ≤ n ∧ n ≤ 6
  · have t := tab
    rw [List.all_eq_true] at t
    have t := t n.toNat (by rw [List.mem_range]; omega)
    rw [show (n.toNat : Int) = n by omega] at t
    exact eq_of_beq t
  · have hs : spec_AllMixed.f 400 n = some ([], false) := by
      unfold spec_AllMixed.f
      simp only [l1In_eq, Option.bind_some]
      rw [decide_eq_false h]
      simp only [Bool.false_eq_true, if_false]
    have hm : ∀ k, impl_AllMixed.f k n = some ([], false) := by
      intro k
      unfold impl_AllMixed.f
      simp only [in_eq, Option.bind_some]
      rw [decide_eq_false h]
      simp only [Bool.false_eq_true, if_false]
    have e0 : laws_eqStringS.f 400 [] [] = some true := by decide +kernel
    have e1 : laws_eqStringS.f 399 [] [] = some true := by decide +kernel
    have m1 : laws_markStringS.f 399 [] 1 = some (1, []) := by decide +kernel
    have d1 : laws_heldStringS.f 399 [] 1 = some 1 := by decide +kernel
    have d2 : laws_heldStringS.f 398 [] 1 = some 1 := by decide +kernel
    unfold laws_FnExactAllMixed.f
    rw [hs, hm]
    simp only [Option.bind_some, e0, if_true, bne_self_eq_false]
    rw [show (400 : Nat) = 399 + 1 from rfl]
    simp only [laws_FnExactAllMixed.j0, Bool.false_eq_true, if_false, m1, d1, hm, e1, Option.bind_some, if_true, bne_self_eq_false]
    rw [show (399 : Nat) = 398 + 1 from rfl]
    simp only [laws_FnExactAllMixed.j1, Bool.false_eq_true, if_false, d2, Option.bind_some]
    simp
end Go.Proofs.Ytkjmkkeiolifoaa.Pure
