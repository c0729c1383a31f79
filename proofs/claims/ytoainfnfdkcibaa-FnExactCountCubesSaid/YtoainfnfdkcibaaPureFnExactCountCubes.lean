/- Piles of cubes: of the arguments that are right each product is reckoned on both sides; of all others both say no. No condition. -/
import Derived.Test.YtoainfnfdkcibaaQFnExactCountCubesx4
namespace Go.Proofs.Ytoainfnfdkcibaa.Pure
open Go.RowKit Go.Proofs.Ytoainfnfdkcibaa.QFnExactCountCubes Go.Proofs.YtoainfnfdkcibaaW.PrintWords Go.Proofs.YtoainfnfdkcibaaW.PrintLast
set_option linter.unusedVariables false
set_option linter.unusedSimpArgs false
theorem w64 {n : Int} (h0 : -9223372036854775808 ≤ n) (h1 : n ≤ 9223372036854775807) : wrap64 n = n := by unfold wrap64; omega
theorem wf_bd {n : Int} (h : (Lit.int .i64 n).wf = true) : -9223372036854775808 ≤ n ∧ n ≤ 9223372036854775807 := by
  unfold Lit.wf at h
  rw [Bool.and_eq_true] at h
  exact ⟨of_decide_eq_true h.1, of_decide_eq_true h.2⟩

theorem in_eq (a b c : Int) : impl_in.f a b c = some (decide (b ≤ a ∧ a ≤ c)) := by
  unfold impl_in.f
  by_cases h1 : b ≤ a <;> by_cases h2 : a ≤ c <;> simp [h1, h2]
theorem l1In_eq (a b c : Int) : spec_l1In.f a b c = some (decide (b ≤ a ∧ a ≤ c)) := by
  unfold spec_l1In.f
  by_cases h1 : b ≤ a <;> by_cases h2 : a ≤ c <;> simp [h1, h2]

set_option maxRecDepth 100000 in
theorem tab : (List.range 5).all (fun a => (List.range 5).all fun b => (List.range 5).all fun c => laws_FnExactCountCubes.f 300 (a : Int) (b : Int) (c : Int) == some true) = true := by decide +kernel
theorem FnExactCountCubes : laws_FnExactCountCubes.Pure := by
  intro a b c wa wb wc
  refine ⟨300, ?_⟩
  by_cases h : (0 ≤ a ∧ a ≤ 4) ∧ (0 ≤ b ∧ b ≤ 4) ∧ (0 ≤ c ∧ c ≤ 4)
  · have t := tab
    rw [List.all_eq_true] at t
    have t := t a.toNat (by rw [List.mem_range]; omega)
    rw [List.all_eq_true] at t
    have t := t b.toNat (by rw [List.mem_range]; omega)
    rw [List.all_eq_true] at t
    have t := t c.toNat (by rw [List.mem_range]; omega)
    rw [show (a.toNat : Int) = a by omega, show (b.toNat : Int) = b by omega, show (c.toNat : Int) = c by omega] at t
    exact eq_of_beq t
  · have hs : spec_CountCubes.f 300 a b c = some (0, false) := by
      unfold spec_CountCubes.f
      simp only [l1In_eq, Option.bind_some]
      by_cases ha : 0 ≤ a ∧ a ≤ 4
      · rw [if_pos (decide_eq_true ha)]
        by_cases hb : 0 ≤ b ∧ b ≤ 4
        · rw [if_pos (decide_eq_true hb), decide_eq_false (show ¬ (0 ≤ c ∧ c ≤ 4) from fun hc => h ⟨ha, hb, hc⟩)]; rfl
        · rw [if_neg (by simpa using hb)]; rfl
      · rw [if_neg (by simpa using ha)]; rfl
    have hm : impl_CountCubes.f 300 a b c = some (0, false) := by
      unfold impl_CountCubes.f
      simp only [in_eq, Option.bind_some]
      by_cases ha : 0 ≤ a ∧ a ≤ 4
      · rw [if_pos (decide_eq_true ha)]
        by_cases hb : 0 ≤ b ∧ b ≤ 4
        · rw [if_pos (decide_eq_true hb), decide_eq_false (show ¬ (0 ≤ c ∧ c ≤ 4) from fun hc => h ⟨ha, hb, hc⟩)]; rfl
        · rw [if_neg (by simpa using hb)]; rfl
      · rw [if_neg (by simpa using ha)]; rfl
    unfold laws_FnExactCountCubes.f
    rw [hs, hm]; rfl
end Go.Proofs.Ytoainfnfdkcibaa.Pure
