/- How many ways lead from a cell to another one: the two ways to choose are held side by side at all that a grid can ask. No condition. -/
import Derived.Test.YtdfalmgiicbnhaaPFnExactCountWaysx3
namespace Go.Proofs.Ytdfalmgiicbnhaa.Pure
open Go.RowKit Go.Proofs.Ytdfalmgiicbnhaa.PFnExactCountWays Go.Proofs.YtdfalmgiicbnhaaW.PrintWords Go.Proofs.YtdfalmgiicbnhaaW.PrintLast
set_option linter.unusedVariables false
set_option linter.unusedSimpArgs false
theorem w64 {n : Int} (h0 : -9223372036854775808 ≤ n) (h1 : n ≤ 9223372036854775807) : wrap64 n = n := by unfold wrap64; omega
theorem wf_bd {n : Int} (h : (Lit.int .i64 n).wf = true) : -9223372036854775808 ≤ n ∧ n ≤ 9223372036854775807 := by
  unfold Lit.wf at h
  rw [Bool.and_eq_true] at h
  exact ⟨of_decide_eq_true h.1, of_decide_eq_true h.2⟩

theorem in_eq (a b c : Int) : impl_in.f a b c = some (decide (b ≤ a ∧ a ≤ c)) := by
  unfold impl_in.f
  by_cases h1 : b ≤ a <;> by_cases h2 : a ≤ c <;> simp [h1, h2]
theorem l1In_eq (a b c : Int) : spec_l1In.f a b c = some (decide (b ≤ a ∧ a ≤ c)) := by
  unfold spec_l1In.f
  by_cases h1 : b ≤ a <;> by_cases h2 : a ≤ c <;> simp [h1, h2]

set_option maxRecDepth 100000 in
theorem tab : (List.range 13).all (fun x => (List.range 13).all fun y => (spec_paChoose.f 900 ((x : Int) + (y : Int)) (x : Int)).isSome && (spec_paChoose.f 900 ((x : Int) + (y : Int)) (x : Int) == impl_choose.f 900 ((x : Int) + (y : Int)) (x : Int))) = true := by decide +kernel
theorem both (x y : Int) (hx : 0 ≤ x) (hx' : x ≤ 12) (hy : 0 ≤ y) (hy' : y ≤ 12) : ∃ r, spec_paChoose.f 900 (x + y) x = some r ∧ impl_choose.f 900 (x + y) x = some r := by
  have t := tab
  rw [List.all_eq_true] at t
  have t := t x.toNat (by rw [List.mem_range]; omega)
  rw [List.all_eq_true] at t
  have t := t y.toNat (by rw [List.mem_range]; omega)
  rw [show (x.toNat : Int) = x by omega, show (y.toNat : Int) = y by omega, Bool.and_eq_true] at t
  obtain ⟨r, hr⟩ := Option.isSome_iff_exists.1 t.1
  exact ⟨r, hr, (eq_of_beq t.2) ▸ hr⟩
theorem cell_spec (a b : Int) : spec_ncCell.f a b = some (decide ((0 ≤ a ∧ a ≤ 12) ∧ (0 ≤ b ∧ b ≤ 12))) := by
  unfold spec_ncCell.f
  simp only [l1In_eq, Option.bind_some]
  by_cases h : 0 ≤ a ∧ a ≤ 12
  · simp [h]
  · rw [if_neg (by simpa using h)]; congr 1; symm; apply decide_eq_false; exact fun x => h x.1
theorem cell_impl (a b : Int) : impl_IsCell.f a b = some (decide ((0 ≤ a ∧ a ≤ 12) ∧ (0 ≤ b ∧ b ≤ 12))) := by
  unfold impl_IsCell.f
  simp only [in_eq, Option.bind_some]
  by_cases h : 0 ≤ a ∧ a ≤ 12
  · simp [h]
  · rw [if_neg (by simpa using h)]; congr 1; symm; apply decide_eq_false; exact fun x => h x.1
theorem FnExactCountWays : ∀ (a0_0 : Int) (a0_1 : Int) (a1_0 : Int) (a1_1 : Int), (Lit.int .i64 a0_0).wf = true → (Lit.int .i64 a0_1).wf = true → (Lit.int .i64 a1_0).wf = true → (Lit.int .i64 a1_1).wf = true → ∃ k, laws_FnExactCountWays.f k a0_0 a0_1 a1_0 a1_1 = some true := by
  intro a b c d _ _ _ _
  refine ⟨900, ?_⟩
  unfold laws_FnExactCountWays.f laws_toCell.f spec_CountWays.f impl_CountWays.f
  simp only [Option.bind_some, cell_spec, cell_impl]
  by_cases h1 : (0 ≤ a ∧ a ≤ 12) ∧ (0 ≤ b ∧ b ≤ 12)
  · by_cases h2 : (0 ≤ c ∧ c ≤ 12) ∧ (0 ≤ d ∧ d ≤ 12)
    · rw [decide_eq_true h1, decide_eq_true h2]
      simp only [if_true]
      unfold spec_ncCount.f impl_ways.f
      rw [w64 (n := c - a) (by omega) (by omega), w64 (n := d - b) (by omega) (by omega), w64 (n := c - a + d) (by omega) (by omega), w64 (n := c - a + d - b) (by omega) (by omega), w64 (n := c - a + (d - b)) (by omega) (by omega)]
      by_cases h3 : c < a
      · rw [if_pos (show c - a < 0 by omega), if_pos h3]; rfl
      · by_cases h4 : d < b
        · rw [if_neg (show ¬ c - a < 0 by omega), if_neg h3, if_pos (show d - b < 0 by omega), if_pos h4]; rfl
        · rw [if_neg (show ¬ c - a < 0 by omega), if_neg h3, if_neg (show ¬ d - b < 0 by omega), if_neg h4]
          obtain ⟨r, hr, hr'⟩ := both (c - a) (d - b) (by omega) (by omega) (by omega) (by omega)
          rw [show c - a + d - b = c - a + (d - b) by omega, hr, hr']; simp
    · rw [decide_eq_true h1, decide_eq_false h2]; rfl
  · rw [decide_eq_false h1]; rfl
end Go.Proofs.Ytdfalmgiicbnhaa.Pure
