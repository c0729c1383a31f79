/- Ways to win in so many games, each amount's ways told from game to game: of the arguments that are right each is reckoned on both sides; of all others both say no. No condition. -/
import Derived.Test.YtdfalmgiicbnhaaQFnExactCountWinsx2
namespace Go.Proofs.Ytdfalmgiicbnhaa.Pure
open Go.RowKit Go.Proofs.Ytdfalmgiicbnhaa.QFnExactCountWins Go.Proofs.YtdfalmgiicbnhaaW.PrintWords Go.Proofs.YtdfalmgiicbnhaaW.PrintLast
set_option linter.unusedVariables false
set_option linter.unusedSimpArgs false
theorem w64 {n : Int} (h0 : -9223372036854775808 ≤ n) (h1 : n ≤ 9223372036854775807) : wrap64 n = n := by unfold wrap64; omega
theorem wf_bd {n : Int} (h : (Lit.int .i64 n).wf = true) : -9223372036854775808 ≤ n ∧ n ≤ 9223372036854775807 := by
  unfold Lit.wf at h
  rw [Bool.and_eq_true] at h
  exact ⟨of_decide_eq_true h.1, of_decide_eq_true h.2⟩

theorem in_eq (a b c : Int) : impl_in.f a b c = some (decide (b ≤ a ∧ a ≤ c)) := by
  unfold impl_in.f
  by_cases h1 : b ≤ a <;> by_cases h2 : a ≤ c <;> simp [h1, h2]
theorem l1In_eq (a b c : Int) : spec_l1In.f a b c = some (decide (b ≤ a ∧ a ≤ c)) := by
  unfold spec_l1In.f
  by_cases h1 : b ≤ a <;> by_cases h2 : a ≤ c <;> simp [h1, h2]

set_option maxRecDepth 100000 in
theorem tab : (List.range 12).all (fun g => (List.range g).all fun i => (List.range 19).all fun n => laws_FnExactCountWins.f 400 ((i : Int) + 1) ((g : Int) + 1) (n : Int) == some true) = true := by decide +kernel
theorem FnExactCountWins : laws_FnExactCountWins.Pure := by
  intro i g n wi wg wn
  have bi := wf_bd wi; have bg := wf_bd wg
  refine ⟨400, ?_⟩
  by_cases h : (1 ≤ g ∧ g ≤ 12) ∧ (1 ≤ i ∧ i ≤ g - 1) ∧ (0 ≤ n ∧ n ≤ 18)
  · have t := tab
    rw [List.all_eq_true] at t
    have t := t (g - 1).toNat (by rw [List.mem_range]; omega)
    rw [List.all_eq_true] at t
    have t := t (i - 1).toNat (by rw [List.mem_range]; omega)
    rw [List.all_eq_true] at t
    have t := t n.toNat (by rw [List.mem_range]; omega)
    rw [show (((i - 1).toNat : Int) + 1) = i by omega, show (((g - 1).toNat : Int) + 1) = g by omega, show (n.toNat : Int) = n by omega] at t
    exact eq_of_beq t
  · have hs : spec_CountWins.f 400 i g n = some (0, false) := by
      unfold spec_CountWins.f
      simp only [l1In_eq, Option.bind_some]
      by_cases hg : 1 ≤ g ∧ g ≤ 12
      · rw [if_pos (decide_eq_true hg), w64 (by omega) (by omega)]
        by_cases hi : 1 ≤ i ∧ i ≤ g - 1
        · rw [if_pos (decide_eq_true hi), decide_eq_false (show ¬ (0 ≤ n ∧ n ≤ 18) from fun hn => h ⟨hg, hi, hn⟩)]; rfl
        · rw [if_neg (by simpa using hi)]; rfl
      · rw [if_neg (by simpa using hg)]; rfl
    have hm : impl_CountWins.f 400 i g n = some (0, false) := by
      unfold impl_CountWins.f
      simp only [in_eq, Option.bind_some]
      by_cases hg : 1 ≤ g ∧ g ≤ 12
      · rw [if_pos (decide_eq_true hg), w64 (by omega) (by omega)]
        by_cases hi : 1 ≤ i ∧ i ≤ g - 1
        · rw [if_pos (decide_eq_true hi), decide_eq_false (show ¬ (0 ≤ n ∧ n ≤ 18) from fun hn => h ⟨hg, hi, hn⟩)]; rfl
        · rw [if_neg (by simpa using hi)]; rfl
      · rw [if_neg (by simpa using hg)]; rfl
    unfold laws_FnExactCountWins.f
    rw [hs, hm]; rfl
end Go.Proofs.Ytdfalmgiicbnhaa.Pure
