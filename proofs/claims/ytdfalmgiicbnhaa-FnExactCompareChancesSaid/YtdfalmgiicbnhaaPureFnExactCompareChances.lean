/- Two ratios are compared by the program with products and by the reference with the sign of a difference, behind the same look at both. No condition. -/
import Derived.Test.YtdfalmgiicbnhaaPFnExactCompareChancesx4
namespace Go.Proofs.Ytdfalmgiicbnhaa.Pure
open Go.RowKit Go.Proofs.Ytdfalmgiicbnhaa.PFnExactCompareChances Go.Proofs.YtdfalmgiicbnhaaW.PrintWords Go.Proofs.YtdfalmgiicbnhaaW.PrintLast
set_option linter.unusedVariables false
set_option linter.unusedSimpArgs false
theorem w64 {n : Int} (h0 : -9223372036854775808 ≤ n) (h1 : n ≤ 9223372036854775807) : wrap64 n = n := by unfold wrap64; omega
theorem wf_bd {n : Int} (h : (Lit.int .i64 n).wf = true) : -9223372036854775808 ≤ n ∧ n ≤ 9223372036854775807 := by
  unfold Lit.wf at h
  rw [Bool.and_eq_true] at h
  exact ⟨of_decide_eq_true h.1, of_decide_eq_true h.2⟩

theorem in_eq (a b c : Int) : impl_in.f a b c = some (decide (b ≤ a ∧ a ≤ c)) := by
  unfold impl_in.f
  by_cases h1 : b ≤ a <;> by_cases h2 : a ≤ c <;> simp [h1, h2]
theorem l1In_eq (a b c : Int) : spec_l1In.f a b c = some (decide (b ≤ a ∧ a ≤ c)) := by
  unfold spec_l1In.f
  by_cases h1 : b ≤ a <;> by_cases h2 : a ≤ c <;> simp [h1, h2]

theorem tmod_nat (a b : Nat) : Int.tmod (a : Int) (b : Int) = ((a % b : Nat) : Int) := by
  rw [Int.tmod_eq_emod_of_nonneg (by omega)]; omega
theorem gcd_run : ∀ (n k a b : Nat), b ≤ n → n < k → impl_gcd.l0 k (a : Int) (b : Int) = some ((Nat.gcd a b : Nat) : Int) := by
  intro n
  induction n with
  | zero =>
    intro k a b hb hk
    obtain ⟨k, rfl⟩ : ∃ m, k = m + 1 := ⟨k - 1, by omega⟩
    obtain rfl : b = 0 := by omega
    simp [impl_gcd.l0]
  | succ n ih =>
    intro k a b hb hk
    obtain ⟨k, rfl⟩ : ∃ m, k = m + 1 := ⟨k - 1, by omega⟩
    simp only [impl_gcd.l0]
    by_cases h0 : b = 0
    · subst h0; simp
    · rw [if_neg (by omega), tmod_nat]
      have hlt : a % b < b := Nat.mod_lt _ (by omega)
      rw [ih k b (a % b) (by omega) (by omega)]
      congr 1; congr 1
      rw [Nat.gcd_comm a b, Nat.gcd_rec b a, Nat.gcd_comm]

theorem tmod_nat' (a b : Nat) : Int.tmod (a : Int) (b : Int) = ((a % b : Nat) : Int) := by
  rw [Int.tmod_eq_emod_of_nonneg (by omega)]; omega
theorem ruRatio_l0 : ∀ (n k : Nat) (x0 x1 : Int) (a b : Nat), b ≤ n → n < k → 0 < Nat.gcd a b →
    spec_ruRatio.l0 k x0 x1 (a : Int) (b : Int) = some (wrap64 (Int.tdiv x0 (Nat.gcd a b : Nat)), wrap64 (Int.tdiv x1 (Nat.gcd a b : Nat))) := by
  intro n
  induction n with
  | zero =>
    intro k x0 x1 a b hb hk hg
    obtain ⟨k, rfl⟩ : ∃ m, k = m + 1 := ⟨k - 1, by omega⟩
    obtain rfl : b = 0 := by omega
    simp only [Nat.gcd_zero_right] at hg ⊢
    simp only [spec_ruRatio.l0]
    rw [if_neg (by omega), if_neg (by omega)]
  | succ n ih =>
    intro k x0 x1 a b hb hk hg
    obtain ⟨k, rfl⟩ : ∃ m, k = m + 1 := ⟨k - 1, by omega⟩
    simp only [spec_ruRatio.l0]
    by_cases h0 : b = 0
    · subst h0
      simp only [Nat.gcd_zero_right] at hg ⊢
      rw [if_neg (by omega), if_neg (by omega)]
    · rw [if_pos (by omega), if_neg (by omega), tmod_nat']
      have hlt : a % b < b := Nat.mod_lt _ (by omega)
      have e : Nat.gcd a b = Nat.gcd b (a % b) := by rw [Nat.gcd_comm a b, Nat.gcd_rec b a, Nat.gcd_comm]
      rw [e] at hg ⊢
      exact ih k x0 x1 b (a % b) (by omega) (by omega) hg
theorem tdiv_bd (x : Int) (g : Nat) (h : -9223372036854775807 ≤ x) (h' : x ≤ 9223372036854775807) : wrap64 (Int.tdiv x (g : Int)) = Int.tdiv x (g : Int) := by
  have := Int.natAbs_tdiv_le_natAbs x (g : Int)
  exact w64 (by omega) (by omega)
/-- A fraction in lowest terms, by the reference: num of either sign, den at least 1. -/
theorem ruRatio_run (k : Nat) (num : Int) (den : Nat) (h : -9223372036854775807 ≤ num) (h' : num ≤ 9223372036854775807) (hd : 0 < den) (hd' : (den : Int) ≤ 9223372036854775807) (hk : den < k) :
    spec_ruRatio.f k num (den : Int) = some (Int.tdiv num (Nat.gcd num.natAbs den : Nat), Int.tdiv (den : Int) (Nat.gcd num.natAbs den : Nat)) := by
  unfold spec_ruRatio.f spec_l1Abs.f spec_l1Most.f
  rw [w64 (n := -num) (by omega) (by omega)]
  have e : (if num > -num then some num else some (-num)) = some ((num.natAbs : Nat) : Int) := by
    by_cases hp : num > -num
    · rw [if_pos hp]; congr 1; omega
    · rw [if_neg hp]; congr 1; omega
  rw [e]
  simp only [Option.bind_some]
  rw [ruRatio_l0 den k num (den : Int) num.natAbs den (Nat.le_refl _) hk (Nat.gcd_pos_of_pos_right _ hd), tdiv_bd _ _ h h', tdiv_bd _ _ (by omega) hd']

/-- Of a first number that is at least 1 the fraction is its own lowest terms just where the greatest divisor is 1. -/
theorem lowest_iff (a b : Nat) (hb : 0 < b) : ((Int.tdiv (a : Int) (Nat.gcd a b : Nat) == (a : Int)) && (Int.tdiv (b : Int) (Nat.gcd a b : Nat) == (b : Int))) = decide (((Nat.gcd a b : Nat) : Int) = 1) := by
  have hg : 0 < Nat.gcd a b := Nat.gcd_pos_of_pos_right _ hb
  rw [Int.tdiv_eq_ediv_of_nonneg (by omega), Int.tdiv_eq_ediv_of_nonneg (by omega)]
  generalize Nat.gcd a b = g at hg
  by_cases h : g = 1
  · subst h; simp
  · have h2 : (b : Int) / (g : Int) ≠ (b : Int) := by
      have : b / g < b := Nat.div_lt_self hb (by omega)
      rw [← Int.natCast_ediv]; omega
    have h3 : ¬ ((g : Int) = 1) := by omega
    simp [h2, h3]

def isR (a b : Int) : Bool := decide (0 ≤ a ∧ a ≤ 1000000000 ∧ 1 ≤ b ∧ b ≤ 1000000000 ∧ Nat.gcd a.natAbs b.natAbs = 1)
theorem spec_cmp (a b : Int) : spec_ruCompared.f 1000000001 a b = some (isR a b) := by
  unfold spec_ruCompared.f isR
  simp only [l1In_eq, Option.bind_some]
  by_cases ha : 0 ≤ a ∧ a ≤ 1000000000
  · rw [if_pos (decide_eq_true ha)]
    by_cases hb : 1 ≤ b ∧ b ≤ 1000000000
    · rw [if_pos (decide_eq_true hb)]
      obtain ⟨n, rfl⟩ : ∃ n : Nat, b = (n : Int) := ⟨b.toNat, by omega⟩
      obtain ⟨m, rfl⟩ : ∃ m : Nat, a = (m : Int) := ⟨a.toNat, by omega⟩
      rw [ruRatio_run 1000000001 (m : Int) n (by omega) (by omega) (by omega) (by omega) (by omega)]
      simp only [Option.bind_some, Int.natAbs_natCast]
      rw [lowest_iff m n (by omega)]
      have : (((Nat.gcd m n : Nat) : Int) = 1) ↔ Nat.gcd m n = 1 := by omega
      congr 1
      rw [decide_eq_decide, this]
      exact ⟨fun h => ⟨by omega, by omega, by omega, by omega, h⟩, fun h => h.2.2.2.2⟩
    · rw [if_neg (by simpa using hb)]; congr 1; symm; apply decide_eq_false; omega
  · rw [if_neg (by simpa using ha)]; congr 1; symm; apply decide_eq_false; omega
theorem impl_cmp (a b : Int) : impl_isRatio.f 1000000001 a b = some (isR a b) := by
  unfold impl_isRatio.f impl_gcd.f isR
  simp only [in_eq, Option.bind_some]
  by_cases ha : 0 ≤ a ∧ a ≤ 1000000000
  · rw [if_pos (decide_eq_true ha)]
    by_cases hb : 1 ≤ b ∧ b ≤ 1000000000
    · rw [if_pos (decide_eq_true hb)]
      obtain ⟨n, rfl⟩ : ∃ n : Nat, b = (n : Int) := ⟨b.toNat, by omega⟩
      obtain ⟨m, rfl⟩ : ∃ m : Nat, a = (m : Int) := ⟨a.toNat, by omega⟩
      rw [gcd_run n 1000000001 m n (Nat.le_refl _) (by omega)]
      simp only [Option.bind_some, Int.natAbs_natCast]
      have : (((Nat.gcd m n : Nat) : Int) = 1) ↔ Nat.gcd m n = 1 := by omega
      congr 1
      rw [show (((Nat.gcd m n : Nat) : Int) == 1) = decide (((Nat.gcd m n : Nat) : Int) = 1) from rfl, decide_eq_decide, this]
      exact ⟨fun h => ⟨by omega, by omega, by omega, by omega, h⟩, fun h => h.2.2.2.2⟩
    · rw [if_neg (by simpa using hb)]; congr 1; symm; apply decide_eq_false; omega
  · rw [if_neg (by simpa using ha)]; congr 1; symm; apply decide_eq_false; omega
theorem mul_bd {a b : Int} (h : 0 ≤ a) (h' : a ≤ 1000000000) (g : 0 ≤ b) (g' : b ≤ 1000000000) : 0 ≤ a * b ∧ a * b ≤ 1000000000000000000 := by
  refine ⟨Int.mul_nonneg h g, ?_⟩
  have := Int.mul_le_mul h' g' g (by omega : (0 : Int) ≤ 1000000000)
  omega
theorem FnExactCompareChances : ∀ (a0_0 : Int) (a0_1 : Int) (a1_0 : Int) (a1_1 : Int), (Lit.int .i64 a0_0).wf = true → (Lit.int .i64 a0_1).wf = true → (Lit.int .i64 a1_0).wf = true → (Lit.int .i64 a1_1).wf = true → ∃ k, laws_FnExactCompareChances.f k a0_0 a0_1 a1_0 a1_1 = some true := by
  intro a b c d _ _ _ _
  refine ⟨1000000001, ?_⟩
  unfold laws_FnExactCompareChances.f laws_toRatio.f spec_CompareChances.f impl_CompareChances.f spec_l1Sign.f
  simp only [Option.bind_some, spec_cmp, impl_cmp]
  cases h1 : isR a b with
  | false => simp [impl_CompareChances.j0]
  | true =>
    cases h2 : isR c d with
    | false => simp [impl_CompareChances.j0]
    | true =>
      have g1 := of_decide_eq_true h1
      have g2 := of_decide_eq_true h2
      have m1 := mul_bd g1.1 g1.2.1 (show 0 ≤ d by omega) g2.2.2.2.1
      have m2 := mul_bd g2.1 g2.2.1 (show 0 ≤ b by omega) g1.2.2.2.1
      simp only [impl_CompareChances.j0, if_true, Bool.not_true, Bool.false_eq_true, if_false]
      rw [w64 (n := a * d) (by omega) (by omega), w64 (n := c * b) (by omega) (by omega), w64 (n := a * d - c * b) (by omega) (by omega)]
      rcases Int.lt_trichotomy (a * d) (c * b) with h | h | h
      · rw [if_neg (by omega), if_pos (by omega), if_pos (by omega)]; simp
      · rw [if_neg (by omega), if_neg (by omega), if_neg (by omega), if_neg (by omega)]; simp
      · rw [if_pos (by omega), if_neg (by omega), if_pos (by omega)]; simp
end Go.Proofs.Ytdfalmgiicbnhaa.Pure
