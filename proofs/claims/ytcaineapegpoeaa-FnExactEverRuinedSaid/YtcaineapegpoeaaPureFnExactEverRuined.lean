/- The chance to be ruined ever: of the arguments that are right each is reckoned on both sides; of all others both say no. No condition. -/
import Derived.Test.YtcaineapegpoeaaPFnExactEverRuinedx4
namespace Go.Proofs.Ytcaineapegpoeaa.Pure
open Go.RowKit Go.Proofs.Ytcaineapegpoeaa.PFnExactEverRuined Go.Proofs.YtcaineapegpoeaaW.PrintWords Go.Proofs.YtcaineapegpoeaaW.PrintLast
set_option linter.unusedVariables false
set_option linter.unusedSimpArgs false
theorem w64 {n : Int} (h0 : -9223372036854775808 ≤ n) (h1 : n ≤ 9223372036854775807) : wrap64 n = n := by unfold wrap64; omega
theorem wf_bd {n : Int} (h : (Lit.int .i64 n).wf = true) : -9223372036854775808 ≤ n ∧ n ≤ 9223372036854775807 := by
  unfold Lit.wf at h
  rw [Bool.and_eq_true] at h
  exact ⟨of_decide_eq_true h.1, of_decide_eq_true h.2⟩

theorem in_eq (a b c : Int) : impl_in.f a b c = some (decide (b ≤ a ∧ a ≤ c)) := by
  unfold impl_in.f
  by_cases h1 : b ≤ a <;> by_cases h2 : a ≤ c <;> simp [h1, h2]
theorem l1In_eq (a b c : Int) : spec_l1In.f a b c = some (decide (b ≤ a ∧ a ≤ c)) := by
  unfold spec_l1In.f
  by_cases h1 : b ≤ a <;> by_cases h2 : a ≤ c <;> simp [h1, h2]

theorem tmod_nat (a b : Nat) : Int.tmod (a : Int) (b : Int) = ((a % b : Nat) : Int) := by
  rw [Int.tmod_eq_emod_of_nonneg (by omega)]; omega
theorem gcd_run : ∀ (n k a b : Nat), b ≤ n → n < k → impl_gcd.l0 k (a : Int) (b : Int) = some ((Nat.gcd a b : Nat) : Int) := by
  intro n
  induction n with
  | zero =>
    intro k a b hb hk
    obtain ⟨k, rfl⟩ : ∃ m, k = m + 1 := ⟨k - 1, by omega⟩
    obtain rfl : b = 0 := by omega
    simp [impl_gcd.l0]
  | succ n ih =>
    intro k a b hb hk
    obtain ⟨k, rfl⟩ : ∃ m, k = m + 1 := ⟨k - 1, by omega⟩
    simp only [impl_gcd.l0]
    by_cases h0 : b = 0
    · subst h0; simp
    · rw [if_neg (by omega), tmod_nat]
      have hlt : a % b < b := Nat.mod_lt _ (by omega)
      rw [ih k b (a % b) (by omega) (by omega)]
      congr 1; congr 1
      rw [Nat.gcd_comm a b, Nat.gcd_rec b a, Nat.gcd_comm]

theorem tmod_nat' (a b : Nat) : Int.tmod (a : Int) (b : Int) = ((a % b : Nat) : Int) := by
  rw [Int.tmod_eq_emod_of_nonneg (by omega)]; omega
theorem ruRatio_l0 : ∀ (n k : Nat) (x0 x1 : Int) (a b : Nat), b ≤ n → n < k → 0 < Nat.gcd a b →
    spec_ruRatio.l0 k x0 x1 (a : Int) (b : Int) = some (wrap64 (Int.tdiv x0 (Nat.gcd a b : Nat)), wrap64 (Int.tdiv x1 (Nat.gcd a b : Nat))) := by
  intro n
  induction n with
  | zero =>
    intro k x0 x1 a b hb hk hg
    obtain ⟨k, rfl⟩ : ∃ m, k = m + 1 := ⟨k - 1, by omega⟩
    obtain rfl : b = 0 := by omega
    simp only [Nat.gcd_zero_right] at hg ⊢
    simp only [spec_ruRatio.l0]
    rw [if_neg (by omega), if_neg (by omega)]
  | succ n ih =>
    intro k x0 x1 a b hb hk hg
    obtain ⟨k, rfl⟩ : ∃ m, k = m + 1 := ⟨k - 1, by omega⟩
    simp only [spec_ruRatio.l0]
    by_cases h0 : b = 0
    · subst h0
      simp only [Nat.gcd_zero_right] at hg ⊢
      rw [if_neg (by omega), if_neg (by omega)]
    · rw [if_pos (by omega), if_neg (by omega), tmod_nat']
      have hlt : a % b < b := Nat.mod_lt _ (by omega)
      have e : Nat.gcd a b = Nat.gcd b (a % b) := by rw [Nat.gcd_comm a b, Nat.gcd_rec b a, Nat.gcd_comm]
      rw [e] at hg ⊢
      exact ih k x0 x1 b (a % b) (by omega) (by omega) hg
theorem tdiv_bd (x : Int) (g : Nat) (h : -9223372036854775807 ≤ x) (h' : x ≤ 9223372036854775807) : wrap64 (Int.tdiv x (g : Int)) = Int.tdiv x (g : Int) := by
  have := Int.natAbs_tdiv_le_natAbs x (g : Int)
  exact w64 (by omega) (by omega)
/-- A fraction in lowest terms, by the reference: num of either sign, den at least 1. -/
theorem ruRatio_run (k : Nat) (num : Int) (den : Nat) (h : -9223372036854775807 ≤ num) (h' : num ≤ 9223372036854775807) (hd : 0 < den) (hd' : (den : Int) ≤ 9223372036854775807) (hk : den < k) :
    spec_ruRatio.f k num (den : Int) = some (Int.tdiv num (Nat.gcd num.natAbs den : Nat), Int.tdiv (den : Int) (Nat.gcd num.natAbs den : Nat)) := by
  unfold spec_ruRatio.f spec_l1Abs.f spec_l1Most.f
  rw [w64 (n := -num) (by omega) (by omega)]
  have e : (if num > -num then some num else some (-num)) = some ((num.natAbs : Nat) : Int) := by
    by_cases hp : num > -num
    · rw [if_pos hp]; congr 1; omega
    · rw [if_neg hp]; congr 1; omega
  rw [e]
  simp only [Option.bind_some]
  rw [ruRatio_l0 den k num (den : Int) num.natAbs den (Nat.le_refl _) hk (Nat.gcd_pos_of_pos_right _ hd), tdiv_bd _ _ h h', tdiv_bd _ _ (by omega) hd']

/-- Of a first number that is at least 1 the fraction is its own lowest terms just where the greatest divisor is 1. -/
theorem lowest_iff (a b : Nat) (hb : 0 < b) : ((Int.tdiv (a : Int) (Nat.gcd a b : Nat) == (a : Int)) && (Int.tdiv (b : Int) (Nat.gcd a b : Nat) == (b : Int))) = decide (((Nat.gcd a b : Nat) : Int) = 1) := by
  have hg : 0 < Nat.gcd a b := Nat.gcd_pos_of_pos_right _ hb
  rw [Int.tdiv_eq_ediv_of_nonneg (by omega), Int.tdiv_eq_ediv_of_nonneg (by omega)]
  generalize Nat.gcd a b = g at hg
  by_cases h : g = 1
  · subst h; simp
  · have h2 : (b : Int) / (g : Int) ≠ (b : Int) := by
      have : b / g < b := Nat.div_lt_self hb (by omega)
      rw [← Int.natCast_ediv]; omega
    have h3 : ¬ ((g : Int) = 1) := by omega
    simp [h2, h3]

def chB (a b : Int) : Bool := decide (2 ≤ b ∧ b ≤ 6 ∧ 1 ≤ a ∧ a < b ∧ Nat.gcd a.natAbs b.natAbs = 1)
theorem chB_bd {a b : Int} (h : chB a b = true) : 2 ≤ b ∧ b ≤ 6 ∧ 1 ≤ a ∧ a < b := by
  have := of_decide_eq_true h
  exact ⟨this.1, this.2.1, this.2.2.1, this.2.2.2.1⟩
theorem spec_ch (a b : Int) : spec_ruIs.f 1000000001 a b = some (chB a b) := by
  unfold spec_ruIs.f chB
  simp only [l1In_eq, Option.bind_some]
  by_cases hb : 2 ≤ b ∧ b ≤ 6
  · rw [if_pos (decide_eq_true hb), w64 (by omega) (by omega)]
    by_cases ha : 1 ≤ a ∧ a ≤ b - 1
    · rw [if_pos (decide_eq_true ha)]
      obtain ⟨n, rfl⟩ : ∃ n : Nat, b = (n : Int) := ⟨b.toNat, by omega⟩
      obtain ⟨m, rfl⟩ : ∃ m : Nat, a = (m : Int) := ⟨a.toNat, by omega⟩
      rw [ruRatio_run 1000000001 (m : Int) n (by omega) (by omega) (by omega) (by omega) (by omega)]
      simp only [Option.bind_some, Int.natAbs_natCast]
      rw [lowest_iff m n (by omega)]
      have : (((Nat.gcd m n : Nat) : Int) = 1) ↔ Nat.gcd m n = 1 := by omega
      congr 1
      simp only [this, decide_eq_decide]
      constructor
      · intro h; exact ⟨by omega, by omega, by omega, by omega, h⟩
      · intro h; exact h.2.2.2.2
    · rw [if_neg (by simpa using ha)]
      congr 1; symm; apply decide_eq_false; omega
  · rw [if_neg (by simpa using hb)]
    congr 1; symm; apply decide_eq_false; omega
theorem impl_ch (a b : Int) : impl_IsChance.f 1000000001 a b = some (chB a b) := by
  unfold impl_IsChance.f impl_isRatio.f impl_gcd.f chB
  simp only [in_eq, Option.bind_some]
  by_cases ha : 0 ≤ a ∧ a ≤ 1000000000
  · rw [if_pos (decide_eq_true ha)]
    by_cases hb : 1 ≤ b ∧ b ≤ 1000000000
    · rw [if_pos (decide_eq_true hb)]
      obtain ⟨n, rfl⟩ : ∃ n : Nat, b = (n : Int) := ⟨b.toNat, by omega⟩
      obtain ⟨m, rfl⟩ : ∃ m : Nat, a = (m : Int) := ⟨a.toNat, by omega⟩
      rw [gcd_run n 1000000001 m n (Nat.le_refl _) (by omega)]
      simp only [Option.bind_some, Int.natAbs_natCast]
      have e : (((Nat.gcd m n : Nat) : Int) == 1) = decide (Nat.gcd m n = 1) := by
        by_cases h : Nat.gcd m n = 1
        · simp [h]
        · have : ¬ (((Nat.gcd m n : Nat) : Int) = 1) := by omega
          simp [h, this]
      rw [e]
      by_cases hg : Nat.gcd m n = 1
      · rw [if_pos (decide_eq_true hg)]
        by_cases h1 : (m : Int) > 0
        · rw [if_pos h1]
          by_cases h2 : (m : Int) < n
          · rw [if_pos h2]
            congr 1
            rw [decide_eq_decide]
            constructor
            · intro h; exact ⟨by omega, by omega, by omega, by omega, hg⟩
            · intro h; exact h.2.1
          · rw [if_neg h2]; congr 1; symm; apply decide_eq_false; omega
        · rw [if_neg h1]; congr 1; symm; apply decide_eq_false; omega
      · rw [if_neg (by simpa using hg)]; congr 1; symm; apply decide_eq_false; exact fun h => hg h.2.2.2.2
    · rw [if_neg (by simpa using hb), Option.bind_some, if_neg (by simp)]; congr 1; symm; apply decide_eq_false; omega
  · rw [if_neg (by simpa using ha), Option.bind_some, if_neg (by simp)]; congr 1; symm; apply decide_eq_false; omega
/-- A look over all that fits: a table over small numbers, used at one place. -/
theorem look1 {p : Nat → Bool} {n : Nat} (h : (List.range n).all p = true) (i : Nat) (hi : i < n) : p i = true := by
  rw [List.all_eq_true] at h
  exact h i (by rw [List.mem_range]; exact hi)

set_option maxRecDepth 100000 in
theorem tab : (List.range 13).all (fun i => (List.range 5).all fun a => (List.range 5).all fun b => laws_FnExactEverRuined.f 80 (i : Int) ((a : Int) + 1) ((b : Int) + 2) == some true) = true := by decide +kernel
theorem FnExactEverRuined : ∀ (a0 : Int) (a1_0 : Int) (a1_1 : Int), (Lit.int .i64 a0).wf = true → (Lit.int .i64 a1_0).wf = true → (Lit.int .i64 a1_1).wf = true → ∃ k, laws_FnExactEverRuined.f k a0 a1_0 a1_1 = some true := by
  intro i a b wi wa wb
  by_cases h : (0 ≤ i ∧ i ≤ 12) ∧ chB a b = true
  · have bd := chB_bd h.2
    refine ⟨80, ?_⟩
    have t := look1 (look1 (look1 tab i.toNat (by omega)) (a - 1).toNat (by omega)) (b - 2).toNat (by omega)
    rw [show (i.toNat : Int) = i by omega, show (((a - 1).toNat : Int) + 1) = a by omega, show (((b - 2).toNat : Int) + 2) = b by omega] at t
    exact eq_of_beq t
  · refine ⟨1000000001, ?_⟩
    have hs : spec_EverRuined.f 1000000001 i a b = some (0, 0, false) := by
      unfold spec_EverRuined.f
      simp only [l1In_eq, Option.bind_some, spec_ch]
      by_cases hi : 0 ≤ i ∧ i ≤ 12
      · have hc : chB a b = false := by cases hc : chB a b <;> simp_all
        rw [hc]; simp [hi] <;> rfl
      · simp [hi] <;> rfl
    have hm : impl_EverRuined.f 1000000001 i a b = some (0, 0, false) := by
      unfold impl_EverRuined.f
      simp only [in_eq, Option.bind_some, impl_ch]
      by_cases hi : 0 ≤ i ∧ i ≤ 12
      · have hc : chB a b = false := by cases hc : chB a b <;> simp_all
        rw [hc]; simp [hi] <;> rfl
      · simp [hi] <;> rfl
    unfold laws_FnExactEverRuined.f laws_toRatio.f laws_eqRatio.f
    simp only [Option.bind_some]
    rw [hs, hm]
    rfl
end Go.Proofs.Ytcaineapegpoeaa.Pure
