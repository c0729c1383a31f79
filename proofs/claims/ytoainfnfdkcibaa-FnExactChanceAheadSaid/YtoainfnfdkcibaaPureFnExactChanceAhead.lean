/- The chance always to be ahead: both count by one quotient over the ways to choose, the reference by Pascal's rule and the program by products, and bring it to lowest terms. No condition. -/
import Derived.Test.YtoainfnfdkcibaaPFnExactChanceAheadx3
namespace Go.Proofs.Ytoainfnfdkcibaa.Pure
open Go.RowKit Go.Proofs.Ytoainfnfdkcibaa.PFnExactChanceAhead Go.Proofs.YtoainfnfdkcibaaW.PrintWords Go.Proofs.YtoainfnfdkcibaaW.PrintLast
set_option linter.unusedVariables false
set_option linter.unusedSimpArgs false
theorem w64 {n : Int} (h0 : -9223372036854775808 ≤ n) (h1 : n ≤ 9223372036854775807) : wrap64 n = n := by unfold wrap64; omega
theorem wf_bd {n : Int} (h : (Lit.int .i64 n).wf = true) : -9223372036854775808 ≤ n ∧ n ≤ 9223372036854775807 := by
  unfold Lit.wf at h
  rw [Bool.and_eq_true] at h
  exact ⟨of_decide_eq_true h.1, of_decide_eq_true h.2⟩

theorem in_eq (a b c : Int) : impl_in.f a b c = some (decide (b ≤ a ∧ a ≤ c)) := by
  unfold impl_in.f
  by_cases h1 : b ≤ a <;> by_cases h2 : a ≤ c <;> simp [h1, h2]
theorem l1In_eq (a b c : Int) : spec_l1In.f a b c = some (decide (b ≤ a ∧ a ≤ c)) := by
  unfold spec_l1In.f
  by_cases h1 : b ≤ a <;> by_cases h2 : a ≤ c <;> simp [h1, h2]

/- How many ways there are to choose, by Pascal's rule; the product's rule; both programs come to it. -/
def C : Nat → Nat → Nat
  | _, 0 => 1
  | 0, _ + 1 => 0
  | n + 1, k + 1 => C n k + C n (k + 1)
theorem C_0 (n : Nat) : C n 0 = 1 := by cases n <;> rfl
theorem C_far : ∀ (n k : Nat), n < k → C n k = 0
  | 0, 0, h => by omega
  | 0, k + 1, _ => rfl
  | n + 1, 0, h => by omega
  | n + 1, k + 1, h => by simp only [C]; rw [C_far n k (by omega), C_far n (k + 1) (by omega)]
theorem C_mul : ∀ (n k : Nat), C n (k + 1) * (k + 1) = C n k * (n - k)
  | 0, k => by simp [C]
  | n + 1, 0 => by
    have := C_mul n 0
    simp only [C, C_0] at this ⊢
    omega
  | n + 1, k + 1 => by
    have h1 := C_mul n (k + 1)
    have h2 := C_mul n k
    simp only [C]
    by_cases h : k + 1 ≤ n
    · rw [Nat.add_mul, Nat.add_mul, h1, show n + 1 - (k + 1) = n - k by omega, ← h2, ← Nat.mul_add, ← Nat.mul_add]
      congr 1; omega
    · rw [C_far n (k + 1) (by omega), C_far n (k + 1 + 1) (by omega), show n + 1 - (k + 1) = 0 by omega]; simp
theorem C_self : ∀ n : Nat, C n n = 1
  | 0 => rfl
  | n + 1 => by simp only [C]; rw [C_self n, C_far n (n + 1) (by omega)]
theorem C_sym : ∀ (n a b : Nat), a + b = n → C n a = C n b
  | 0, a, b, h => by obtain rfl : a = 0 := by omega
                     obtain rfl : b = 0 := by omega
                     rfl
  | n + 1, 0, b, h => by obtain rfl : b = n + 1 := by omega
                         rw [C_0, C_self]
  | n + 1, a + 1, 0, h => by obtain rfl : a = n := by omega
                             rw [C_0, C_self]
  | n + 1, a + 1, b + 1, h => by
    simp only [C]
    rw [C_sym n a (b + 1) (by omega), C_sym n (a + 1) b (by omega), Nat.add_comm]
theorem C_le : ∀ (n k : Nat), C n k ≤ 2 ^ n
  | 0, 0 => by decide
  | 0, k + 1 => by simp [C]
  | n + 1, 0 => by rw [C_0]; exact Nat.one_le_two_pow
  | n + 1, k + 1 => by
    have h1 := C_le n k; have h2 := C_le n (k + 1)
    simp only [C]; rw [Nat.pow_succ]; omega
theorem C_pos (n k : Nat) (h : k ≤ n) : 0 < C n k := by
  induction n generalizing k with
  | zero => obtain rfl : k = 0 := by omega
            decide
  | succ n ih =>
    cases k with
    | zero => rw [C_0]; omega
    | succ k => simp only [C]; have := ih k (by omega); omega
theorem C_bd {n k : Nat} (h : n ≤ 40) : C n k ≤ 1099511627776 := by
  have h1 := C_le n k
  have h2 : 2 ^ n ≤ 2 ^ 40 := Nat.pow_le_pow_right (by omega) h
  have h3 : (2 : Nat) ^ 40 = 1099511627776 := by decide
  omega
theorem wadd1 (n : Nat) (h : n ≤ 1000000) : wrap64 ((n : Int) + 1) = ((n + 1 : Nat) : Int) := by rw [w64 (by omega) (by omega)]; omega
theorem wsub1 (n : Nat) (h1 : 1 ≤ n) (h : n ≤ 1000000) : wrap64 ((n : Int) - 1) = ((n - 1 : Nat) : Int) := by rw [w64 (by omega) (by omega)]; omega
theorem wsubn (n i : Nat) (h1 : i ≤ n) (h : n ≤ 1000000) : wrap64 ((n : Int) - (i : Int)) = ((n - i : Nat) : Int) := by rw [w64 (by omega) (by omega)]; omega
theorem wmuln (x y : Nat) (h : x * y ≤ 1000000000000000) : wrap64 ((x : Int) * (y : Int)) = ((x * y : Nat) : Int) := by rw [← Int.natCast_mul, w64 (by omega) (by omega)]
theorem waddn (x y : Nat) (h : x + y ≤ 1000000000000000) : wrap64 ((x : Int) + (y : Int)) = ((x + y : Nat) : Int) := by rw [w64 (by omega) (by omega)]; omega
theorem wdiv (x q d : Nat) (hd : 0 < d) (h : q * d = x) (hq : q ≤ 1000000000000000) : wrap64 (Int.tdiv (x : Int) (d : Int)) = (q : Int) := by
  rw [← h, Int.natCast_mul, Int.mul_tdiv_cancel _ (by omega)]
  exact w64 (by omega) (by omega)
theorem impl_choose_l0 {n K : Nat} (hn : n ≤ 40) (hK : K ≤ n) : ∀ (d i k : Nat), i + d = K → d < k → impl_choose.l0 k (n : Int) ((C n i : Nat) : Int) (K : Int) (i : Int) = some ((C n K : Nat) : Int) := by
  intro d
  induction d with
  | zero =>
    intro i k hd hk
    obtain ⟨k, rfl⟩ : ∃ m, k = m + 1 := ⟨k - 1, by omega⟩
    rw [impl_choose.l0.eq_2, if_neg (by omega), show i = K by omega]
  | succ d ih =>
    intro i k hd hk
    obtain ⟨k, rfl⟩ : ∃ m, k = m + 1 := ⟨k - 1, by omega⟩
    have hb := C_bd (n := n) (k := i) hn
    have hm := C_mul n i
    have hb1 : C n i * (n - i) ≤ 1099511627776 * 40 := Nat.mul_le_mul hb (by omega)
    have hb2 := C_bd (n := n) (k := i + 1) hn
    rw [impl_choose.l0.eq_2, if_pos (by omega), wadd1 i (by omega), if_neg (by omega), wsubn n i (by omega) (by omega), wmuln _ _ (by omega), wdiv _ _ _ (by omega) hm (by omega)]
    exact ih (i + 1) k (by omega) (by omega)
theorem impl_choose_run {n K : Nat} (hn : n ≤ 40) (hK : K ≤ n) {k : Nat} (hk : 50 ≤ k) : impl_choose.f k (n : Int) (K : Int) = some ((C n K : Nat) : Int) := by
  unfold impl_choose.f
  rw [in_eq, Option.bind_some, decide_eq_true (by omega), if_pos rfl]
  have := impl_choose_l0 hn hK K 0 k (by omega) (by omega)
  rw [C_0] at this
  exact this
/- the reference's row -/
def Rw (K i j : Nat) : List Int := (List.range (K + 1)).map fun t => if t ≤ j then ((C (i - 1) t : Nat) : Int) else ((C i t : Nat) : Int)
theorem Rw_len (K i j : Nat) : (Rw K i j).length = K + 1 := by simp [Rw]
theorem Rw_get {K i j t : Nat} (h : t ≤ K) : rd (Rw K i j) (t : Int) = if t ≤ j then ((C (i - 1) t : Nat) : Int) else ((C i t : Nat) : Int) := by
  unfold rd Rw
  rw [Int.toNat_natCast, List.getD_eq_getElem?_getD, List.getElem?_map, List.getElem?_range (by omega)]
  rfl
theorem Rw_step {K i j : Nat} (hj : j + 1 ≤ K) (hi : 1 ≤ i) : (Rw K i (j + 1)).set (j + 1) ((C i (j + 1) : Nat) : Int) = Rw K i j := by
  apply List.ext_getElem
  · simp [Rw]
  · intro t h1 h2
    simp only [Rw, List.length_map, List.length_range] at h2
    by_cases e : t = j + 1
    · subst e
      rw [List.getElem_set_self]
      simp only [Rw, List.getElem_map, List.getElem_range]
      rw [if_neg (by omega)]
    · rw [List.getElem_set_ne (by omega)]
      simp only [Rw, List.getElem_map, List.getElem_range]
      by_cases e2 : t ≤ j
      · rw [if_pos (by omega), if_pos e2]
      · rw [if_neg (by omega), if_neg e2]
theorem Rw_next (K i : Nat) : Rw K i 0 = Rw K (i + 1) (K + (i + 1)) := by
  apply List.ext_getElem
  · simp [Rw]
  · intro t h1 h2
    simp only [Rw, List.length_map, List.length_range] at h2
    simp only [Rw, List.getElem_map, List.getElem_range]
    rw [if_pos (show t ≤ K + (i + 1) by omega), show i + 1 - 1 = i from rfl]
    by_cases e : t ≤ 0
    · obtain rfl : t = 0 := by omega
      rw [if_pos e, C_0, C_0]
    · rw [if_neg e]
theorem Rw_cut (K i : Nat) (hi : 1 ≤ i) {j : Nat} (h : K ≤ j ∨ i ≤ j) : Rw K i (K + i) = Rw K i j := by
  apply List.ext_getElem
  · simp [Rw]
  · intro t h1 h2
    simp only [Rw, List.length_map, List.length_range] at h2
    simp only [Rw, List.getElem_map, List.getElem_range]
    rw [if_pos (by omega)]
    by_cases e : t ≤ j
    · rw [if_pos e]
    · rw [if_neg e, C_far i t (by omega), C_far (i - 1) t (by omega)]
theorem spec_l1_run {n K i : Nat} (hn : n ≤ 40) (hi : 1 ≤ i) (hi' : i ≤ n) : ∀ (j k : Nat), j ≤ K → K ≤ 40 → spec_paChoose.l1 (k + j + 1) (n : Int) (K : Int) (Rw K i j) (i : Int) (j : Int) = spec_paChoose.l0 k (n : Int) (K : Int) (Rw K i 0) ((i + 1 : Nat) : Int) := by
  intro j
  induction j with
  | zero =>
    intro k _ _
    rw [show k + 0 + 1 = k + 1 from rfl, spec_paChoose.l1.eq_2, if_neg (by omega), wadd1 i (by omega)]
  | succ j ih =>
    intro k hj hK
    have b1 := C_bd (n := i - 1) (k := j + 1) (by omega)
    have b2 := C_bd (n := i - 1) (k := j) (by omega)
    have hl := Rw_len K i (j + 1)
    have hC : C (i - 1) (j + 1) + C (i - 1) j = C i (j + 1) := by
      obtain ⟨q, rfl⟩ : ∃ q, i = q + 1 := ⟨i - 1, by omega⟩
      rw [Nat.add_comm]; rfl
    rw [show k + (j + 1) + 1 = (k + j + 1) + 1 from rfl, spec_paChoose.l1.eq_2, if_pos (by omega), if_pos (by omega), if_pos (by omega), wsub1 (j + 1) (by omega) (by omega), if_pos (by omega), if_pos (by omega), show j + 1 - 1 = j from rfl,
      Rw_get (by omega), Rw_get (by omega), if_pos (by omega), if_pos (by omega), waddn _ _ (by omega), hC, Int.toNat_natCast, Rw_step (by omega) hi]
    exact ih k (by omega) hK
theorem spec_l0_run {n K : Nat} (hn : n ≤ 40) (hK : K ≤ n) : ∀ (d i k : Nat), 1 ≤ i → i + d = n + 1 → d * (K + 3) < k → spec_paChoose.l0 k (n : Int) (K : Int) (Rw K i (K + i)) (i : Int) = some ((C n K : Nat) : Int) := by
  intro d
  induction d with
  | zero =>
    intro i k hi hd hk
    obtain ⟨k, rfl⟩ : ∃ m, k = m + 1 := ⟨k - 1, by omega⟩
    have hl := Rw_len K i (K + i)
    rw [spec_paChoose.l0.eq_2, if_neg (by omega), if_pos (by omega), if_pos (by omega), Rw_get (by omega), if_pos (by omega), show i - 1 = n by omega]
  | succ d ih =>
    intro i k hi hd hk
    obtain ⟨k, rfl⟩ : ∃ m, k = m + 1 := ⟨k - 1, by omega⟩
    rw [Nat.add_mul] at hk
    have hl1 : spec_l1Least.f (i : Int) (K : Int) = some ((min i K : Nat) : Int) := by
      unfold spec_l1Least.f
      by_cases h : (i : Int) < K
      · rw [if_pos h, Nat.min_eq_left (by omega)]
      · rw [if_neg h, Nat.min_eq_right (by omega)]
    rw [spec_paChoose.l0.eq_2, if_pos (by omega), hl1, Option.bind_some, Rw_cut K i hi (j := min i K) (by omega)]
    have hmin : min i K ≤ K := Nat.min_le_right _ _
    obtain ⟨q, rfl⟩ : ∃ q, k = q + min i K + 1 := ⟨k - (min i K + 1), by omega⟩
    rw [spec_l1_run hn hi (by omega) (min i K) q hmin (by omega), Rw_next]
    exact ih (i + 1) q (by omega) (by omega) (by omega)
theorem spec_choose_run {n K : Nat} (hn : n ≤ 40) (hK : K ≤ n) {k : Nat} (hk : 2000 ≤ k) : spec_paChoose.f k (n : Int) (K : Int) = some ((C n K : Nat) : Int) := by
  obtain ⟨k, rfl⟩ : ∃ m, k = m + 1 := ⟨k - 1, by omega⟩
  have er : (List.replicate (K + 1) (0 : Int)).set 0 1 = Rw K 1 (K + 1) := by
    apply List.ext_getElem
    · simp [Rw]
    · intro t h1 h2
      simp only [Rw, List.length_map, List.length_range] at h2
      simp only [Rw, List.getElem_map, List.getElem_range]
      rw [if_pos (by omega)]
      by_cases ht : t = 0
      · subst ht; simp [C]
      · rw [List.getElem_set_ne (by omega)]
        obtain ⟨q, rfl⟩ : ∃ q, t = q + 1 := ⟨t - 1, by omega⟩
        simp [C]
  have hf : n * (K + 3) ≤ 1720 := by
    have := Nat.mul_le_mul hn (show K + 3 ≤ 43 by omega)
    omega
  have := spec_l0_run hn hK n 1 k (by omega) (by omega) (by omega)
  unfold spec_paChoose.f
  rw [if_neg (by omega), decide_eq_false (by omega), spec_paChoose.j0.eq_2, if_neg (by decide), wadd1 K (by omega), if_pos (by omega), if_pos (by omega), Int.toNat_natCast, Option.bind_some, if_pos (by rw [List.length_replicate]; omega), show ((0 : Int)).toNat = 0 from rfl, er]
  exact this

theorem tmod_nat (a b : Nat) : Int.tmod (a : Int) (b : Int) = ((a % b : Nat) : Int) := by
  rw [Int.tmod_eq_emod_of_nonneg (by omega)]; omega
theorem gcd_run : ∀ (n k a b : Nat), b ≤ n → n < k → impl_gcd.l0 k (a : Int) (b : Int) = some ((Nat.gcd a b : Nat) : Int) := by
  intro n
  induction n with
  | zero =>
    intro k a b hb hk
    obtain ⟨k, rfl⟩ : ∃ m, k = m + 1 := ⟨k - 1, by omega⟩
    obtain rfl : b = 0 := by omega
    simp [impl_gcd.l0]
  | succ n ih =>
    intro k a b hb hk
    obtain ⟨k, rfl⟩ : ∃ m, k = m + 1 := ⟨k - 1, by omega⟩
    simp only [impl_gcd.l0]
    by_cases h0 : b = 0
    · subst h0; simp
    · rw [if_neg (by omega), tmod_nat]
      have hlt : a % b < b := Nat.mod_lt _ (by omega)
      rw [ih k b (a % b) (by omega) (by omega)]
      congr 1; congr 1
      rw [Nat.gcd_comm a b, Nat.gcd_rec b a, Nat.gcd_comm]

theorem tmod_nat' (a b : Nat) : Int.tmod (a : Int) (b : Int) = ((a % b : Nat) : Int) := by
  rw [Int.tmod_eq_emod_of_nonneg (by omega)]; omega
theorem ruRatio_l0 : ∀ (n k : Nat) (x0 x1 : Int) (a b : Nat), b ≤ n → n < k → 0 < Nat.gcd a b →
    spec_ruRatio.l0 k x0 x1 (a : Int) (b : Int) = some (wrap64 (Int.tdiv x0 (Nat.gcd a b : Nat)), wrap64 (Int.tdiv x1 (Nat.gcd a b : Nat))) := by
  intro n
  induction n with
  | zero =>
    intro k x0 x1 a b hb hk hg
    obtain ⟨k, rfl⟩ : ∃ m, k = m + 1 := ⟨k - 1, by omega⟩
    obtain rfl : b = 0 := by omega
    simp only [Nat.gcd_zero_right] at hg ⊢
    simp only [spec_ruRatio.l0]
    rw [if_neg (by omega), if_neg (by omega)]
  | succ n ih =>
    intro k x0 x1 a b hb hk hg
    obtain ⟨k, rfl⟩ : ∃ m, k = m + 1 := ⟨k - 1, by omega⟩
    simp only [spec_ruRatio.l0]
    by_cases h0 : b = 0
    · subst h0
      simp only [Nat.gcd_zero_right] at hg ⊢
      rw [if_neg (by omega), if_neg (by omega)]
    · rw [if_pos (by omega), if_neg (by omega), tmod_nat']
      have hlt : a % b < b := Nat.mod_lt _ (by omega)
      have e : Nat.gcd a b = Nat.gcd b (a % b) := by rw [Nat.gcd_comm a b, Nat.gcd_rec b a, Nat.gcd_comm]
      rw [e] at hg ⊢
      exact ih k x0 x1 b (a % b) (by omega) (by omega) hg
theorem tdiv_bd (x : Int) (g : Nat) (h : -9223372036854775807 ≤ x) (h' : x ≤ 9223372036854775807) : wrap64 (Int.tdiv x (g : Int)) = Int.tdiv x (g : Int) := by
  have := Int.natAbs_tdiv_le_natAbs x (g : Int)
  exact w64 (by omega) (by omega)
/-- A fraction in lowest terms, by the reference: num of either sign, den at least 1. -/
theorem ruRatio_run (k : Nat) (num : Int) (den : Nat) (h : -9223372036854775807 ≤ num) (h' : num ≤ 9223372036854775807) (hd : 0 < den) (hd' : (den : Int) ≤ 9223372036854775807) (hk : den < k) :
    spec_ruRatio.f k num (den : Int) = some (Int.tdiv num (Nat.gcd num.natAbs den : Nat), Int.tdiv (den : Int) (Nat.gcd num.natAbs den : Nat)) := by
  unfold spec_ruRatio.f spec_l1Abs.f spec_l1Most.f
  rw [w64 (n := -num) (by omega) (by omega)]
  have e : (if num > -num then some num else some (-num)) = some ((num.natAbs : Nat) : Int) := by
    by_cases hp : num > -num
    · rw [if_pos hp]; congr 1; omega
    · rw [if_neg hp]; congr 1; omega
  rw [e]
  simp only [Option.bind_some]
  rw [ruRatio_l0 den k num (den : Int) num.natAbs den (Nat.le_refl _) hk (Nat.gcd_pos_of_pos_right _ hd), tdiv_bd _ _ h h', tdiv_bd _ _ (by omega) hd']

theorem mx_abs (a : Int) : mx a (-a) = ((a.natAbs : Nat) : Int) := by
  unfold mx
  by_cases h : a < -a
  · rw [if_pos h]; omega
  · rw [if_neg h]; omega
/-- A fraction in lowest terms, by the program: num of either sign, den at least 1. -/
theorem ratio_run (k : Nat) (num : Int) (den : Nat) (h : -9223372036854775807 ≤ num) (h' : num ≤ 9223372036854775807) (hd : 0 < den) (hd' : (den : Int) ≤ 9223372036854775807) (hk : den < k) :
    impl_ratio.f k num (den : Int) = some (Int.tdiv num (Nat.gcd num.natAbs den : Nat), Int.tdiv (den : Int) (Nat.gcd num.natAbs den : Nat)) := by
  unfold impl_ratio.f impl_gcd.f
  have hg := Nat.gcd_pos_of_pos_right num.natAbs hd
  rw [w64 (n := -num) (by omega) (by omega), w64 (n := -(den : Int)) (by omega) (by omega), mx_abs, mx_abs, Int.natAbs_natCast, gcd_run den k num.natAbs den (Nat.le_refl _) hk]
  simp only [Option.bind_some]
  rw [if_neg (by omega), if_neg (by omega), tdiv_bd _ _ h h', tdiv_bd _ _ (by omega) hd']

theorem spec_votes (a b k : Int) : spec_baNumbers.f a b k = some (decide ((0 ≤ a ∧ 0 ≤ b ∧ a + b ≤ 40) ∧ 1 ≤ k ∧ k ≤ 5)) := by
  unfold spec_baNumbers.f spec_paSteps.f
  simp only [l1In_eq]
  by_cases ha : 0 ≤ a ∧ a ≤ 40
  · rw [decide_eq_true ha, Option.bind_some, if_pos rfl]
    by_cases hb : 0 ≤ b ∧ b ≤ 40
    · rw [decide_eq_true hb, Option.bind_some, if_pos rfl, w64 (by omega) (by omega), Option.bind_some]
      by_cases hs : a + b ≤ 40
      · rw [decide_eq_true hs, if_pos rfl, Option.bind_some]; congr 1; rw [decide_eq_decide]; omega
      · rw [decide_eq_false hs, if_neg (by decide)]; congr 1; symm; apply decide_eq_false; omega
    · rw [decide_eq_false hb, Option.bind_some, if_neg (by decide), Option.bind_some, if_neg (by decide)]; congr 1; symm; apply decide_eq_false; omega
  · rw [decide_eq_false ha, Option.bind_some, if_neg (by decide), Option.bind_some, if_neg (by decide)]; congr 1; symm; apply decide_eq_false; omega
theorem impl_votes (a b k : Int) : impl_areVotes.f a b k = some (decide ((0 ≤ a ∧ 0 ≤ b ∧ a + b ≤ 40) ∧ 1 ≤ k ∧ k ≤ 5)) := by
  unfold impl_areVotes.f impl_areSteps.f
  simp only [in_eq]
  by_cases ha : 0 ≤ a ∧ a ≤ 40
  · rw [decide_eq_true ha, Option.bind_some, if_pos rfl]
    by_cases hb : 0 ≤ b ∧ b ≤ 40
    · rw [decide_eq_true hb, Option.bind_some, if_pos rfl, w64 (by omega) (by omega), Option.bind_some]
      by_cases hs : a + b ≤ 40
      · rw [decide_eq_true hs, if_pos rfl, Option.bind_some]; congr 1; rw [decide_eq_decide]; omega
      · rw [decide_eq_false hs, if_neg (by decide)]; congr 1; symm; apply decide_eq_false; omega
    · rw [decide_eq_false hb, Option.bind_some, if_neg (by decide), Option.bind_some, if_neg (by decide)]; congr 1; symm; apply decide_eq_false; omega
  · rw [decide_eq_false ha, Option.bind_some, if_neg (by decide), Option.bind_some, if_neg (by decide)]; congr 1; symm; apply decide_eq_false; omega
theorem wmulz {x y : Nat} (hx : x ≤ 1000) (hy : y ≤ 1000) : wrap64 ((x : Int) * (y : Int)) = ((x * y : Nat) : Int) ∧ x * y ≤ 1000000 := by
  have := Nat.mul_le_mul hx hy
  exact ⟨wmuln x y (by omega), this⟩
/-- A quotient of a number of ways is brought to lowest terms alike. -/
theorem same_frac {x c : Nat} (hc : 0 < c) (hx : x ≤ 1000000000000000) (hc' : c ≤ 1000000000000000) {k : Nat} (hk : 1000000000000001 ≤ k) :
    ∃ r, spec_ruRatio.f k (x : Int) (c : Int) = some r ∧ impl_ratio.f k (x : Int) (c : Int) = some r :=
  ⟨_, ruRatio_run k x c (by omega) (by omega) (by omega) (by omega) (by omega), ratio_run k x c (by omega) (by omega) (by omega) (by omega) (by omega)⟩

theorem never_run {a b k : Nat} (h : a + b ≤ 40) (hk : k ≤ 5) {K : Nat} (hK : 2000 ≤ K) : ∃ x : Nat, x ≤ 1000000000000000 ∧ spec_baAhead.f K (a : Int) (b : Int) (k : Int) = some (x : Int) ∧ impl_ahead.f K (a : Int) (b : Int) (k : Int) = some (x : Int) := by
  have hm := wmulz (x := k) (y := b) (by omega) (by omega)
  unfold spec_baAhead.f impl_ahead.f
  rw [hm.1, waddn a b (by omega)]
  have hm2 := hm.2
  clear hm
  by_cases h0 : ((a + b : Nat) : Int) = 0
  · rw [if_pos h0, if_pos h0]; exact ⟨1, by omega, rfl, rfl⟩
  · rw [if_neg h0, if_neg h0]
    by_cases hlt : (a : Int) < ((k * b : Nat) : Int)
    · rw [if_pos hlt, if_pos hlt]; exact ⟨0, by omega, rfl, rfl⟩
    · rw [if_neg hlt, if_neg hlt, spec_choose_run (by omega) (by omega) hK, impl_choose_run (by omega) (by omega) (by omega), Option.bind_some, Option.bind_some,
        wsubn a (k * b) (by omega) (by omega), C_sym (a + b) b a (by omega)]
      have hc := C_bd (n := a + b) (k := a) h
      have hb : C (a + b) a * (a - k * b) ≤ 1099511627776 * 40 := Nat.mul_le_mul hc (by omega)
      rw [wmuln _ _ (by omega), wmuln (a - k * b) _ (by rw [Nat.mul_comm]; omega), Nat.mul_comm (a - k * b)]
      generalize C (a + b) a * (a - k * b) = y at hb
      have hq : y / (a + b) ≤ y := Nat.div_le_self _ _
      have e : Int.tdiv (y : Int) ((a + b : Nat) : Int) = ((y / (a + b) : Nat) : Int) := by rw [Int.tdiv_eq_ediv_of_nonneg (by omega), Int.natCast_ediv]
      rw [e]; clear e; generalize y / (a + b) = q at hq; rw [w64 (by omega) (by omega)]
      exact ⟨q, by omega, rfl, rfl⟩
theorem FnExactChanceAhead : laws_FnExactChanceAhead.Pure := by
  intro a b k _ _ _
  obtain ⟨K, hK⟩ : ∃ K : Nat, 1000000000000001 ≤ K := ⟨1000000000000001, Nat.le_refl _⟩
  refine ⟨K, ?_⟩
  unfold laws_FnExactChanceAhead.f laws_eqRatio.f
  by_cases h : (0 ≤ a ∧ 0 ≤ b ∧ a + b ≤ 40) ∧ 1 ≤ k ∧ k ≤ 5
  · obtain ⟨a, rfl⟩ : ∃ m : Nat, a = (m : Int) := ⟨a.toNat, by omega⟩
    obtain ⟨b, rfl⟩ : ∃ m : Nat, b = (m : Int) := ⟨b.toNat, by omega⟩
    obtain ⟨k, rfl⟩ : ∃ m : Nat, k = (m : Int) := ⟨k.toNat, by omega⟩
    obtain ⟨x, hx, hs, hm⟩ := never_run (a := a) (b := b) (k := k) (by omega) (by omega) (K := K) (by omega)
    have hc := C_bd (n := a + b) (k := a) (by omega)
    have hc0 := C_pos (a + b) a (by omega)
    obtain ⟨r, hr, hr'⟩ := same_frac (x := x) (c := C (a + b) a) hc0 hx (by omega) hK
    have e1 : spec_ChanceAhead.f K (a : Int) (b : Int) (k : Int) = some (r.1, r.2, true) := by
      unfold spec_ChanceAhead.f
      rw [spec_votes, decide_eq_true h, Option.bind_some, if_pos rfl, hs, Option.bind_some, waddn a b (by omega), spec_choose_run (by omega) (by omega) (by omega), Option.bind_some, hr, Option.bind_some]
    have e2 : impl_ChanceAhead.f K (a : Int) (b : Int) (k : Int) = some (r.1, r.2, true) := by
      unfold impl_ChanceAhead.f
      rw [impl_votes, decide_eq_true h, Option.bind_some, if_pos rfl, hm, Option.bind_some, waddn a b (by omega), impl_choose_run (by omega) (by omega) (by omega), Option.bind_some, C_sym (a + b) b a (by omega), hr', Option.bind_some]
    rw [e1, Option.bind_some, e2, Option.bind_some]
    simp
  · have e1 : spec_ChanceAhead.f K a b k = some (0, 0, false) := by
      unfold spec_ChanceAhead.f
      rw [spec_votes, decide_eq_false h, Option.bind_some, if_neg (by decide)]
    have e2 : impl_ChanceAhead.f K a b k = some (0, 0, false) := by
      unfold impl_ChanceAhead.f
      rw [impl_votes, decide_eq_false h, Option.bind_some, if_neg (by decide)]
    rw [e1, Option.bind_some, e2, Option.bind_some]
    simp
end Go.Proofs.Ytoainfnfdkcibaa.Pure
