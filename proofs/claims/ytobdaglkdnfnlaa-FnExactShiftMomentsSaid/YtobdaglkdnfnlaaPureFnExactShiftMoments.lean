/- Moments shifted: both sides add the same products in the same order. No condition. -/
import Derived.Test.YtobdaglkdnfnlaaOFnExactShiftMomentsx4
namespace Go.Proofs.Ytobdaglkdnfnlaa.Pure
open Go.RowKit Go.Proofs.Ytobdaglkdnfnlaa.Stub Go.Proofs.Ytobdaglkdnfnlaa.OFnExactShiftMoments Go.Proofs.YtobdaglkdnfnlaaW.PrintWords Go.Proofs.YtobdaglkdnfnlaaW.PrintLast
set_option linter.unusedVariables false
set_option linter.unusedSimpArgs false
theorem w64 {n : Int} (h0 : -9223372036854775808 ≤ n) (h1 : n ≤ 9223372036854775807) : wrap64 n = n := by unfold wrap64; omega
theorem wf_bd {n : Int} (h : (Lit.int .i64 n).wf = true) : -9223372036854775808 ≤ n ∧ n ≤ 9223372036854775807 := by
  unfold Lit.wf at h
  rw [Bool.and_eq_true] at h
  exact ⟨of_decide_eq_true h.1, of_decide_eq_true h.2⟩

theorem in_eq (a b c : Int) : impl_in.f a b c = some (decide (b ≤ a ∧ a ≤ c)) := by
  unfold impl_in.f
  by_cases h1 : b ≤ a <;> by_cases h2 : a ≤ c <;> simp [h1, h2]
theorem l1In_eq (a b c : Int) : spec_l1In.f a b c = some (decide (b ≤ a ∧ a ≤ c)) := by
  unfold spec_l1In.f
  by_cases h1 : b ≤ a <;> by_cases h2 : a ≤ c <;> simp [h1, h2]

/- How many ways there are to choose, by Pascal's rule; the product's rule; both programs come to it. -/
def C : Nat → Nat → Nat
  | _, 0 => 1
  | 0, _ + 1 => 0
  | n + 1, k + 1 => C n k + C n (k + 1)
theorem C_0 (n : Nat) : C n 0 = 1 := by cases n <;> rfl
theorem C_far : ∀ (n k : Nat), n < k → C n k = 0
  | 0, 0, h => by omega
  | 0, k + 1, _ => rfl
  | n + 1, 0, h => by omega
  | n + 1, k + 1, h => by simp only [C]; rw [C_far n k (by omega), C_far n (k + 1) (by omega)]
theorem C_mul : ∀ (n k : Nat), C n (k + 1) * (k + 1) = C n k * (n - k)
  | 0, k => by simp [C]
  | n + 1, 0 => by
    have := C_mul n 0
    simp only [C, C_0] at this ⊢
    omega
  | n + 1, k + 1 => by
    have h1 := C_mul n (k + 1)
    have h2 := C_mul n k
    simp only [C]
    by_cases h : k + 1 ≤ n
    · rw [Nat.add_mul, Nat.add_mul, h1, show n + 1 - (k + 1) = n - k by omega, ← h2, ← Nat.mul_add, ← Nat.mul_add]
      congr 1; omega
    · rw [C_far n (k + 1) (by omega), C_far n (k + 1 + 1) (by omega), show n + 1 - (k + 1) = 0 by omega]; simp
theorem C_self : ∀ n : Nat, C n n = 1
  | 0 => rfl
  | n + 1 => by simp only [C]; rw [C_self n, C_far n (n + 1) (by omega)]
theorem C_sym : ∀ (n a b : Nat), a + b = n → C n a = C n b
  | 0, a, b, h => by obtain rfl : a = 0 := by omega
                     obtain rfl : b = 0 := by omega
                     rfl
  | n + 1, 0, b, h => by obtain rfl : b = n + 1 := by omega
                         rw [C_0, C_self]
  | n + 1, a + 1, 0, h => by obtain rfl : a = n := by omega
                             rw [C_0, C_self]
  | n + 1, a + 1, b + 1, h => by
    simp only [C]
    rw [C_sym n a (b + 1) (by omega), C_sym n (a + 1) b (by omega), Nat.add_comm]
theorem C_le : ∀ (n k : Nat), C n k ≤ 2 ^ n
  | 0, 0 => by decide
  | 0, k + 1 => by simp [C]
  | n + 1, 0 => by rw [C_0]; exact Nat.one_le_two_pow
  | n + 1, k + 1 => by
    have h1 := C_le n k; have h2 := C_le n (k + 1)
    simp only [C]; rw [Nat.pow_succ]; omega
theorem C_pos (n k : Nat) (h : k ≤ n) : 0 < C n k := by
  induction n generalizing k with
  | zero => obtain rfl : k = 0 := by omega
            decide
  | succ n ih =>
    cases k with
    | zero => rw [C_0]; omega
    | succ k => simp only [C]; have := ih k (by omega); omega
theorem C_bd {n k : Nat} (h : n ≤ 40) : C n k ≤ 1099511627776 := by
  have h1 := C_le n k
  have h2 : 2 ^ n ≤ 2 ^ 40 := Nat.pow_le_pow_right (by omega) h
  have h3 : (2 : Nat) ^ 40 = 1099511627776 := by decide
  omega
theorem wadd1 (n : Nat) (h : n ≤ 1000000) : wrap64 ((n : Int) + 1) = ((n + 1 : Nat) : Int) := by rw [w64 (by omega) (by omega)]; omega
theorem wsub1 (n : Nat) (h1 : 1 ≤ n) (h : n ≤ 1000000) : wrap64 ((n : Int) - 1) = ((n - 1 : Nat) : Int) := by rw [w64 (by omega) (by omega)]; omega
theorem wsubn (n i : Nat) (h1 : i ≤ n) (h : n ≤ 1000000) : wrap64 ((n : Int) - (i : Int)) = ((n - i : Nat) : Int) := by rw [w64 (by omega) (by omega)]; omega
theorem wmuln (x y : Nat) (h : x * y ≤ 1000000000000000) : wrap64 ((x : Int) * (y : Int)) = ((x * y : Nat) : Int) := by rw [← Int.natCast_mul, w64 (by omega) (by omega)]
theorem waddn (x y : Nat) (h : x + y ≤ 1000000000000000) : wrap64 ((x : Int) + (y : Int)) = ((x + y : Nat) : Int) := by rw [w64 (by omega) (by omega)]; omega
theorem wdiv (x q d : Nat) (hd : 0 < d) (h : q * d = x) (hq : q ≤ 1000000000000000) : wrap64 (Int.tdiv (x : Int) (d : Int)) = (q : Int) := by
  rw [← h, Int.natCast_mul, Int.mul_tdiv_cancel _ (by omega)]
  exact w64 (by omega) (by omega)
theorem impl_choose_l0 {n K : Nat} (hn : n ≤ 40) (hK : K ≤ n) : ∀ (d i k : Nat), i + d = K → d < k → impl_choose.l0 k (n : Int) ((C n i : Nat) : Int) (K : Int) (i : Int) = some ((C n K : Nat) : Int) := by
  intro d
  induction d with
  | zero =>
    intro i k hd hk
    obtain ⟨k, rfl⟩ : ∃ m, k = m + 1 := ⟨k - 1, by omega⟩
    rw [impl_choose.l0.eq_2, if_neg (by omega), show i = K by omega]
  | succ d ih =>
    intro i k hd hk
    obtain ⟨k, rfl⟩ : ∃ m, k = m + 1 := ⟨k - 1, by omega⟩
    have hb := C_bd (n := n) (k := i) hn
    have hm := C_mul n i
    have hb1 : C n i * (n - i) ≤ 1099511627776 * 40 := Nat.mul_le_mul hb (by omega)
    have hb2 := C_bd (n := n) (k := i + 1) hn
    rw [impl_choose.l0.eq_2, if_pos (by omega), wadd1 i (by omega), if_neg (by omega), wsubn n i (by omega) (by omega), wmuln _ _ (by omega), wdiv _ _ _ (by omega) hm (by omega)]
    exact ih (i + 1) k (by omega) (by omega)
theorem impl_choose_run {n K : Nat} (hn : n ≤ 40) (hK : K ≤ n) {k : Nat} (hk : 50 ≤ k) : impl_choose.f k (n : Int) (K : Int) = some ((C n K : Nat) : Int) := by
  unfold impl_choose.f
  rw [in_eq, Option.bind_some, decide_eq_true (by omega), if_pos rfl]
  have := impl_choose_l0 hn hK K 0 k (by omega) (by omega)
  rw [C_0] at this
  exact this
/- the reference's row -/
def Rw (K i j : Nat) : List Int := (List.range (K + 1)).map fun t => if t ≤ j then ((C (i - 1) t : Nat) : Int) else ((C i t : Nat) : Int)
theorem Rw_len (K i j : Nat) : (Rw K i j).length = K + 1 := by simp [Rw]
theorem Rw_get {K i j t : Nat} (h : t ≤ K) : rd (Rw K i j) (t : Int) = if t ≤ j then ((C (i - 1) t : Nat) : Int) else ((C i t : Nat) : Int) := by
  unfold rd Rw
  rw [Int.toNat_natCast, List.getD_eq_getElem?_getD, List.getElem?_map, List.getElem?_range (by omega)]
  rfl
theorem Rw_step {K i j : Nat} (hj : j + 1 ≤ K) (hi : 1 ≤ i) : (Rw K i (j + 1)).set (j + 1) ((C i (j + 1) : Nat) : Int) = Rw K i j := by
  apply List.ext_getElem
  · simp [Rw]
  · intro t h1 h2
    simp only [Rw, List.length_map, List.length_range] at h2
    by_cases e : t = j + 1
    · subst e
      rw [List.getElem_set_self]
      simp only [Rw, List.getElem_map, List.getElem_range]
      rw [if_neg (by omega)]
    · rw [List.getElem_set_ne (by omega)]
      simp only [Rw, List.getElem_map, List.getElem_range]
      by_cases e2 : t ≤ j
      · rw [if_pos (by omega), if_pos e2]
      · rw [if_neg (by omega), if_neg e2]
theorem Rw_next (K i : Nat) : Rw K i 0 = Rw K (i + 1) (K + (i + 1)) := by
  apply List.ext_getElem
  · simp [Rw]
  · intro t h1 h2
    simp only [Rw, List.length_map, List.length_range] at h2
    simp only [Rw, List.getElem_map, List.getElem_range]
    rw [if_pos (show t ≤ K + (i + 1) by omega), show i + 1 - 1 = i from rfl]
    by_cases e : t ≤ 0
    · obtain rfl : t = 0 := by omega
      rw [if_pos e, C_0, C_0]
    · rw [if_neg e]
theorem Rw_cut (K i : Nat) (hi : 1 ≤ i) {j : Nat} (h : K ≤ j ∨ i ≤ j) : Rw K i (K + i) = Rw K i j := by
  apply List.ext_getElem
  · simp [Rw]
  · intro t h1 h2
    simp only [Rw, List.length_map, List.length_range] at h2
    simp only [Rw, List.getElem_map, List.getElem_range]
    rw [if_pos (by omega)]
    by_cases e : t ≤ j
    · rw [if_pos e]
    · rw [if_neg e, C_far i t (by omega), C_far (i - 1) t (by omega)]
theorem spec_l1_run {n K i : Nat} (hn : n ≤ 40) (hi : 1 ≤ i) (hi' : i ≤ n) : ∀ (j k : Nat), j ≤ K → K ≤ 40 → spec_paChoose.l1 (k + j + 1) (n : Int) (K : Int) (Rw K i j) (i : Int) (j : Int) = spec_paChoose.l0 k (n : Int) (K : Int) (Rw K i 0) ((i + 1 : Nat) : Int) := by
  intro j
  induction j with
  | zero =>
    intro k _ _
    rw [show k + 0 + 1 = k + 1 from rfl, spec_paChoose.l1.eq_2, if_neg (by omega), wadd1 i (by omega)]
  | succ j ih =>
    intro k hj hK
    have b1 := C_bd (n := i - 1) (k := j + 1) (by omega)
    have b2 := C_bd (n := i - 1) (k := j) (by omega)
    have hl := Rw_len K i (j + 1)
    have hC : C (i - 1) (j + 1) + C (i - 1) j = C i (j + 1) := by
      obtain ⟨q, rfl⟩ : ∃ q, i = q + 1 := ⟨i - 1, by omega⟩
      rw [Nat.add_comm]; rfl
    rw [show k + (j + 1) + 1 = (k + j + 1) + 1 from rfl, spec_paChoose.l1.eq_2, if_pos (by omega), if_pos (by omega), if_pos (by omega), wsub1 (j + 1) (by omega) (by omega), if_pos (by omega), if_pos (by omega), show j + 1 - 1 = j from rfl,
      Rw_get (by omega), Rw_get (by omega), if_pos (by omega), if_pos (by omega), waddn _ _ (by omega), hC, Int.toNat_natCast, Rw_step (by omega) hi]
    exact ih k (by omega) hK
theorem spec_l0_run {n K : Nat} (hn : n ≤ 40) (hK : K ≤ n) : ∀ (d i k : Nat), 1 ≤ i → i + d = n + 1 → d * (K + 3) < k → spec_paChoose.l0 k (n : Int) (K : Int) (Rw K i (K + i)) (i : Int) = some ((C n K : Nat) : Int) := by
  intro d
  induction d with
  | zero =>
    intro i k hi hd hk
    obtain ⟨k, rfl⟩ : ∃ m, k = m + 1 := ⟨k - 1, by omega⟩
    have hl := Rw_len K i (K + i)
    rw [spec_paChoose.l0.eq_2, if_neg (by omega), if_pos (by omega), if_pos (by omega), Rw_get (by omega), if_pos (by omega), show i - 1 = n by omega]
  | succ d ih =>
    intro i k hi hd hk
    obtain ⟨k, rfl⟩ : ∃ m, k = m + 1 := ⟨k - 1, by omega⟩
    rw [Nat.add_mul] at hk
    have hl1 : spec_l1Least.f (i : Int) (K : Int) = some ((min i K : Nat) : Int) := by
      unfold spec_l1Least.f
      by_cases h : (i : Int) < K
      · rw [if_pos h, Nat.min_eq_left (by omega)]
      · rw [if_neg h, Nat.min_eq_right (by omega)]
    rw [spec_paChoose.l0.eq_2, if_pos (by omega), hl1, Option.bind_some, Rw_cut K i hi (j := min i K) (by omega)]
    have hmin : min i K ≤ K := Nat.min_le_right _ _
    obtain ⟨q, rfl⟩ : ∃ q, k = q + min i K + 1 := ⟨k - (min i K + 1), by omega⟩
    rw [spec_l1_run hn hi (by omega) (min i K) q hmin (by omega), Rw_next]
    exact ih (i + 1) q (by omega) (by omega) (by omega)
theorem spec_choose_run {n K : Nat} (hn : n ≤ 40) (hK : K ≤ n) {k : Nat} (hk : 2000 ≤ k) : spec_paChoose.f k (n : Int) (K : Int) = some ((C n K : Nat) : Int) := by
  obtain ⟨k, rfl⟩ : ∃ m, k = m + 1 := ⟨k - 1, by omega⟩
  have er : (List.replicate (K + 1) (0 : Int)).set 0 1 = Rw K 1 (K + 1) := by
    apply List.ext_getElem
    · simp [Rw]
    · intro t h1 h2
      simp only [Rw, List.length_map, List.length_range] at h2
      simp only [Rw, List.getElem_map, List.getElem_range]
      rw [if_pos (by omega)]
      by_cases ht : t = 0
      · subst ht; simp [C]
      · rw [List.getElem_set_ne (by omega)]
        obtain ⟨q, rfl⟩ : ∃ q, t = q + 1 := ⟨t - 1, by omega⟩
        simp [C]
  have hf : n * (K + 3) ≤ 1720 := by
    have := Nat.mul_le_mul hn (show K + 3 ≤ 43 by omega)
    omega
  have := spec_l0_run hn hK n 1 k (by omega) (by omega) (by omega)
  unfold spec_paChoose.f
  rw [if_neg (by omega), decide_eq_false (by omega), spec_paChoose.j0.eq_2, if_neg (by decide), wadd1 K (by omega), if_pos (by omega), if_pos (by omega), Int.toNat_natCast, Option.bind_some, if_pos (by rw [List.length_replicate]; omega), show ((0 : Int)).toNat = 0 from rfl, er]
  exact this

theorem wN (n : Nat) (h : n ≤ 1000000000000) : wrap64 ((n : Int) + 1) = ((n + 1 : Nat) : Int) := by rw [w64 (by omega) (by omega)]; omega
theorem toI_from (L : List Int) (hL : L.length ≤ 1048576) : ∀ (d i k : Nat) (M : List Int), i + d = L.length → M.length = L.length → M.take i = L.take i → d < k → laws_toIntS.l0 k L M (i : Int) = some L := by
  intro d
  induction d with
  | zero =>
    intro i k M hd hM ht hk
    obtain ⟨k, rfl⟩ : ∃ m, k = m + 1 := ⟨k - 1, by omega⟩
    rw [laws_toIntS.l0.eq_2, if_neg (by omega)]
    rw [List.take_of_length_le (by omega), List.take_of_length_le (by omega)] at ht
    rw [ht]
  | succ d ih =>
    intro i k M hd hM ht hk
    obtain ⟨k, rfl⟩ : ∃ m, k = m + 1 := ⟨k - 1, by omega⟩
    rw [laws_toIntS.l0.eq_2, if_pos (by omega), if_pos (by omega), if_pos (by omega), wN i (by omega), Int.toNat_natCast]
    refine ih (i + 1) k _ (by omega) (by rw [List.length_set]; omega) ?_ (by omega)
    have hi : i < L.length := by omega
    rw [List.take_succ_eq_append_getElem (by rw [List.length_set]; omega), List.take_succ_eq_append_getElem hi, List.take_set_of_le (Nat.le_refl i), ht, List.getElem_set_self]
    congr 2
    unfold rd
    rw [Int.toNat_natCast, List.getD_eq_getElem?_getD, List.getElem?_eq_getElem hi]; rfl
theorem toI_run (L : List Int) (hL : L.length ≤ 1048576) {k : Nat} (hk : L.length < k) : laws_toIntS.f k L = some L := by
  unfold laws_toIntS.f
  rw [if_pos (by omega), Int.toNat_natCast, if_pos (by omega)]
  exact toI_from L hL L.length 0 k _ (by omega) (by simp) (by simp) hk
theorem eqI_from (L : List Int) (hL : L.length ≤ 1048576) : ∀ (d i k : Nat), i + d = L.length → d < k → laws_eqIntS.l0 k L L (i : Int) = some true := by
  intro d
  induction d with
  | zero =>
    intro i k hd hk
    obtain ⟨k, rfl⟩ : ∃ m, k = m + 1 := ⟨k - 1, by omega⟩
    rw [laws_eqIntS.l0.eq_2, if_neg (by omega)]
  | succ d ih =>
    intro i k hd hk
    obtain ⟨k, rfl⟩ : ∃ m, k = m + 1 := ⟨k - 1, by omega⟩
    rw [laws_eqIntS.l0.eq_2, if_pos (by omega), if_pos (by omega), if_pos (by omega), if_pos rfl, wN i (by omega)]
    exact ih (i + 1) k (by omega) (by omega)
theorem eqI_run (L : List Int) (hL : L.length ≤ 1048576) {k : Nat} (hk : L.length < k) : laws_eqIntS.f k L L = some true := by
  unfold laws_eqIntS.f
  rw [if_pos rfl]
  exact eqI_from L hL L.length 0 k (by omega) hk

/-- Whether all numbers are in a range. -/
def allIn (lo hi : Int) (L : List Int) : Bool := L.all fun x => decide (lo ≤ x ∧ x ≤ hi)
theorem allIn_drop (lo hi : Int) (L : List Int) (i : Nat) (h : i < L.length) : allIn lo hi (L.drop i) = (decide (lo ≤ rd L (i : Int) ∧ rd L (i : Int) ≤ hi) && allIn lo hi (L.drop (i + 1))) := by
  unfold allIn
  rw [List.drop_eq_getElem_cons h, List.all_cons]
  have : rd L (i : Int) = L[i] := by
    unfold rd
    rw [Int.toNat_natCast, List.getD_eq_getElem?_getD, List.getElem?_eq_getElem h]; rfl
  rw [this]
theorem all_from (lo hi : Int) (L : List Int) (hL : L.length ≤ 1048576) : ∀ (d i k : Nat), i + d = L.length → d < k → spec_l1All.l0 k lo hi L (L.length : Int) (i : Int) = some (allIn lo hi (L.drop i)) := by
  intro d
  induction d with
  | zero =>
    intro i k hd hk
    obtain ⟨k, rfl⟩ : ∃ m, k = m + 1 := ⟨k - 1, by omega⟩
    rw [spec_l1All.l0.eq_2, if_neg (by omega), List.drop_of_length_le (by omega)]; rfl
  | succ d ih =>
    intro i k hd hk
    obtain ⟨k, rfl⟩ : ∃ m, k = m + 1 := ⟨k - 1, by omega⟩
    rw [spec_l1All.l0.eq_2, if_pos (by omega), if_pos (by omega), if_pos (by omega), l1In_eq, Option.bind_some, allIn_drop lo hi L i (by omega)]
    by_cases h : lo ≤ rd L (i : Int) ∧ rd L (i : Int) ≤ hi
    · rw [if_pos (by simpa using h), decide_eq_true h, Bool.true_and, wN i (by omega)]
      exact ih (i + 1) k (by omega) (by omega)
    · rw [if_neg (by simpa using h), decide_eq_false h, Bool.false_and]
theorem all_run (lo hi : Int) (L : List Int) (hL : L.length ≤ 1048576) {k : Nat} (hk : L.length < k) : spec_l1All.f k L lo hi = some (allIn lo hi L) := by
  unfold spec_l1All.f
  exact all_from lo hi L hL L.length 0 k (by omega) hk
theorem any_out (lo hi : Int) (L : List Int) : (L.any fun x => outB lo hi x) = !allIn lo hi L := by
  unfold allIn
  rw [List.not_all_eq_any_not]
  congr 1; funext x
  unfold outB
  congr 1
  rw [Bool.decide_and]

/-- Whether numbers are moments. -/
def momB (L : List Int) : Bool := decide (1 ≤ L.length ∧ L.length ≤ 8) && allIn (-1000000000) 1000000000 L
theorem spec_good (L : List Int) {k : Nat} (hk : 9 ≤ k) : spec_kiGood.f k L = some (momB L) := by
  unfold spec_kiGood.f momB
  rw [l1In_eq, Option.bind_some]
  by_cases h1 : 1 ≤ L.length ∧ L.length ≤ 8
  · rw [if_pos (by simpa using (by omega : (1 : Int) ≤ L.length ∧ (L.length : Int) ≤ 8)), decide_eq_true h1, Bool.true_and, all_run _ _ L (by omega) (by omega), Option.bind_some]
  · rw [if_neg (by simpa using (by omega : ¬ ((1 : Int) ≤ L.length ∧ (L.length : Int) ≤ 8))), decide_eq_false h1, Bool.false_and]
theorem impl_are (L : List Int) (m : Int) (h0 : -1000000000000 ≤ m ∧ m ≤ 1000000000000) : impl_areMoments.f L m = some (decide (1 ≤ L.length ∧ L.length ≤ 8) && allIn (-m) m L) := by
  unfold impl_areMoments.f
  rw [if_pos h0, any_out, Bool.not_not]
  congr 2
  rw [← Bool.decide_and]
  congr 1
  apply propext; omega
theorem impl_good (L : List Int) : impl_areMoments.f L 1000000000 = some (momB L) := impl_are L 1000000000 (by omega)

/-- The numbers from m on. -/
def seqI (m n : Nat) : List Int := (List.range n).map fun i => ((m + i : Nat) : Int)
theorem seqI_len (m n : Nat) : (seqI m n).length = n := by simp [seqI]
theorem rd_seqI {m n i : Nat} (h : i < n) : rd (seqI m n) (i : Int) = ((m + i : Nat) : Int) := by
  unfold rd seqI
  rw [Int.toNat_natCast, List.getD_eq_getElem?_getD, List.getElem?_map, List.getElem?_range h]; rfl
theorem markI_from (m : Nat) (hm : m ≤ 1000000000) (n : Nat) (hn : n ≤ 1048576) : ∀ (d i k : Nat) (M : List Int), i + d = n → M.length = n → M.take i = (seqI m n).take i → d < k → laws_markIntS.l0 k M ((m + i : Nat) : Int) (i : Int) = some (((m + n : Nat) : Int), seqI m n) := by
  intro d
  induction d with
  | zero =>
    intro i k M hd hM ht hk
    obtain ⟨k, rfl⟩ : ∃ m, k = m + 1 := ⟨k - 1, by omega⟩
    rw [laws_markIntS.l0.eq_2, if_neg (by omega)]
    rw [List.take_of_length_le (by omega), List.take_of_length_le (by rw [seqI_len]; omega)] at ht
    rw [ht, show i = n by omega]
  | succ d ih =>
    intro i k M hd hM ht hk
    obtain ⟨k, rfl⟩ : ∃ m, k = m + 1 := ⟨k - 1, by omega⟩
    rw [laws_markIntS.l0.eq_2, if_pos (by omega), if_pos (by omega), wN (m + i) (by omega), wN i (by omega), Int.toNat_natCast, show m + i + 1 = m + (i + 1) by omega]
    refine ih (i + 1) k _ (by omega) (by rw [List.length_set]; omega) ?_ (by omega)
    rw [List.take_succ_eq_append_getElem (by rw [List.length_set]; omega), List.take_succ_eq_append_getElem (by rw [seqI_len]; omega), List.take_set_of_le (Nat.le_refl i), ht, List.getElem_set_self]
    congr 2
    simp [seqI]
theorem markI_run (L : List Int) (hL : L.length ≤ 1048576) {k : Nat} (hk : L.length < k) : laws_markIntS.f k L 1 = some (((1 + L.length : Nat) : Int), seqI 1 L.length) := by
  unfold laws_markIntS.f
  exact markI_from 1 (by omega) L.length hL L.length 0 k L (by omega) rfl (by simp) hk
theorem heldI_from (m : Nat) (hm : m ≤ 1000000000) (n : Nat) (hn : n ≤ 1048576) : ∀ (d i k : Nat), i + d = n → d < k → laws_heldIntS.l0 k (seqI m n) ((m + i : Nat) : Int) (i : Int) = some ((m + n : Nat) : Int) := by
  intro d
  induction d with
  | zero =>
    intro i k hd hk
    obtain ⟨k, rfl⟩ : ∃ m, k = m + 1 := ⟨k - 1, by omega⟩
    rw [laws_heldIntS.l0.eq_2, if_neg (by rw [seqI_len]; omega), show i = n by omega]
  | succ d ih =>
    intro i k hd hk
    obtain ⟨k, rfl⟩ : ∃ m, k = m + 1 := ⟨k - 1, by omega⟩
    rw [laws_heldIntS.l0.eq_2, if_pos (by rw [seqI_len]; omega), if_pos (by omega), rd_seqI (by omega), if_pos rfl, wN (m + i) (by omega), wN i (by omega), show m + i + 1 = m + (i + 1) by omega]
    exact ih (i + 1) k (by omega) (by omega)
theorem heldI_run (n : Nat) (hn : n ≤ 1048576) {k : Nat} (hk : n < k) : laws_heldIntS.f k (seqI 1 n) 1 = some ((1 + n : Nat) : Int) := by
  unfold laws_heldIntS.f
  exact heldI_from 1 (by omega) n hn n 0 k (by omega) hk

theorem sums_run (L : List Int) (hL : L.length ≤ 8) (a : Int) (n : Nat) (hn : n < L.length) (K : Nat) (hK : 2000 ≤ K) (out : List Int) (ho : out.length ≤ 8) :
    ∀ (d : Nat) (s p : Int), d ≤ n + 1 → ∃ s' : Int, spec_ShiftMoments.l1 (K + d + 1) L a out (n : Int) s p ((d : Int) - 1) (L.length : Int) (n : Int) = spec_ShiftMoments.l0 K L a (out ++ [s']) (L.length : Int) ((n + 1 : Nat) : Int) ∧
      impl_ShiftMoments.l1 (K + d + 1) L a out (n : Int) s p ((d : Int) - 1) (L.length : Int) (n : Int) = impl_ShiftMoments.l0 K L a (out ++ [s']) (L.length : Int) ((n + 1 : Nat) : Int) := by
  intro d
  induction d with
  | zero =>
    intro s p hd
    refine ⟨s, ?_, ?_⟩
    · rw [show K + 0 + 1 = K + 1 from rfl, spec_ShiftMoments.l1.eq_2, if_neg (by omega), if_pos (by omega), wN n (by omega)]
    · rw [show K + 0 + 1 = K + 1 from rfl, impl_ShiftMoments.l1.eq_2, if_neg (by omega), if_pos (by omega), wN n (by omega)]
  | succ d ih =>
    intro s p hd
    have e : ((d + 1 : Nat) : Int) - 1 = (d : Int) := by omega
    have e2 : wrap64 ((d : Int) - 1) = (d : Int) - 1 := w64 (by omega) (by omega)
    obtain ⟨s', h1, h2⟩ := ih (wrap64 (s + (wrap64 ((wrap64 (((C n d : Nat) : Int) * p)) * (rd L (d : Int)))))) (wrap64 (p * a)) (by omega)
    refine ⟨s', ?_, ?_⟩
    · rw [show K + (d + 1) + 1 = (K + d + 1) + 1 from rfl, e, spec_ShiftMoments.l1.eq_2, if_pos (by omega), spec_choose_run (n := n) (K := d) (by omega) (by omega) (by omega), Option.bind_some, if_pos (by omega), if_pos (by omega), e2]
      exact h1
    · rw [show K + (d + 1) + 1 = (K + d + 1) + 1 from rfl, e, impl_ShiftMoments.l1.eq_2, if_pos (by omega), impl_choose_run (n := n) (K := d) (by omega) (by omega) (by omega), Option.bind_some, if_pos (by omega), if_pos (by omega), e2]
      exact h2
theorem lists_run (L : List Int) (hL : L.length ≤ 8) (a : Int) : ∀ (d n : Nat) (out : List Int) (K : Nat), n + d = L.length → out.length = n → 2000 + d * 20 ≤ K →
    ∃ (R : List Int) (t : Bool), R.length ≤ 8 ∧ spec_ShiftMoments.l0 K L a out (L.length : Int) (n : Int) = some (R, t) ∧ impl_ShiftMoments.l0 K L a out (L.length : Int) (n : Int) = some (R, t) := by
  intro d
  induction d with
  | zero =>
    intro n out K hd ho hK
    obtain ⟨K, rfl⟩ : ∃ m, K = m + 1 := ⟨K - 1, by omega⟩
    rw [spec_ShiftMoments.l0.eq_2, if_neg (by omega), impl_ShiftMoments.l0.eq_2, if_neg (by omega), spec_good out (by omega), impl_good, Option.bind_some]
    cases momB out with
    | true => exact ⟨out, true, by omega, rfl, rfl⟩
    | false => exact ⟨[], false, by simp, rfl, rfl⟩
  | succ d ih =>
    intro n out K hd ho hK
    obtain ⟨q, rfl⟩ : ∃ q, K = (q + (n + 1) + 1) + 1 := ⟨K - (n + 3), by omega⟩
    obtain ⟨s', h1, h2⟩ := sums_run L hL a n (by omega) q (by omega) out (by omega) (n + 1) 0 1 (by omega)
    have e : ((n + 1 : Nat) : Int) - 1 = (n : Int) := by omega
    rw [e] at h1 h2
    rw [spec_ShiftMoments.l0.eq_2, if_pos (by omega), impl_ShiftMoments.l0.eq_2, if_pos (by omega), h1, h2]
    exact ih (n + 1) (out ++ [s']) q (by omega) (by simp; omega) (by omega)
theorem both_same (L : List Int) (a : Int) : ∃ (R : List Int) (t : Bool), R.length ≤ 8 ∧ (∀ k, 3000 ≤ k → spec_ShiftMoments.f k L a = some (R, t)) ∧ (∀ k, 3000 ≤ k → impl_ShiftMoments.f k L a = some (R, t)) := by
  unfold spec_ShiftMoments.f impl_ShiftMoments.f
  by_cases hg : momB L = true
  · have hlen : L.length ≤ 8 := by
      unfold momB at hg
      rw [Bool.and_eq_true] at hg
      have := of_decide_eq_true hg.1
      exact this.2
    obtain ⟨R, t, h0, h1, h2⟩ := lists_run L hlen a L.length 0 [] 2999 (by omega) rfl (by omega)
    by_cases ha : -9 ≤ a ∧ a ≤ 9
    · refine ⟨R, t, h0, fun k hk => ?_, fun k hk => ?_⟩
      · obtain ⟨k, rfl⟩ : ∃ m, k = m + 1 := ⟨k - 1, by omega⟩
        rw [spec_good L (by omega), Option.bind_some, if_pos hg, l1In_eq, Option.bind_some, spec_ShiftMoments.j0.eq_2, if_neg (by simpa using ha)]
        exact at_rounds (fun k => (spec_ShiftMoments.mono_l k).2.1 _ _ _ _ _) (by omega) h1
      · obtain ⟨k, rfl⟩ : ∃ m, k = m + 1 := ⟨k - 1, by omega⟩
        rw [impl_good, Option.bind_some, if_pos hg, in_eq, Option.bind_some, impl_ShiftMoments.j0.eq_2, if_neg (by simpa using ha)]
        exact at_rounds (fun k => (impl_ShiftMoments.mono_l k).2.1 _ _ _ _ _) (by omega) h2
    · refine ⟨[], false, by simp, fun k hk => ?_, fun k hk => ?_⟩
      · obtain ⟨k, rfl⟩ : ∃ m, k = m + 1 := ⟨k - 1, by omega⟩
        rw [spec_good L (by omega), Option.bind_some, if_pos hg, l1In_eq, Option.bind_some, spec_ShiftMoments.j0.eq_2, if_pos (by rw [decide_eq_false ha]; rfl)]
      · obtain ⟨k, rfl⟩ : ∃ m, k = m + 1 := ⟨k - 1, by omega⟩
        rw [impl_good, Option.bind_some, if_pos hg, in_eq, Option.bind_some, impl_ShiftMoments.j0.eq_2, if_pos (by rw [decide_eq_false ha]; rfl)]
  · refine ⟨[], false, by simp, fun k hk => ?_, fun k hk => ?_⟩
    · obtain ⟨k, rfl⟩ : ∃ m, k = m + 1 := ⟨k - 1, by omega⟩
      rw [spec_good L (by omega), Option.bind_some, if_neg hg, spec_ShiftMoments.j0.eq_2, if_pos rfl]
    · obtain ⟨k, rfl⟩ : ∃ m, k = m + 1 := ⟨k - 1, by omega⟩
      rw [impl_good, Option.bind_some, if_neg hg, impl_ShiftMoments.j0.eq_2, if_pos rfl]
theorem FnExactShiftMoments : ∀ (l0 : List Int) (a1 : Int), (l0.length ≤ 9223372036854775807 ∧ ∀ n ∈ l0, (Lit.int .i64 n).wf = true) → (Lit.int .i64 a1).wf = true → ∃ k, laws_FnExactShiftMoments.f k l0 a1 = some true := by
  intro L a _ _
  obtain ⟨K, hK⟩ : ∃ K : Nat, 1048600 < K := ⟨1048601, by omega⟩
  refine ⟨K + 3, ?_⟩
  unfold laws_FnExactShiftMoments.f
  by_cases hl : (L.length : Int) > 1048576
  · rw [if_pos hl]
  obtain ⟨R, t, hR, h1, h2⟩ := both_same L a
  have tI : ∀ k, K ≤ k → laws_toIntS.f k L = some L := fun k hk => toI_run L (by omega) (by omega)
  have eR : ∀ k, K ≤ k → laws_eqIntS.f k R R = some true := fun k hk => eqI_run R (by omega) (by omega)
  rw [if_neg hl, tI _ (by omega), Option.bind_some, h1 _ (by omega), Option.bind_some, Option.bind_some, h2 _ (by omega), Option.bind_some, eR _ (by omega), Option.bind_some, if_pos rfl]
  rw [show K + 3 = (K + 2) + 1 from rfl, laws_FnExactShiftMoments.j0.eq_2, if_neg (by simp), tI _ (by omega), Option.bind_some, eqI_run L (by omega) (by omega), Option.bind_some, if_pos rfl, markI_run L (by omega) (by omega), Option.bind_some, if_neg (by omega), eR _ (by omega), Option.bind_some, if_pos rfl]
  rw [show K + 2 = (K + 1) + 1 from rfl, laws_FnExactShiftMoments.j1.eq_2, if_neg (by simp), markI_run R (by omega) (by omega), Option.bind_some, heldI_run R.length (by omega) (by omega), Option.bind_some, if_neg (by omega), if_pos rfl, tI _ (by omega), Option.bind_some, h2 _ (by omega), Option.bind_some, eR _ (by omega), Option.bind_some, if_pos rfl]
  rw [laws_FnExactShiftMoments.j2.eq_2, if_neg (by simp), heldI_run R.length (by omega) (by omega), Option.bind_some, if_neg (by omega), if_pos rfl]
end Go.Proofs.Ytobdaglkdnfnlaa.Pure
